/-
  SOME OF MY TEXTS in one: Zx Zv Zs Zt Zw Zny Zn Zl. Each says what it proves.
-/
import Derived.Test.YthlocmhfjandlaaDoorBq
import Derived.Test.YthlocmhfjandlaaDoorBe
import Derived.Test.YthlocmhfjandlaaDoorZp
import Derived.Test.YthlocmhfjandlaaDoorHg
import Derived.Test.YthlocmhfjandlaaDoorDo
import Derived.Test.YthlocmhfjandlaaDoorZr
import Derived.Test.YthlocmhfjandlaaDoorRx
import Derived.Test.YthlocmhfjandlaaDoorBa
import Derived.Test.YthlocmhfjandlaaDoorLk
set_option linter.unusedVariables false
set_option linter.unusedSimpArgs false
/-
  PLAIN: a quotient of whole numbers, rounded.
-/
namespace Go.Proofs.YthlocmhfjandlaaDoor.Fm

theorem PkC_scale {le lt le' lt' : Nat → Prop} {w : Nat} (h1 : ∀ M, le (M * w) ↔ le' M) (h2 : ∀ M, lt (M * w) ↔ lt' M) (k n : Nat) : PkC k w le lt n ↔ PkC k 1 le' lt' n := by
  have e1 : ∀ x, 2 * (x * w) = (2 * (x * 1)) * w := fun x => by rw [Nat.mul_one, Nat.mul_assoc]
  have e2 : ∀ x, x * w = (x * 1) * w := fun x => by rw [Nat.mul_one]
  rcases k with _ | _ | _ | k
  · show (_ ∧ le _) ↔ (_ ∧ le' _); rw [e1, h1]
  · show (_ ∧ (_ ∨ lt _)) ↔ (_ ∧ (_ ∨ lt' _)); rw [e1, h2]
  · show (_ ∧ (_ ∨ lt _ ∨ (le _ ∧ _))) ↔ (_ ∧ (_ ∨ lt' _ ∨ (le' _ ∧ _))); rw [e2, h1, h2]
  · show (_ ∧ (_ ∨ le _)) ↔ (_ ∧ (_ ∨ le' _)); rw [e2, h1]
def K74 : Nat := 1074
def K24 : Nat := 1024
/-- so many of the least ones are 1 -/
def u74 : Nat := 2 ^ K74
def w24 : Nat := 2 ^ K24
theorem pow74 (t : Nat) : 2 ^ (1074 + t) = u74 * 2 ^ t := by
  rw [show 1074 + t = K74 + t from rfl, Nat.pow_add]; rfl
theorem u74_pos : 0 < u74 := Nat.two_pow_pos _
theorem w24_pos : 0 < w24 := Nat.two_pow_pos _
/-- twice the number is no more, less, than M of the least ones -/
def qle (A B M : Nat) : Prop := M * B ≤ 2 * (A * u74)
def qlt (A B M : Nat) : Prop := M * B < 2 * (A * u74)
theorem cut_q (A : Nat) {B : Nat} (hB : 0 < B) : Cut (qle A B) (qlt A B) :=
  ⟨fun M N h1 h2 => Nat.le_trans (Nat.mul_le_mul_right _ h1) h2, fun M N h1 h2 => Nat.lt_of_lt_of_le (Nat.mul_lt_mul_of_pos_right h1 hB) h2, fun M h => Nat.le_of_lt h⟩
/-- A by B, rounded: its rank -/
def rat (k A B : Nat) : Nat := if A = 0 then 0 else numk k (ratD false A B 0).m (ratD false A B 0).e
def ratC (A B : Nat) : Bool := if A = 0 then false else chg (ratD false A B 0).m (ratD false A B 0).e
theorem MR_pos : 0 < MR := by decide
theorem PkC_zero {B : Nat} (hB : 0 < B) (k n : Nat) : n ≤ 0 ↔ PkC k 1 (qle 0 B) (qlt 0 B) n := by
  have hq : ∀ M, qle 0 B M ↔ M = 0 := fun M => by
    unfold qle
    rw [Nat.zero_mul, Nat.mul_zero, Nat.le_zero, Nat.mul_eq_zero]; omega
  have hl : ∀ M, ¬ qlt 0 B M := fun M => by unfold qlt; omega
  have h1 := MR_pos
  have hz := mag_zero
  have hm : ∀ j, mag j = 0 → j = 0 := fun j h => mag_inj (h.trans hz.symm)
  have hs : ∀ j, j ≠ 0 → mag (j - 1) + mag j ≠ 0 := fun j h h2 => h (hm j (by omega))
  rcases k with _ | _ | _ | k
  · show _ ↔ (_ ∧ qle _ _ _)
    rw [hq]
    constructor
    · intro h
      rw [show n = 0 by omega, hz]; omega
    · rintro ⟨-, h⟩
      have := hm n (by omega); omega
  · show _ ↔ (_ ∧ (_ ∨ qlt _ _ _))
    have := hl (2 * (mag (n - 1) * 1))
    constructor
    · intro h; omega
    · rintro ⟨-, h | h⟩
      · omega
      · exact absurd h this
  · show _ ↔ (_ ∧ (_ ∨ qlt _ _ _ ∨ (qle _ _ _ ∧ _)))
    rw [hq]
    have := hl ((mag (n - 1) + mag n) * 1)
    constructor
    · intro h; omega
    · rintro ⟨-, h | h | ⟨h, -⟩⟩
      · omega
      · exact absurd h this
      · rcases Nat.eq_zero_or_pos n with h0 | h0
        · omega
        · exact absurd (by omega) (hs n (by omega))
  · show _ ↔ (_ ∧ (_ ∨ qle _ _ _))
    rw [hq]
    constructor
    · intro h; omega
    · rintro ⟨-, h | h⟩
      · omega
      · rcases Nat.eq_zero_or_pos n with h0 | h0
        · omega
        · exact absurd (by omega) (hs n (by omega))
theorem rat_iff (k A : Nat) {B : Nat} (hB : 0 < B) (n : Nat) : n ≤ rat k A B ↔ PkC k 1 (qle A B) (qlt A B) n := by
  unfold rat
  split
  · rename_i h; rw [h]; exact PkC_zero hB k n
  · rename_i h
    obtain ⟨t, ht⟩ : ∃ t : Nat, 0 ≤ (0 : Int) - qk A B - 2 + 1074 + t := ⟨qk A B + 2, by omega⟩
    rw [(ratio_num h (by omega) (E := 0) (t := t) ht false k n).1]
    have e : ((0 : Int) + 1074 + (t : Int)).toNat = 1074 + t := by omega
    rw [e]
    have hp := Nat.two_pow_pos t
    have e2 : 2 * (A * 2 ^ (1074 + t)) = 2 * (A * u74) * 2 ^ t := by rw [pow74, ← Nat.mul_assoc, ← Nat.mul_assoc, ← Nat.mul_assoc]
    apply PkC_scale
    · intro M
      rw [e2, Nat.mul_right_comm]
      exact Nat.mul_le_mul_right_iff hp
    · intro M
      rw [e2, Nat.mul_right_comm]
      exact Nat.mul_lt_mul_right hp
theorem ratC_iff (A : Nat) {B : Nat} (hB : 0 < B) : ratC A B = false ↔ ∃ r, r < MR ∧ mag r * B = A * u74 := by
  unfold ratC
  split
  · rename_i h; rw [h]
    exact ⟨fun _ => ⟨0, MR_pos, by rw [mag_zero]; omega⟩, fun _ => rfl⟩
  · rename_i h
    obtain ⟨t, ht⟩ : ∃ t : Nat, 0 ≤ (0 : Int) - qk A B - 2 + 1074 + t := ⟨qk A B + 2, by omega⟩
    rw [(ratio_num h (by omega) (E := 0) (t := t) ht false 0 0).2]
    have e : ((0 : Int) + 1074 + (t : Int)).toNat = 1074 + t := by omega
    rw [e, pow74]
    have hp := Nat.two_pow_pos t
    have hx : ∀ r, mag r * 2 ^ t * B = A * (u74 * 2 ^ t) ↔ mag r * B = A * u74 := fun r => by
      rw [Nat.mul_right_comm, ← Nat.mul_assoc]
      exact ⟨fun h => Nat.eq_of_mul_eq_mul_right hp h, fun h => by rw [h]⟩
    exact ⟨fun ⟨r, h1, h2⟩ => ⟨r, h1, (hx r).1 h2⟩, fun ⟨r, h1, h2⟩ => ⟨r, h1, (hx r).2 h2⟩⟩
theorem rat_le_MR (k A : Nat) {B : Nat} (hB : 0 < B) : rat k A B ≤ MR := by
  have := (rat_iff k A hB (rat k A B)).1 (Nat.le_refl _)
  rcases k with _ | _ | _ | k
  · exact Nat.le_trans this.1 (Nat.sub_le _ _)
  · exact this.1
  · exact this.1
  · exact this.1
theorem q_le_of {A B A' B' : Nat} (hB : 0 < B) (hB' : 0 < B') (h : A * B' ≤ A' * B) (M : Nat) : (qle A B M → qle A' B' M) ∧ (qlt A B M → qlt A' B' M) := by
  have h1 : 2 * (A * u74) * B' ≤ 2 * (A' * u74) * B := by
    have e1 : 2 * (A * u74) * B' = 2 * (A * B' * u74) := by rw [Nat.mul_assoc, Nat.mul_right_comm A]
    have e2 : 2 * (A' * u74) * B = 2 * (A' * B * u74) := by rw [Nat.mul_assoc, Nat.mul_right_comm A']
    rw [e1, e2]
    exact Nat.mul_le_mul_left _ (Nat.mul_le_mul_right _ h)
  constructor
  · intro hq
    unfold qle at hq ⊢
    apply Nat.le_of_mul_le_mul_right _ hB
    calc M * B' * B = M * B * B' := Nat.mul_right_comm _ _ _
      _ ≤ 2 * (A * u74) * B' := Nat.mul_le_mul_right _ hq
      _ ≤ _ := h1
  · intro hq
    unfold qlt at hq ⊢
    apply Nat.lt_of_mul_lt_mul_right (a := B)
    calc M * B' * B = M * B * B' := Nat.mul_right_comm _ _ _
      _ < 2 * (A * u74) * B' := Nat.mul_lt_mul_of_pos_right hq hB'
      _ ≤ _ := h1
/-- of what is more no less comes -/
theorem rat_mono (k : Nat) {A B A' B' : Nat} (hB : 0 < B) (hB' : 0 < B') (h : A * B' ≤ A' * B) : rat k A B ≤ rat k A' B' := by
  rw [rat_iff k A' hB']
  exact PkC_mono (fun M => (q_le_of hB hB' h M).1) (fun M => (q_le_of hB hB' h M).2) ((rat_iff k A hB _).1 (Nat.le_refl _))
theorem rat_congr (k : Nat) {A B A' B' : Nat} (hB : 0 < B) (hB' : 0 < B') (h : A * B' = A' * B) : rat k A B = rat k A' B' :=
  Nat.le_antisymm (rat_mono k hB hB' (Nat.le_of_eq h)) (rat_mono k hB' hB (Nat.le_of_eq h.symm))
theorem bool_eq {a b : Bool} (h : a = false ↔ b = false) : a = b := by cases a <;> cases b <;> simp_all
theorem ratC_congr {A B A' B' : Nat} (hB : 0 < B) (hB' : 0 < B') (h : A * B' = A' * B) : ratC A B = ratC A' B' := by
  apply bool_eq
  rw [ratC_iff A hB, ratC_iff A' hB']
  constructor
  · rintro ⟨r, h1, h2⟩
    refine ⟨r, h1, Nat.eq_of_mul_eq_mul_right hB ?_⟩
    calc mag r * B' * B = mag r * B * B' := Nat.mul_right_comm _ _ _
      _ = A * u74 * B' := by rw [h2]
      _ = A * B' * u74 := Nat.mul_right_comm _ _ _
      _ = A' * B * u74 := by rw [h]
      _ = _ := Nat.mul_right_comm _ _ _
  · rintro ⟨r, h1, h2⟩
    refine ⟨r, h1, Nat.eq_of_mul_eq_mul_right hB' ?_⟩
    calc mag r * B * B' = mag r * B' * B := Nat.mul_right_comm _ _ _
      _ = A' * u74 * B := by rw [h2]
      _ = A' * B * u74 := Nat.mul_right_comm _ _ _
      _ = A * B' * u74 := by rw [h]
      _ = _ := Nat.mul_right_comm _ _ _
/-- what a number with a value is rounded to -/
theorem rat_exact (k : Nat) {A B r : Nat} (hB : 0 < B) (hr : r < MR) (h : mag r * B = A * u74) : rat k A B = r ∧ ratC A B = false := by
  refine ⟨?_, (ratC_iff A hB).2 ⟨r, hr, h⟩⟩
  by_cases h0 : A = 0
  · have hm : mag r = 0 := by
      rw [h0, Nat.zero_mul] at h
      rcases Nat.mul_eq_zero.1 h with h | h <;> omega
    unfold rat
    rw [if_pos h0]
    exact (mag_inj (hm.trans mag_zero.symm)).symm
  · have hk : ∀ k n, n ≤ numk k (ratD false A B 0).m (ratD false A B 0).e ↔ PkC k 1 (qle A B) (qlt A B) n := fun k n => by
      have := rat_iff k A hB n
      unfold rat at this
      rwa [if_neg h0] at this
    have e1 : 2 * (mag r * 1) * B = 2 * (A * u74) := by rw [Nat.mul_one, Nat.mul_assoc, h]
    have := num_at (by omega) (cut_q A hB) hk hr (Nat.le_of_eq e1) (fun h2 => absurd h2 (by unfold qlt; omega)) k
    unfold rat
    rw [if_neg h0]
    exact this
/-- an exact number's -/
theorem rat_of_tt {t m A B : Nat} {e : Int} (hB : 0 < B) (ht : 0 ≤ e + 1074 + t) (h : tt t m e * B = A * (u74 * 2 ^ t)) (k : Nat) : numk k m e = rat k A B ∧ chg m e = ratC A B := by
  have hp := Nat.two_pow_pos t
  have h2 : tt t m e * B = A * u74 * 2 ^ t := by rw [h, ← Nat.mul_assoc]
  constructor
  · have hx : ∀ n, n ≤ numk k m e ↔ n ≤ rat k A B := fun n => by
      rw [numk_iff ht k n, ← PkC_tt, rat_iff k A hB n]
      have e3 : 2 * tt t m e * B = 2 * (A * u74) * 2 ^ t := by rw [Nat.mul_assoc, h2, ← Nat.mul_assoc]
      apply PkC_scale
      · intro M
        unfold qle
        constructor
        · intro h4
          have := Nat.mul_le_mul_right B h4
          rw [e3, Nat.mul_right_comm] at this
          exact Nat.le_of_mul_le_mul_right this hp
        · intro h4
          have := Nat.mul_le_mul_right (2 ^ t) h4
          rw [← e3, Nat.mul_right_comm] at this
          exact Nat.le_of_mul_le_mul_right this hB
      · intro M
        unfold qlt
        constructor
        · intro h4
          have := Nat.mul_lt_mul_of_pos_right h4 hB
          rw [e3, Nat.mul_right_comm] at this
          exact Nat.lt_of_mul_lt_mul_right this
        · intro h4
          have := Nat.mul_lt_mul_of_pos_right h4 hp
          rw [← e3, Nat.mul_right_comm] at this
          exact Nat.lt_of_mul_lt_mul_right this
    exact Nat.le_antisymm ((hx _).1 (Nat.le_refl _)) ((hx _).2 (Nat.le_refl _))
  · apply bool_eq
    rw [chg_iff ht, ratC_iff A hB]
    constructor
    · rintro ⟨r, h3, h4⟩
      refine ⟨r, h3, Nat.eq_of_mul_eq_mul_right hp ?_⟩
      rw [← h2, h4, Nat.mul_right_comm]
    · rintro ⟨r, h3, h4⟩
      refine ⟨r, h3, Nat.eq_of_mul_eq_mul_right hB ?_⟩
      rw [h2, ← h4, Nat.mul_right_comm]
/-- what is beyond all numbers, counted in the least ones -/
def u98 : Nat := w24 * u74
theorem mag_MR : mag MR = u98 := by
  obtain ⟨j, hj⟩ : ∃ j : Nat, j = 2046 := ⟨_, rfl⟩
  have h := mag_of 4503599627370496 j (by omega) (by omega)
  have e1 : 4503599627370496 + j * 4503599627370496 = MR := by rw [hj]; rfl
  have e2 : (4503599627370496 : Nat) = 2 ^ 52 := by decide
  have e3 : 52 + j = K24 + K74 := by rw [hj]; rfl
  rw [e1] at h
  rw [h, e2, ← Nat.pow_add, e3, Nat.pow_add, u98, w24, u74]
theorem mag_bd {n : Nat} (h : n ≤ MR) : mag n ≤ u98 := by rw [← mag_MR]; exact mag_mono h
/-- what is beyond all numbers -/
theorem rat_top (k : Nat) {A B : Nat} (hB : 0 < B) (h : B * (2 * w24) ≤ A) : rat k A B = (if k = 0 then MR - 1 else MR) ∧ ratC A B = true := by
  have hlt : ∀ M, M ≤ u98 → qlt A B (2 * M) := fun M hM => by
    unfold qlt
    rw [Nat.mul_assoc]
    apply Nat.mul_lt_mul_of_pos_left _ (by omega)
    have h6 := Nat.mul_pos hB (Nat.mul_pos w24_pos u74_pos)
    calc M * B ≤ u98 * B := Nat.mul_le_mul_right _ hM
      _ = B * (w24 * u74) := by rw [u98, Nat.mul_comm]
      _ < B * (w24 * u74) + B * (w24 * u74) := Nat.lt_add_of_pos_right h6
      _ = B * (2 * w24) * u74 := by rw [← Nat.two_mul, Nat.mul_left_comm, ← Nat.mul_assoc 2, Nat.mul_assoc B]
      _ ≤ _ := Nat.mul_le_mul_right _ h
  have c := cut_q A hB
  have hMR : MR = 9218868437227405312 := rfl
  have b1 := mag_bd (Nat.sub_le MR 1)
  have b2 := mag_bd (Nat.le_refl MR)
  have b3 : mag (MR - 1) ≤ mag MR := mag_mono (Nat.sub_le _ _)
  have hs : qlt A B ((mag (MR - 1) + mag MR) * 1) := c.ltdown (N := 2 * mag MR) (by clear h b1 b2 hlt; omega) (hlt _ b2)
  constructor
  · have hl := rat_le_MR k A hB
    apply Nat.le_antisymm
    · split
      · rename_i h0
        subst h0
        exact ((rat_iff 0 A hB _).1 (Nat.le_refl _)).1
      · exact hl
    · by_cases hk : k = 0
      · rw [if_pos hk, rat_iff k A hB, hk]
        refine ⟨Nat.le_refl _, c.weak _ ?_⟩
        rw [Nat.mul_one]
        exact hlt _ b1
      · rw [if_neg hk, rat_iff k A hB]
        rcases k with _ | _ | _ | k
        · exact absurd rfl hk
        · refine ⟨Nat.le_refl _, Or.inr ?_⟩
          rw [Nat.mul_one]
          exact hlt _ b1
        · exact ⟨Nat.le_refl _, Or.inr (Or.inl hs)⟩
        · exact ⟨Nat.le_refl _, Or.inr (c.weak _ hs)⟩
  · rw [← Bool.not_eq_false, ratC_iff A hB]
    rintro ⟨r, h1, h2⟩
    have := hlt _ (mag_bd (Nat.le_of_lt h1))
    unfold qlt at this
    rw [Nat.mul_assoc] at this
    omega
/-- what is less than half the least number -/
theorem rat_tiny (k : Nat) {A B : Nat} (hA : 0 < A) (h : A * (4 * u74) ≤ B) : rat k A B = (if k = 1 then 1 else 0) ∧ ratC A B = true := by
  have hB : 0 < B := Nat.lt_of_lt_of_le (Nat.mul_pos hA (Nat.mul_pos (by omega) u74_pos)) h
  have hx : 2 * (A * u74) < B := by
    have e : A * (4 * u74) = 4 * (A * u74) := Nat.mul_left_comm _ _ _
    have h7 := Nat.mul_pos hA u74_pos
    rw [e] at h
    omega
  have hn : ∀ M, 0 < M → ¬ qle A B M := fun M hM h2 => by
    unfold qle at h2
    have := Nat.le_trans (Nat.le_mul_of_pos_left B hM) h2
    omega
  have c := cut_q A hB
  have hMR : MR = 9218868437227405312 := rfl
  have hm : ∀ j, 0 < j → 0 < mag j := fun j hj => by have := mag_lt hj; rw [mag_zero] at this; exact this
  constructor
  · have hup : ∀ n, (if k = 1 then 1 else 0) < n → ¬ n ≤ rat k A B := fun n hj h2 => by
      rw [rat_iff k A hB] at h2
      rcases k with _ | _ | _ | k
      · exact hn _ (by have := hm n (by omega); omega) h2.2
      · rcases h2.2 with h3 | h3
        · omega
        · simp at hj
          exact hn _ (by have := hm (n - 1) (by omega); omega) (c.weak _ h3)
      · have hj2 : 0 < n := by simp at hj; omega
        rcases h2.2 with h3 | h3 | h3
        · omega
        · exact hn _ (by have := hm n hj2; omega) (c.weak _ h3)
        · exact hn _ (by have := hm n hj2; omega) h3.1
      · have hj2 : 0 < n := by simp at hj; omega
        rcases h2.2 with h3 | h3
        · omega
        · exact hn _ (by have := hm n hj2; omega) h3
    apply Nat.le_antisymm
    · exact Nat.le_of_not_lt fun h2 => hup _ h2 (Nat.le_refl _)
    · split
      · rename_i hk
        subst hk
        rw [rat_iff 1 A hB]
        refine ⟨by omega, Or.inr ?_⟩
        show qlt A B (2 * (mag 0 * 1))
        rw [mag_zero]
        unfold qlt
        have := Nat.mul_pos hA u74_pos
        omega
      · omega
  · rw [← Bool.not_eq_false, ratC_iff A hB]
    rintro ⟨r, h1, h2⟩
    have h3 := Nat.mul_pos hA u74_pos
    rcases Nat.eq_zero_or_pos (mag r) with h4 | h4
    · rw [h4] at h2; omega
    · have := Nat.le_mul_of_pos_left B h4
      omega
/-- a quotient's -/
theorem rat_of_ratio {c d A B : Nat} {E : Int} (hc : c ≠ 0) (hd : d ≠ 0) (hB : 0 < B) (hs : ∀ s : Nat, 0 ≤ E + s → c * 2 ^ (E + s).toNat * B = A * d * 2 ^ s) (neg : Bool) (k : Nat) :
    numk k (ratD neg c d E).m (ratD neg c d E).e = rat k A B ∧ chg (ratD neg c d E).m (ratD neg c d E).e = ratC A B := by
  obtain ⟨t, ht⟩ : ∃ t : Nat, 0 ≤ E - qk c d - 2 + 1074 + t := ⟨(qk c d + 2 - E).toNat, by omega⟩
  have hp := Nat.two_pow_pos t
  have hd0 : 0 < d := by omega
  have h2 : c * 2 ^ (E + 1074 + t).toNat * B = A * u74 * (2 ^ t * d) := by
    have := hs (1074 + t) (by omega)
    rw [show E + ((1074 + t : Nat) : Int) = E + 1074 + t by omega, pow74] at this
    rw [this]
    simp only [Nat.mul_assoc, Nat.mul_comm, Nat.mul_left_comm]
  have h3 : ∀ M, M * 2 ^ t * d * B = M * B * (2 ^ t * d) := fun M => by simp only [Nat.mul_assoc, Nat.mul_comm, Nat.mul_left_comm]
  have h4 : 2 * (c * 2 ^ (E + 1074 + t).toNat) * B = 2 * (A * u74) * (2 ^ t * d) := by rw [Nat.mul_assoc, h2, ← Nat.mul_assoc]
  have hq : 0 < 2 ^ t * d := Nat.mul_pos hp hd0
  constructor
  · have hx : ∀ n, n ≤ numk k (ratD neg c d E).m (ratD neg c d E).e ↔ n ≤ rat k A B := fun n => by
      rw [(ratio_num hc hd ht neg k n).1, rat_iff k A hB n]
      apply PkC_scale
      · intro M
        unfold qle
        constructor
        · intro h5
          have := Nat.mul_le_mul_right B h5
          rw [h3, h4] at this
          exact Nat.le_of_mul_le_mul_right this hq
        · intro h5
          have := Nat.mul_le_mul_right (2 ^ t * d) h5
          rw [← h3, ← h4] at this
          exact Nat.le_of_mul_le_mul_right this hB
      · intro M
        unfold qlt
        constructor
        · intro h5
          have := Nat.mul_lt_mul_of_pos_right h5 hB
          rw [h3, h4] at this
          exact Nat.lt_of_mul_lt_mul_right this
        · intro h5
          have := Nat.mul_lt_mul_of_pos_right h5 hq
          rw [← h3, ← h4] at this
          exact Nat.lt_of_mul_lt_mul_right this
    exact Nat.le_antisymm ((hx _).1 (Nat.le_refl _)) ((hx _).2 (Nat.le_refl _))
  · apply bool_eq
    rw [(ratio_num hc hd ht neg 0 0).2, ratC_iff A hB]
    constructor
    · rintro ⟨r, h5, h6⟩
      refine ⟨r, h5, Nat.eq_of_mul_eq_mul_right hq ?_⟩
      rw [← h2, ← h6, h3]
    · rintro ⟨r, h5, h6⟩
      refine ⟨r, h5, Nat.eq_of_mul_eq_mul_right hB ?_⟩
      rw [h2, ← h6, h3]
end Go.Proofs.YthlocmhfjandlaaDoor.Fm

/-
  PLAIN: digits times a power of ten, made ready to be rounded (read.value).
-/
namespace Go.Proofs.YthlocmhfjandlaaDoor
open Fm

/-- what read.value tells of L digits that count N, times 10^K -/
def rvD (neg : Bool) (L N : Nat) (K : Int) : D :=
  if 400 < (L : Int) + K then ⟨neg, 1, 2000⟩ else if (L : Int) + K < -400 then ⟨neg, 1, -2000⟩
  else if 0 ≤ K then norm neg (N * 10 ^ K.toNat) 0
  else ratD ((norm neg (N * 10 ^ K.toNat) 0).neg != (norm false (10 ^ (-K).toNat) 0).neg) (norm neg (N * 10 ^ K.toNat) 0).m (norm false (10 ^ (-K).toNat) 0).m ((norm neg (N * 10 ^ K.toNat) 0).e - (norm false (10 ^ (-K).toNat) 0).e)
/-- the number as a quotient -/
def rdA (N : Nat) (K : Int) : Nat := N * 10 ^ K.toNat
def rdB (K : Int) : Nat := 10 ^ (-K).toNat
theorem rdB_pos (K : Int) : 0 < rdB K := Nat.pow_pos (by omega)
theorem norm_shape {neg : Bool} {a : Nat} (h : a ≠ 0) : ∃ c k : Nat, norm neg a 0 = ⟨neg, c, (k : Int)⟩ ∧ a = c * 2 ^ k ∧ c ≠ 0 := by
  obtain ⟨q, h1, h2⟩ := ctz_spec h
  refine ⟨a / 2 ^ ctz a, ctz a, ?_, ?_, ?_⟩
  · unfold norm; rw [if_neg h, Int.zero_add]
  · have : a / 2 ^ ctz a = q := by
      conv => lhs; lhs; rw [h1]
      exact Nat.mul_div_cancel _ (Nat.two_pow_pos _)
    rw [this]; exact h1
  · have : a / 2 ^ ctz a = q := by
      conv => lhs; lhs; rw [h1]
      exact Nat.mul_div_cancel _ (Nat.two_pow_pos _)
    rw [this]; omega
theorem eight_ten (a b : Nat) (h : b ≤ 3 * a) : 2 ^ b ≤ 10 ^ a :=
  Nat.le_trans (Nat.pow_le_pow_right (by omega) h) (by rw [Nat.pow_mul]; exact Nat.pow_le_pow_left (by omega) a)
theorem w24_two {z : Nat} (h : 2000 ≤ z) : 2 * w24 ≤ 2 ^ z := by
  rw [w24, ← Nat.pow_succ']
  exact Nat.pow_le_pow_right (by omega) (by unfold K24; omega)
theorem u74_two {z : Nat} (h : 2000 ≤ z) : 4 * u74 ≤ 2 ^ z := by
  rw [u74, show 4 = 2 ^ 2 by decide, ← Nat.pow_add]
  exact Nat.pow_le_pow_right (by omega) (by unfold K74; omega)
theorem w24_ten {a : Nat} (h : 400 ≤ a) : 2 * w24 ≤ 10 ^ a := by
  rw [w24, ← Nat.pow_succ']
  exact eight_ten _ _ (by unfold K24; omega)
theorem u74_ten {a : Nat} (h : 401 ≤ a) : 4 * u74 ≤ 10 ^ a := by
  rw [u74, show 4 = 2 ^ 2 by decide, ← Nat.pow_add]
  exact eight_ten _ _ (by unfold K74; omega)
theorem rv_rat (neg : Bool) {L N : Nat} (K : Int) (h1 : 10 ^ (L - 1) ≤ N) (h2 : N < 10 ^ L) (k : Nat) :
    numk k (rvD neg L N K).m (rvD neg L N K).e = rat k (rdA N K) (rdB K) ∧ chg (rvD neg L N K).m (rvD neg L N K).e = ratC (rdA N K) (rdB K) ∧ (rvD neg L N K).neg = neg := by
  have hN : 0 < N := Nat.lt_of_lt_of_le (Nat.pow_pos (by omega)) h1
  have hL : 0 < L := by
    rcases Nat.eq_zero_or_pos L with h | h
    · rw [h] at h2; simp at h2; omega
    · exact h
  have hBp := rdB_pos K
  have h10 : ∀ n : Nat, 0 < 10 ^ n := fun n => Nat.pow_pos (by omega)
  unfold rvD
  obtain ⟨z, hz⟩ : ∃ z : Nat, z = 2000 := ⟨_, rfl⟩
  split
  · rename_i hb
    have e1 := rat_of_tt (t := 0) (m := 1) (A := 2 ^ z) (B := 1) (e := 2000) (by omega) (by omega) (by
      unfold tt
      rw [Nat.mul_one, Nat.one_mul, Nat.pow_zero, Nat.mul_one, u74, ← Nat.pow_add]
      congr 1
      unfold K74
      omega) k
    have e2 := rat_top k (A := 2 ^ z) (B := 1) (by omega) (by rw [Nat.one_mul]; exact w24_two (by omega))
    have e3 := rat_top k (A := rdA N K) (B := rdB K) hBp (by
      unfold rdA rdB
      calc 10 ^ (-K).toNat * (2 * w24) ≤ 10 ^ (-K).toNat * 10 ^ (L - 1 + K.toNat - (-K).toNat) := Nat.mul_le_mul_left _ (w24_ten (by omega))
        _ = 10 ^ (L - 1 + K.toNat) := by rw [← Nat.pow_add]; congr 1; omega
        _ = 10 ^ (L - 1) * 10 ^ K.toNat := Nat.pow_add _ _ _
        _ ≤ _ := Nat.mul_le_mul_right _ h1)
    exact ⟨by rw [e1.1, e2.1, e3.1], by rw [e1.2, e2.2, e3.2], rfl⟩
  · split
    · rename_i ha hb
      obtain ⟨tn, htn⟩ : ∃ tn : Nat, tn = 926 := ⟨_, rfl⟩
      have e1 := rat_of_tt (t := tn) (m := 1) (A := 1) (B := 2 ^ z) (e := -2000) (Nat.two_pow_pos _) (by omega) (by
        unfold tt
        rw [Nat.one_mul, Nat.one_mul, u74, ← Nat.pow_add, ← Nat.pow_add]
        congr 1
        unfold K74
        omega) k
      have e2 := rat_tiny k (A := 1) (B := 2 ^ z) (by omega) (by rw [Nat.one_mul]; exact u74_two (by omega))
      have e3 := rat_tiny k (A := rdA N K) (B := rdB K) (Nat.mul_pos hN (h10 _)) (by
        unfold rdA rdB
        rw [show K.toNat = 0 by omega, Nat.pow_zero, Nat.mul_one]
        calc N * (4 * u74) ≤ 10 ^ L * 10 ^ ((-K).toNat - L) := Nat.mul_le_mul (Nat.le_of_lt h2) (u74_ten (by omega))
          _ = _ := by rw [← Nat.pow_add]; congr 1; omega)
      exact ⟨by rw [e1.1, e2.1, e3.1], by rw [e1.2, e2.2, e3.2], rfl⟩
    · split
      · rename_i hK
        obtain ⟨c, z, e1, e2, e3⟩ := norm_shape (neg := neg) (a := N * 10 ^ K.toNat) (by have := Nat.mul_pos hN (h10 K.toNat); omega)
        rw [e1]
        have e4 := rat_of_tt (t := 0) (m := c) (A := rdA N K) (B := rdB K) (e := (z : Int)) hBp (by omega) (by
          unfold tt rdA rdB
          rw [show (-K).toNat = 0 by omega, e2, Nat.pow_zero, Nat.mul_one, Nat.mul_one, Nat.mul_assoc, u74, ← Nat.pow_add]
          congr 2) k
        exact ⟨e4.1, e4.2, rfl⟩
      · rename_i hK
        obtain ⟨c, z, e1, e2, e3⟩ := norm_shape (neg := neg) (a := N * 10 ^ K.toNat) (by have := Nat.mul_pos hN (h10 K.toNat); omega)
        obtain ⟨d, y, f1, f2, f3⟩ := norm_shape (neg := false) (a := 10 ^ (-K).toNat) (by have := h10 (-K).toNat; omega)
        rw [e1, f1]
        have e4 := rat_of_ratio (c := c) (d := d) (A := rdA N K) (B := rdB K) (E := (z : Int) - (y : Int)) e3 f3 hBp (by
          intro s hs
          unfold rdA rdB
          rw [e2, f2]
          have : 2 ^ ((z : Int) - (y : Int) + (s : Int)).toNat * 2 ^ y = 2 ^ z * 2 ^ s := by
            rw [← Nat.pow_add, ← Nat.pow_add]; congr 1; omega
          calc c * 2 ^ ((z : Int) - (y : Int) + (s : Int)).toNat * (d * 2 ^ y) = c * d * (2 ^ ((z : Int) - (y : Int) + (s : Int)).toNat * 2 ^ y) := by simp only [Nat.mul_assoc, Nat.mul_comm, Nat.mul_left_comm]
            _ = c * d * (2 ^ z * 2 ^ s) := by rw [this]
            _ = _ := by simp only [Nat.mul_assoc, Nat.mul_comm, Nat.mul_left_comm]) (neg != false) k
        exact ⟨e4.1, e4.2, by unfold ratD; cases neg <;> rfl⟩
end Go.Proofs.YthlocmhfjandlaaDoor

/-
  PLAIN: what read.Number tells of a text; the pieces of texts that are made.
-/
namespace Go.Proofs.YthlocmhfjandlaaDoor
open Fm Fl

def rWhole (s : List UInt8) : List UInt8 := (Lib.trimPrefix s [45]).takeWhile (decCs.contains ·)
def rT2 (s : List UInt8) : List UInt8 := (Lib.trimPrefix s [45]).dropWhile (decCs.contains ·)
def rPt (s : List UInt8) : Bool := Lib.hasPrefix (rT2 s) [46]
def rPart (s : List UInt8) : List UInt8 := if rPt s = true then (Lib.trimPrefix (rT2 s) [46]).takeWhile (decCs.contains ·) else []
def rRest (s : List UInt8) : List UInt8 := if rPt s = true then (Lib.trimPrefix (rT2 s) [46]).dropWhile (decCs.contains ·) else rT2 s
def rDig (s : List UInt8) : List UInt8 := (rWhole s ++ rPart s).dropWhile ([48].contains ·)
def rNeg (s : List UInt8) : Bool := Lib.hasPrefix s [45]
def rErr (s : List UInt8) : Int := rpE s (rWhole s) (rPart s) (rRest s)
def rExp (s : List UInt8) : Int := rpK (rPart s) (rRest s) (rDig s)
def rdN (s : List UInt8) : Nat := dcN 0 (rDig s)
theorem rpc_self (s : List UInt8) : Rpc s (Lib.trimPrefix s [45]) (rWhole s) (rT2 s) (Lib.trimPrefix (rT2 s) [46]) (rPart s) (rRest s) (rDig s) (rNeg s) (rPt s) := ⟨rfl, rfl, rfl, rfl, rfl, rfl, rfl, rfl, rfl⟩
theorem rpc_eq {s t whole t2 r part rest d : List UInt8} {neg pt : Bool} (H : Rpc s t whole t2 r part rest d neg pt) : rWhole s = whole ∧ rPart s = part ∧ rRest s = rest ∧ rDig s = d ∧ rNeg s = neg := by
  obtain ⟨rfl, rfl, rfl, rfl, rfl, rfl, rfl, rfl, rfl⟩ := H
  exact ⟨rfl, rfl, rfl, rfl, rfl⟩
def sInf : List UInt8 := [105, 110, 102]
def sNinf : List UInt8 := [45, 105, 110, 102]
def sNan : List UInt8 := [110, 97, 110]
def readE (s : List UInt8) (mode : Int) : Int := if knownB mode = true then (if s = sInf ∨ s = sNinf ∨ s = sNan then 0 else rErr s) else 1
def readV (s : List UInt8) (mode : Int) : Int :=
  if knownB mode = true then
    (if s = sInf then 9218868437227405312 else if s = sNinf then 18442240474082181120 else if s = sNan then 9221120237041090560
     else if rErr s = 0 then (rat (kd (rNeg s) mode) (rdA (rdN s) (rExp s)) (rdB (rExp s)) : Int) + (if rNeg s = true then 9223372036854775808 else 0) else 0)
  else 0
def readC (s : List UInt8) (mode : Int) : Bool :=
  if knownB mode = true then
    (if s = sInf ∨ s = sNinf ∨ s = sNan then false
     else if rErr s = 0 then ratC (rdA (rdN s) (rExp s)) (rdB (rExp s)) else false)
  else false
theorem rdig_spec (s : List UInt8) : (∀ c ∈ rDig s, dgt c) ∧ (rDig s).length ≤ s.length ∧ (rDig s = [] ∨ ∃ c l, rDig s = c :: l ∧ c ≠ 48) := by
  have H := rpc_self s
  obtain ⟨lw, l1, l2, lr, lp, le, ls, hdg⟩ := rpc_len H
  refine ⟨fun c hc => decCs_dgt (hdg c ?_), ?_, ?_⟩
  · exact (List.dropWhile_sublist _).mem hc
  · have := dropW_len (p := ([48].contains ·)) (rWhole s ++ rPart s)
    rw [List.length_append] at this
    unfold rDig
    omega
  · unfold rDig
    generalize rWhole s ++ rPart s = l
    induction l with
    | nil => exact Or.inl rfl
    | cons c l ih =>
      by_cases hc : c = 48
      · rw [List.dropWhile_cons_of_pos (by simp [hc])]
        exact ih
      · rw [List.dropWhile_cons_of_neg (by simp [hc])]
        exact Or.inr ⟨c, l, rfl, hc⟩
/-- the pieces of a text that is made of digits, perhaps a point and digits, and a tail -/
theorem rpc_mk (neg : Bool) (W P E : List UInt8) (pt : Bool) (hW0 : W ≠ []) (hW : ∀ c ∈ W, decCs.contains c = true) (hP : ∀ c ∈ P, decCs.contains c = true) (hpt : pt = false → P = []) (hE : E = [] ∨ ∃ c l, E = c :: l ∧ decCs.contains c = false ∧ c ≠ 46) :
    ∃ t t2 r, Rpc ((if neg = true then [45] else []) ++ (W ++ ((if pt = true then 46 :: P else []) ++ E))) t W t2 r P E ((W ++ P).dropWhile ([48].contains ·)) neg pt := by
  have t1 : Lib.trimPrefix ((if neg = true then [45] else []) ++ (W ++ ((if pt = true then 46 :: P else []) ++ E))) [45] = W ++ ((if pt = true then 46 :: P else []) ++ E) ∧ Lib.hasPrefix ((if neg = true then [45] else []) ++ (W ++ ((if pt = true then 46 :: P else []) ++ E))) [45] = neg := by
    cases neg with
    | true => exact trim_hit [45] _
    | false =>
      cases W with
      | nil => exact absurd rfl hW0
      | cons c W =>
        have hc := hW c (List.mem_cons_self ..)
        exact trim_miss 45 c [] _ (by rw [beq_eq_false_iff_ne]; intro h; subst h; revert hc; decide)
  have tkE : E.takeWhile (decCs.contains ·) = [] ∧ E.dropWhile (decCs.contains ·) = E := by
    rcases hE with rfl | ⟨c, l, rfl, h1, h2⟩
    · exact ⟨rfl, rfl⟩
    · exact ⟨List.takeWhile_cons_of_neg (by simp only [h1]; decide), List.dropWhile_cons_of_neg (by simp only [h1]; decide)⟩
  have app : ∀ (A B : List UInt8), (∀ c ∈ A, decCs.contains c = true) → B.takeWhile (decCs.contains ·) = [] → B.dropWhile (decCs.contains ·) = B → (A ++ B).takeWhile (decCs.contains ·) = A ∧ (A ++ B).dropWhile (decCs.contains ·) = B := fun A B hA h1 h2 => by
    induction A with
    | nil => exact ⟨h1, h2⟩
    | cons c A ih =>
      have ih := ih (fun d hd => hA d (List.mem_cons_of_mem _ hd))
      have hc := hA c (List.mem_cons_self ..)
      rw [List.cons_append, List.takeWhile_cons_of_pos (by exact hc), List.dropWhile_cons_of_pos (by exact hc), ih.1, ih.2]
      exact ⟨rfl, rfl⟩
  have h46 : decCs.contains 46 = false := by decide
  have tk2 : ((if pt = true then 46 :: P else []) ++ E).takeWhile (decCs.contains ·) = [] ∧ ((if pt = true then 46 :: P else []) ++ E).dropWhile (decCs.contains ·) = (if pt = true then 46 :: P else []) ++ E := by
    cases pt with
    | true => exact ⟨List.takeWhile_cons_of_neg (by simp only [h46]; decide), List.dropWhile_cons_of_neg (by simp only [h46]; decide)⟩
    | false => exact tkE
  have w := app W _ hW tk2.1 tk2.2
  have pe := app P E hP tkE.1 tkE.2
  refine ⟨_, _, _, t1.1.symm, t1.2.symm, w.1.symm, w.2.symm, rfl, ?_, ?_, ?_, rfl⟩
  · cases pt with
    | true => exact (trim_hit [46] (P ++ E)).2.symm
    | false =>
      show false = Lib.hasPrefix ([] ++ E) [46]
      rcases hE with rfl | ⟨c, l, rfl, h1, h2⟩
      · rfl
      · exact (trim_miss 46 c [] l (by rw [beq_eq_false_iff_ne]; exact Ne.symm h2)).2.symm
  · cases pt with
    | true =>
      show P = (Lib.trimPrefix ([46] ++ (P ++ E)) [46]).takeWhile _
      rw [(trim_hit [46] (P ++ E)).1]; exact pe.1.symm
    | false => exact hpt rfl
  · cases pt with
    | true =>
      show E = (Lib.trimPrefix ([46] ++ (P ++ E)) [46]).dropWhile _
      rw [(trim_hit [46] (P ++ E)).1]; exact pe.2.symm
    | false => rfl
/-- digits count the same without noughts ahead -/
theorem dcN_drop (l : List UInt8) : dcN 0 (l.dropWhile ([48].contains ·)) = dcN 0 l := by
  induction l with
  | nil => rfl
  | cons c l ih =>
    by_cases hc : c = 48
    · rw [List.dropWhile_cons_of_pos (by simp [hc]), ih, hc]
      rfl
    · rw [List.dropWhile_cons_of_neg (by simp [hc])]
/-- what counts 0 has no digit but noughts -/
theorem dcN_zero {l : List UInt8} (h : ∀ c ∈ l, dgt c) (h0 : dcN 0 (l.dropWhile ([48].contains ·)) = 0) : l.dropWhile ([48].contains ·) = [] := by
  induction l with
  | nil => rfl
  | cons c l ih =>
    by_cases hc : c = 48
    · rw [List.dropWhile_cons_of_pos (by simp [hc])] at h0 ⊢
      exact ih (fun d hd => h d (List.mem_cons_of_mem _ hd)) h0
    · rw [List.dropWhile_cons_of_neg (by simp [hc])] at h0
      exfalso
      have h1 := h c (List.mem_cons_self ..)
      unfold dgt at h1
      have e1 : dcN 0 (c :: l) = dcN (0 * 10 + (c.toNat - 48)) l := rfl
      rw [e1, dcN_two] at h0
      have h2 : c.toNat ≠ 48 := fun h => hc (UInt8.toNat_inj.1 (by rw [h]; rfl))
      have h3 := Nat.mul_pos (show 0 < 0 * 10 + (c.toNat - 48) by omega) (Nat.pow_pos (n := l.length) (show 0 < 10 by omega))
      omega
end Go.Proofs.YthlocmhfjandlaaDoor

/-
  PLAIN: a text that is made of a sign, digits, perhaps a point, and perhaps a power of ten, is read as what it counts.
-/
namespace Go.Proofs.YthlocmhfjandlaaDoor
open Fm Fl

def mkS (neg : Bool) (W P E : List UInt8) (p : Bool) : List UInt8 := (if neg = true then [45] else []) ++ (W ++ ((if p = true then 46 :: P else []) ++ E))
theorem mkS_no (neg : Bool) (W P E : List UInt8) (p : Bool) (hW0 : W ≠ []) (hW : ∀ c ∈ W, decCs.contains c = true) : ¬ (mkS neg W P E p = sInf ∨ mkS neg W P E p = sNinf ∨ mkS neg W P E p = sNan) := by
  cases W with
  | nil => exact absurd rfl hW0
  | cons c W =>
    have hc := hW c (List.mem_cons_self ..)
    unfold mkS sInf sNinf sNan
    cases neg with
    | true =>
      simp only [if_true, List.cons_append, List.nil_append, List.cons.injEq]
      rintro (⟨h, -⟩ | ⟨-, h, -⟩ | ⟨h, -⟩)
      · revert h; decide
      · subst h; revert hc; decide
      · revert h; decide
    | false =>
      simp only [Bool.false_eq_true, if_false, List.cons_append, List.nil_append, List.cons.injEq]
      rintro (⟨h, -⟩ | ⟨h, -⟩ | ⟨h, -⟩) <;> (subst h; revert hc; decide)
/-- what a tail tells: nothing, or a power of ten -/
def Tail (E : List UInt8) (q : Int) : Prop := (E = [] ∨ ∃ c l, E = c :: l ∧ decCs.contains c = false ∧ c ≠ 46) ∧ pwOK E = true ∧ pwK E = q
theorem tail_nil : Tail [] 0 := ⟨Or.inl rfl, rfl, rfl⟩
theorem rat_zero (k B : Nat) : rat k 0 B = 0 ∧ ratC 0 B = false := by unfold rat ratC; rw [if_pos rfl, if_pos rfl]; exact ⟨rfl, rfl⟩
theorem made_num (neg : Bool) (W P E : List UInt8) (p : Bool) (hW0 : W ≠ []) (hW : ∀ c ∈ W, dgt c) (hP : ∀ c ∈ P, dgt c) (hp : p = false → P = []) {q : Int} (hE : Tail E q) (hl : (mkS neg W P E p).length ≤ 1000) (mode : Int) (hk : knownB mode = true) :
    readE (mkS neg W P E p) mode = 0 ∧
    readV (mkS neg W P E p) mode = (rat (kd neg mode) (rdA (dcN 0 (W ++ P)) (q - P.length)) (rdB (q - P.length)) : Int) + (if neg = true then 9223372036854775808 else 0) ∧
    readC (mkS neg W P E p) mode = ratC (rdA (dcN 0 (W ++ P)) (q - P.length)) (rdB (q - P.length)) := by
  have hW' : ∀ c ∈ W, decCs.contains c = true := fun c hc => dec_has (hW c hc)
  have hP' : ∀ c ∈ P, decCs.contains c = true := fun c hc => dec_has (hP c hc)
  obtain ⟨t, t2, r, H⟩ := rpc_mk neg W P E p hW0 hW' hP' hp hE.1
  obtain ⟨e1, e2, e3, e4, e5⟩ := rpc_eq H
  have hno := mkS_no neg W P E p hW0 hW'
  have hne : (W ++ P).isEmpty = false := by cases W with | nil => exact absurd rfl hW0 | cons c W => rfl
  have hr : rErr (mkS neg W P E p) = 0 := by
    unfold rErr mkS
    rw [e1, e2, e3]
    unfold rpE
    rw [if_neg (by unfold mkS at hl; omega), if_pos ⟨hE.2.1, hne⟩]
  have hN : rdN (mkS neg W P E p) = dcN 0 (W ++ P) := by unfold rdN mkS; rw [e4, dcN_drop]
  have hn : rNeg (mkS neg W P E p) = neg := e5
  have hX : rdA (rdN (mkS neg W P E p)) (rExp (mkS neg W P E p)) = rdA (dcN 0 (W ++ P)) (q - P.length) ∧ (dcN 0 (W ++ P) ≠ 0 → rExp (mkS neg W P E p) = q - P.length) := by
    rw [hN]
    have hx : rExp (mkS neg W P E p) = if (rDig (mkS neg W P E p)).isEmpty = true then 0 else q - P.length := by
      unfold rExp rpK mkS
      rw [e2, e3, hE.2.2]
    by_cases hz : dcN 0 (W ++ P) = 0
    · rw [hz]; unfold rdA; rw [Nat.zero_mul, Nat.zero_mul]; exact ⟨rfl, fun h => absurd rfl h⟩
    · have hd : (rDig (mkS neg W P E p)).isEmpty = false := by
        cases hh : (rDig (mkS neg W P E p)).isEmpty
        · rfl
        · exfalso
          apply hz
          rw [← hN]
          unfold rdN
          rw [List.isEmpty_iff.1 hh]; rfl
      rw [hd] at hx
      rw [hx]
      exact ⟨rfl, fun _ => rfl⟩
  refine ⟨by unfold readE; rw [if_pos hk, if_neg hno]; exact hr, ?_, ?_⟩
  · unfold readV
    rw [if_pos hk, if_neg (fun e => hno (Or.inl e)), if_neg (fun e => hno (Or.inr (Or.inl e))), if_neg (fun e => hno (Or.inr (Or.inr e))), if_pos hr, hn, hX.1]
    by_cases hz : dcN 0 (W ++ P) = 0
    · have : rdA (dcN 0 (W ++ P)) (q - P.length) = 0 := by unfold rdA; rw [hz, Nat.zero_mul]
      rw [this, (rat_zero _ _).1, (rat_zero _ _).1]
    · rw [hX.2 hz]
  · unfold readC
    rw [if_pos hk, if_neg hno, if_pos hr, hX.1]
    by_cases hz : dcN 0 (W ++ P) = 0
    · have : rdA (dcN 0 (W ++ P)) (q - P.length) = 0 := by unfold rdA; rw [hz, Nat.zero_mul]
      rw [this, (rat_zero 0 _).2, (rat_zero 0 _).2]
    · rw [hX.2 hz]
/-- digits with a point put in -/
theorem pt_parts (q p : Nat) : ∃ W P, W ≠ [] ∧ (∀ c ∈ W, dgt c) ∧ (∀ c ∈ P, dgt c) ∧ P.length = p ∧ dcN 0 (W ++ P) = q ∧ ∀ E neg, (if neg = true then [45] else []) ++ (pt (Lib.decDigits q) p ++ E) = mkS neg W P E (decide (p ≠ 0)) := by
  by_cases hp : p = 0
  · subst hp
    have h0 : Lib.decDigits q ≠ [] := fun h => by have := dec_len_pos q; rw [h] at this; simp at this
    refine ⟨Lib.decDigits q, [], h0, dec_dgt q, fun c hc => by simp at hc, rfl, by rw [List.append_nil]; exact dcN_dec q, fun E neg => ?_⟩
    unfold mkS pt
    rw [if_pos rfl]
    simp
  · have hl := padK_len (p + 1) q
    have hd := padK_dgt (p + 1) q
    obtain ⟨n, hn⟩ : ∃ n, n = (padK (p + 1) q).length - p := ⟨_, rfl⟩
    refine ⟨(padK (p + 1) q).take n, (padK (p + 1) q).drop n, ?_, fun c hc => hd c (List.mem_of_mem_take hc), fun c hc => hd c (List.mem_of_mem_drop hc), ?_, ?_, fun E neg => ?_⟩
    · intro h
      have h2 : ((padK (p + 1) q).take n).length = 0 := by rw [h]; rfl
      rw [List.length_take] at h2
      omega
    · rw [List.length_drop]; omega
    · rw [List.take_append_drop, dcN_num _ _ hd, num_pad]
    · unfold mkS
      rw [pt_pad, if_neg hp, ← hn, show decide (p ≠ 0) = true by simp [hp], if_pos rfl]
      simp
theorem sgS_if (x : Int) : sgS x = if decide (9223372036854775808 ≤ x) = true then [45] else [] := by
  unfold sgS; by_cases h : 9223372036854775808 ≤ x <;> simp [h]
/-- a number told exactly -/
theorem exact_rat {x : Int} (x0 : 0 ≤ x) (x1 : x ≤ 18446744073709551615) (hv : hasV x = true) (k : Nat) :
    rat k (rdA (qA (valD x)) (-(pl (valD x) : Int))) (rdB (-(pl (valD x) : Int))) = (fabs x).toNat ∧ ratC (rdA (qA (valD x)) (-(pl (valD x) : Int))) (rdB (-(pl (valD x) : Int))) = false := by
  have hMR : MR = 9218868437227405312 := rfl
  have hlt : (fabs x).toNat < MR := by
    unfold hasV at hv; rw [decide_eq_true_eq] at hv
    have : 0 ≤ fabs x := by unfold fabs; omega
    omega
  refine rat_exact k (Nat.pow_pos (by omega)) hlt ?_
  rw [dVal_mag x0 x1 hv]
  unfold rdA rdB qA pl
  obtain ⟨f1, f2, f3, f4, f5⟩ := valD_facts x x0 x1
  rw [show (-((-(valD x).e).toNat : Int)).toNat = 0 by omega, Nat.pow_zero, Nat.mul_one, show (- -((-(valD x).e).toNat : Int)).toNat = (-(valD x).e).toNat by omega, ten_two, u74]
  have hK : K74 = 1074 := rfl
  generalize (valD x).m = m at *
  generalize (valD x).e = e at *
  generalize K74 = K at *
  have : 2 ^ (e + ((1074 : Nat) : Int)).toNat * 2 ^ (-e).toNat = 2 ^ e.toNat * 2 ^ K := by
    rw [← Nat.pow_add, ← Nat.pow_add]; congr 1; omega
  calc m * 2 ^ (e + ((1074 : Nat) : Int)).toNat * (5 ^ (-e).toNat * 2 ^ (-e).toNat) = m * 5 ^ (-e).toNat * (2 ^ (e + ((1074 : Nat) : Int)).toNat * 2 ^ (-e).toNat) := by ac_rfl
    _ = m * 5 ^ (-e).toNat * (2 ^ e.toNat * 2 ^ K) := by rw [this]
    _ = _ := by ac_rfl
theorem fabs_sign {x : Int} (x0 : 0 ≤ x) (x1 : x ≤ 18446744073709551615) : (((fabs x).toNat : Nat) : Int) + (if decide (9223372036854775808 ≤ x) = true then 9223372036854775808 else 0) = x := by
  unfold fabs; by_cases h : 9223372036854775808 ≤ x
  · simp [h]; omega
  · simp [h]; omega
theorem exS_read {x : Int} (x0 : 0 ≤ x) (x1 : x ≤ 18446744073709551615) (hv : hasV x = true) (hl : (exS x).length ≤ 1000) (mode : Int) (hk : knownB mode = true) :
    readE (exS x) mode = 0 ∧ readV (exS x) mode = x ∧ readC (exS x) mode = false := by
  obtain ⟨W, P, h0, hW, hP, hPl, hN, hs⟩ := pt_parts (qA (valD x)) (pl (valD x))
  have e := hs [] (decide (9223372036854775808 ≤ x))
  rw [List.append_nil] at e
  have e2 : exS x = mkS (decide (9223372036854775808 ≤ x)) W P [] (decide (pl (valD x) ≠ 0)) := by
    unfold exS; rw [if_pos hv, sgS_if]; exact e
  rw [e2] at hl ⊢
  obtain ⟨g1, g2, g3⟩ := made_num (decide (9223372036854775808 ≤ x)) W P [] (decide (pl (valD x) ≠ 0)) h0 hW hP (fun h => by
    have : pl (valD x) = 0 := by simpa using h
    exact List.length_eq_zero_iff.1 (by omega)) tail_nil hl mode hk
  have hq : (0 : Int) - (P.length : Int) = -(pl (valD x) : Int) := by rw [hPl]; omega
  rw [hN, hq] at g2 g3
  obtain ⟨r1, r2⟩ := exact_rat x0 x1 hv (kd (decide (9223372036854775808 ≤ x)) mode)
  rw [r1, fabs_sign x0 x1] at g2
  rw [r2] at g3
  exact ⟨g1, g2, g3⟩
end Go.Proofs.YthlocmhfjandlaaDoor

/-
  THE WALK of read.value.
-/
namespace Go.Proofs.YthlocmhfjandlaaDoor
open Go.RowKit Nt Fm Fl

theorem rv_big {neg : Bool} {L N : Nat} {K : Int} (h : 400 < (L : Int) + K) : rvD neg L N K = ⟨neg, 1, 2000⟩ := by unfold rvD; rw [if_pos h]
theorem rv_small {neg : Bool} {L N : Nat} {K : Int} (h : (L : Int) + K < -400) : rvD neg L N K = ⟨neg, 1, -2000⟩ := by unfold rvD; rw [if_neg (by omega), if_pos h]
theorem rv_whole {neg : Bool} {L N : Nat} {K : Int} (h1 : (L : Int) + K ≤ 400) (h : 0 ≤ K) : rvD neg L N K = norm neg (N * 10 ^ K.toNat) 0 := by unfold rvD; rw [if_neg (by omega), if_neg (by omega), if_pos h]
theorem rv_part {neg : Bool} {L N : Nat} {K : Int} (h0 : -400 ≤ (L : Int) + K) (h1 : (L : Int) + K ≤ 400) (h : K < 0) : rvD neg L N K = ratD ((norm neg (N * 10 ^ K.toNat) 0).neg != (norm false (10 ^ (-K).toNat) 0).neg) (norm neg (N * 10 ^ K.toNat) 0).m (norm false (10 ^ (-K).toNat) 0).m ((norm neg (N * 10 ^ K.toNat) 0).e - (norm false (10 ^ (-K).toNat) 0).e) := by
  unfold rvD; rw [if_neg (by omega), if_neg (by omega), if_neg (by omega)]
theorem rv_norm_bd (neg : Bool) {a k0 : Nat} (h0 : a ≠ 0) (h : a < 2 ^ k0) : (norm neg a 0).m ≠ 0 ∧ (norm neg a 0).m < 2 ^ k0 ∧ 0 ≤ (norm neg a 0).e ∧ (norm neg a 0).e ≤ k0 := by
  obtain ⟨c, z, e1, e2, e3⟩ := norm_shape (neg := neg) h0
  rw [e1]
  refine ⟨e3, ?_, by show (0 : Int) ≤ z; omega, ?_⟩
  · show c < _
    have := Nat.le_mul_of_pos_right c (Nat.two_pow_pos z)
    omega
  · show (z : Int) ≤ k0
    have h1 : 2 ^ z ≤ a := by rw [e2]; exact Nat.le_mul_of_pos_left _ (by omega)
    have h2 := (Nat.pow_lt_pow_iff_right (by decide : 1 < 2)).1 (Nat.lt_of_le_of_lt h1 h)
    omega
set_option maxRecDepth 100000 in
set_option maxHeartbeats 8000000 in
theorem rvalue_any (neg : Bool) (ds : List UInt8) (S : ByteArray) (hS : S = ⟨ds.toArray⟩) (hd : ∀ c ∈ ds, dgt c) (hl : ds.length ≤ 1000) (hN0 : dcN 0 ds ≠ 0) (K : Int) (K0 : -2000000 ≤ K) (K1 : K ≤ 2000000) (w : World) (hT : Tab w) :
    Calls Tryd.prog 75 #[.bool neg, .string S, .int .i64 K] w (RetD w (rvD neg ds.length (dcN 0 ds) K)) := by
  have hz : S.size = ds.length := by rw [hS]; rfl
  obtain ⟨L, hL⟩ : ∃ L, L = ds.length := ⟨_, rfl⟩
  rw [← hL] at hl hz
  have OF := Lib.hid (fun w' => natOf_any 1 (by omega) (by omega) w')
  have hw : IntKind.i64.wrap ((L : Int) + K) = (L : Int) + K := IntWalk.i64_in _ (by omega)
  rw [← hL]
  by_cases hb : 400 < (L : Int) + K
  · rw [rv_big hb]
    clear hS hd hN0 hL hT
    go_enter Tryd.func75, Tryd.ntmps75
    go_wp2_with fail
    refine (OF.out _).mono ?_
    rintro r w1 ⟨v1, rfl, h1, hb⟩
    obtain ⟨a1, n1, c1, rfl⟩ := h1.shape
    have Z1 := Lib.hid ((Box.new w (.bool false) (.slice none 0 0) (.int .i64 0) 82).below hb)
    have B1 := Lib.hid (bl_thru ((Below.refl w.heap.size w).alloc (Nat.le_refl _) _) (Nat.le_refl _) hb)
    have V1 := Lib.hid h1
    clear h1 hb
    obtain ⟨s0, s1, s2, t0, t1, t2⟩ := Z1.out.cells
    have hB := B1.out.size
    go_wp2
    refine bodyPost_ret (v := .agg #[.bool neg, .slice a1 n1 c1, .int .i64 2000]) (by simp [results, Tryd.results75, go_sem, s0, s1, s2]) rfl ?_
    refine ⟨_, rfl, ⟨_, rfl, ?_⟩, bl_set3 B1.out (Nat.le_refl _) _ _ _⟩
    have := V1.out.setD Z1.out (g' := neg) (ao' := a1) (n' := n1) (c' := c1) (e' := 2000)
    simpa using this
  by_cases hs : (L : Int) + K < -400
  · rw [rv_small hs]
    clear hS hd hN0 hL hT
    go_enter Tryd.func75, Tryd.ntmps75
    go_wp2_with fail
    refine (OF.out _).mono ?_
    rintro r w1 ⟨v1, rfl, h1, hb⟩
    obtain ⟨a1, n1, c1, rfl⟩ := h1.shape
    have Z1 := Lib.hid ((Box.new w (.bool false) (.slice none 0 0) (.int .i64 0) 82).below hb)
    have B1 := Lib.hid (bl_thru ((Below.refl w.heap.size w).alloc (Nat.le_refl _) _) (Nat.le_refl _) hb)
    have V1 := Lib.hid h1
    clear h1 hb
    obtain ⟨s0, s1, s2, t0, t1, t2⟩ := Z1.out.cells
    have hB := B1.out.size
    go_wp2
    refine bodyPost_ret (v := .agg #[.bool neg, .slice a1 n1 c1, .int .i64 (-2000)]) (by simp [results, Tryd.results75, go_sem, s0, s1, s2]) rfl ?_
    refine ⟨_, rfl, ⟨_, rfl, ?_⟩, bl_set3 B1.out (Nat.le_refl _) _ _ _⟩
    have := V1.out.setD Z1.out (g' := neg) (ao' := a1) (n' := n1) (c' := c1) (e' := -2000)
    simpa using this
  have RN := Lib.hid (fun w' => nread_any ds S hS hd (by omega) w')
  have PW := Lib.hid (fun X w' (hX : X = ((K.toNat : Nat) : Int)) => pow10_z K.toNat X w' hX (by omega))
  obtain ⟨kb, kb0, kb1⟩ : ∃ kb, 12000 ≤ kb ∧ kb ≤ 12000 := ⟨12000, by omega, by omega⟩
  have hN2 := dcN_bd ds hd
  have hNb : dcN 0 ds < 2 ^ kb := Nat.lt_of_lt_of_le hN2 (Nat.pow_le_pow_right (by omega) (by omega))
  have hPb : 10 ^ K.toNat < 2 ^ kb := Nat.lt_of_lt_of_le (tenz_two _) (Nat.pow_le_pow_right (by omega) (by omega))
  have hXb : dcN 0 ds * 10 ^ K.toNat < 2 ^ kb := by
    have h1 := Nat.mul_lt_mul_of_lt_of_le hN2 (Nat.le_of_lt (tenz_two K.toNat)) (Nat.two_pow_pos _)
    rw [← Nat.pow_add] at h1
    exact Nat.lt_of_lt_of_le h1 (Nat.pow_le_pow_right (by omega) (by omega))
  have hX0 : dcN 0 ds * 10 ^ K.toNat ≠ 0 := Nat.mul_ne_zero hN0 (by have := Nat.pow_pos (n := K.toNat) (show 0 < 10 by omega); omega)
  have TM := Lib.hid (fun va vb w' (ha : NV w' va (dcN 0 ds)) (hb : NV w' vb (10 ^ K.toNat)) => times_any va vb _ _ kb w' ha hb hNb hPb (by omega))
  have NM := Lib.hid (fun va w' (ht : Tab w') (ha : NV w' va (dcN 0 ds * 10 ^ K.toNat)) => dnorm_any neg va _ kb 0 w' ht ha hXb (by omega) (by omega) (by omega))
  obtain ⟨x1, x2, x3, x4⟩ := rv_norm_bd neg hX0 hXb
  have hmx := Lib.hid (show max K 0 = ((K.toNat : Nat) : Int) by omega)
  have HT := Lib.hid hT
  by_cases hk : 0 ≤ K
  · rw [rv_whole (by omega) hk]
    generalize norm neg (dcN 0 ds * 10 ^ K.toNat) 0 = X at *
    obtain ⟨gx, mx, ex⟩ := X
    clear hS hd hN0 hL hT OF hN2 hNb hPb hXb hX0 x1 x2 x3 x4
    go_enter Tryd.func75, Tryd.ntmps75
    go_wp2_with fail
    refine (RN.out _).mono ?_
    rintro r w1 ⟨v1, rfl, h1, hb1⟩
    have Z1 := Lib.hid ((Box.new w (.bool false) (.slice none 0 0) (.int .i64 0) 82).below hb1)
    have B1 := Lib.hid (bl_thru ((Below.refl w.heap.size w).alloc (Nat.le_refl _) _) (Nat.le_refl _) hb1)
    have V1 := Lib.hid h1
    clear h1 hb1
    go_wp2_with fail
    refine (PW.out _ _ hmx.out).mono ?_
    rintro r w2 ⟨v2, rfl, h2, hb2⟩
    have Z2 := Lib.hid (Z1.out.below hb2)
    have B2 := Lib.hid (bl_thru B1.out (Nat.le_refl _) hb2)
    replace V1 := Lib.hid (V1.out.below hb2)
    have V2 := Lib.hid h2
    clear h2 hb2 Z1 B1
    go_wp2_with fail
    refine (TM.out _ _ _ V1.out V2.out).mono ?_
    rintro r w3 ⟨v3, rfl, h3, hb3⟩
    have Z3 := Lib.hid (Z2.out.below hb3)
    have B3 := Lib.hid (bl_thru B2.out (Nat.le_refl _) hb3)
    have V3 := Lib.hid h3
    clear h3 hb3 Z2 B2 V1 V2
    go_wp2_with fail
    refine (NM.out _ _ (HT.out.below B3.out) V3.out).mono ?_
    rintro r w4 ⟨v4, rfl, h4, hb4⟩
    obtain ⟨s4, rfl, hs4⟩ := h4
    obtain ⟨a4, n4, c4, rfl⟩ := hs4.shape
    have Z4 := Lib.hid (Z3.out.below hb4)
    have B4 := Lib.hid (bl_thru B3.out (Nat.le_refl _) hb4)
    have V4 := Lib.hid hs4
    clear hs4 hb4 Z3 B3 V3
    obtain ⟨V, hV⟩ : ∃ V, V = w4.alloc (.cells #[.bool gx, .slice a4 n4 c4, .int .i64 ex] 82) := ⟨_, rfl⟩
    have X5 : Hid (Box V w4.heap.size 82 (.bool gx) (.slice a4 n4 c4) (.int .i64 ex)) := Lib.hid (by rw [hV]; exact Box.new w4 (.bool gx) (.slice a4 n4 c4) (.int .i64 ex) 82)
    have Z5 : Hid (Box V w.heap.size 82 (.bool false) (.slice none 0 0) (.int .i64 0)) := Lib.hid (by rw [hV]; exact Z4.out.alloc _)
    have B5 : Hid (Below w.heap.size w V) := Lib.hid (by rw [hV]; exact B4.out.alloc B4.out.size _)
    have V5 : Hid (NV V (.slice a4 n4 c4) mx) := Lib.hid (by rw [hV]; exact V4.out.alloc _)
    obtain ⟨s0, s1, s2, t0, t1, t2⟩ := Z5.out.cells
    obtain ⟨u0, u1, u2, v0, v1, v2⟩ := X5.out.cells
    have hB := B4.out.size
    rw [hV] at s0 s1 s2 t0 t1 t2 u0 u1 u2 v0 v1 v2
    go_wp2
    rw [← hV] at *
    refine bodyPost_ret (v := .agg #[.bool gx, .slice a4 n4 c4, .int .i64 ex]) (by simp [results, Tryd.results75, go_sem, s0, s1, s2]) rfl ?_
    refine ⟨_, rfl, ⟨_, rfl, ?_⟩, bl_set3 B5.out (Nat.le_refl _) _ _ _⟩
    have := V5.out.setD Z5.out (g' := gx) (ao' := a4) (n' := n4) (c' := c4) (e' := ex)
    simpa using this
  · rw [rv_part (by omega) (by omega) (by omega)]
    have hPp : 10 ^ (-K).toNat ≠ 0 := by have := Nat.pow_pos (n := (-K).toNat) (show 0 < 10 by omega); omega
    have hPb2 : 10 ^ (-K).toNat < 2 ^ kb := Nat.lt_of_lt_of_le (tenz_two _) (Nat.pow_le_pow_right (by omega) (by omega))
    have PX := Lib.hid (fun X w' (hX : X = (((-K).toNat : Nat) : Int)) => pow10_z (-K).toNat X w' hX (by omega))
    have NX := Lib.hid (fun va w' (ht : Tab w') (ha : NV w' va (10 ^ (-K).toNat)) => dnorm_any false va _ kb 0 w' ht ha hPb2 (by omega) (by omega) (by omega))
    obtain ⟨y1, y2, y3, y4⟩ := rv_norm_bd false hPp hPb2
    generalize norm neg (dcN 0 ds * 10 ^ K.toNat) 0 = X at *
    obtain ⟨gx, mx, ex⟩ := X
    generalize norm false (10 ^ (-K).toNat) 0 = Y at *
    obtain ⟨gy, my, ey⟩ := Y
    simp only at x1 x2 x3 x4 y1 y2 y3 y4
    have RA := Lib.hid (fun vc vd w' hc hd => ratio_any vc vd ⟨gx, mx, ex⟩ ⟨gy, my, ey⟩ kb w' hc hd x2 y2 y1 (by omega) (by show _ ≤ ex; omega) (by show ex ≤ _; omega) (by show _ ≤ ey; omega) (by show ey ≤ _; omega))
    clear hS hd hN0 hL hT OF hN2 hNb hPb hXb hX0 x1 x2 x3 x4 y1 y2 y3 y4 hPp hPb2
    go_enter Tryd.func75, Tryd.ntmps75
    go_wp2_with fail
    refine (RN.out _).mono ?_
    rintro r w1 ⟨v1, rfl, h1, hb1⟩
    have Z1 := Lib.hid ((Box.new w (.bool false) (.slice none 0 0) (.int .i64 0) 82).below hb1)
    have B1 := Lib.hid (bl_thru ((Below.refl w.heap.size w).alloc (Nat.le_refl _) _) (Nat.le_refl _) hb1)
    have V1 := Lib.hid h1
    clear h1 hb1
    go_wp2_with fail
    refine (PW.out _ _ hmx.out).mono ?_
    rintro r w2 ⟨v2, rfl, h2, hb2⟩
    have Z2 := Lib.hid (Z1.out.below hb2)
    have B2 := Lib.hid (bl_thru B1.out (Nat.le_refl _) hb2)
    replace V1 := Lib.hid (V1.out.below hb2)
    have V2 := Lib.hid h2
    clear h2 hb2 Z1 B1
    go_wp2_with fail
    refine (TM.out _ _ _ V1.out V2.out).mono ?_
    rintro r w3 ⟨v3, rfl, h3, hb3⟩
    have Z3 := Lib.hid (Z2.out.below hb3)
    have B3 := Lib.hid (bl_thru B2.out (Nat.le_refl _) hb3)
    have V3 := Lib.hid h3
    clear h3 hb3 Z2 B2 V1 V2
    go_wp2_with fail
    refine (NM.out _ _ (HT.out.below B3.out) V3.out).mono ?_
    rintro r w4 ⟨v4, rfl, h4, hb4⟩
    obtain ⟨s4, rfl, hs4⟩ := h4
    obtain ⟨a4, n4, c4, rfl⟩ := hs4.shape
    have Z4 := Lib.hid (Z3.out.below hb4)
    have B4 := Lib.hid (bl_thru B3.out (Nat.le_refl _) hb4)
    have V4 := Lib.hid hs4
    clear hs4 hb4 Z3 B3 V3
    obtain ⟨V, hV⟩ : ∃ V, V = w4.alloc (.cells #[.bool gx, .slice a4 n4 c4, .int .i64 ex] 82) := ⟨_, rfl⟩
    have X5 : Hid (Box V w4.heap.size 82 (.bool gx) (.slice a4 n4 c4) (.int .i64 ex)) := Lib.hid (by rw [hV]; exact Box.new w4 (.bool gx) (.slice a4 n4 c4) (.int .i64 ex) 82)
    have Z5 : Hid (Box V w.heap.size 82 (.bool false) (.slice none 0 0) (.int .i64 0)) := Lib.hid (by rw [hV]; exact Z4.out.alloc _)
    have B5 : Hid (Below w.heap.size w V) := Lib.hid (by rw [hV]; exact B4.out.alloc B4.out.size _)
    have V5 : Hid (NV V (.slice a4 n4 c4) mx) := Lib.hid (by rw [hV]; exact V4.out.alloc _)
    obtain ⟨bx, hbx⟩ : ∃ bx, bx = w4.heap.size := ⟨_, rfl⟩
    have hB : w.heap.size < bx := by rw [hbx]; exact Z4.out.lt
    go_wp2_with fail
    rw [← hV]
    rw [← hbx] at X5 ⊢
    clear hV hbx Z4 B4 V4
    have hnk := Lib.hid (show IntKind.i64.wrap (-K) = (((-K).toNat : Nat) : Int) by rw [IntWalk.i64_in _ (by omega)]; omega)
    obtain ⟨p0, p1, p2, -, -, -⟩ := X5.out.drew.cells
    go_region_held3 (fun w' => w'.cell? ⟨bx, 0, none⟩ = some (.bool gx) ∧ w'.cell? ⟨bx, 1, none⟩ = some (.slice a4 n4 c4) ∧ w'.cell? ⟨bx, 2, none⟩ = some (.int .i64 ex))
      (first
        | with_reducible exact ⟨p0, p1, p2⟩
        | (obtain ⟨p0, p1, p2, -, -, -⟩ := X6.out.cells; exact ⟨p0, p1, p2⟩)
        | (obtain ⟨p0, p1, p2, -, -, -⟩ := X7.out.cells; exact ⟨p0, p1, p2⟩)
        | (obtain ⟨p0, p1, p2, -, -, -⟩ := X8.out.cells; exact ⟨p0, p1, p2⟩)
        | (obtain ⟨p0, p1, p2, -, -, -⟩ := X9.out.cells; exact ⟨p0, p1, p2⟩)
        | (go_keep; done))
      (first
        | (go_at_call 97; refine (PX.out _ _ hnk.out).mono ?_; rintro r w5 ⟨v5, rfl, h5, hb5⟩; have X6 := Lib.hid (X5.out.drew.below hb5); have Z6 := Lib.hid (Z5.out.drew.below hb5); have B6 := Lib.hid (bl_thru B5.out.drew (Nat.le_refl _) hb5); have V6 := Lib.hid h5; have E6 := Lib.hid (V5.out.drew.below hb5))
        | (go_at_call 98; refine (NX.out _ _ (HT.out.below B6.out) V6.out).mono ?_; rintro r w6 ⟨v6, rfl, h6, hb6⟩; have X7 := Lib.hid (X6.out.below hb6); have Z7 := Lib.hid (Z6.out.below hb6); have B7 := Lib.hid (bl_thru B6.out (Nat.le_refl _) hb6); have E7 := Lib.hid (E6.out.below hb6); have D7 := Lib.hid h6)
        | (go_at_call 115; refine (RA.out _ _ _ ⟨_, rfl, E7.out⟩ D7.out).mono ?_; rintro r w7 ⟨v7, rfl, h7, hb7⟩; obtain ⟨s7, rfl, hs7⟩ := h7; obtain ⟨a7, n7, c7, rfl⟩ := hs7.shape; have X8 := Lib.hid (X7.out.below hb7); have Z8 := Lib.hid (Z7.out.below hb7); have B8 := Lib.hid (bl_thru B7.out (Nat.le_refl _) hb7); have V8 := Lib.hid hs7; obtain ⟨z0, z1, z2, zf0, zf1, zf2⟩ := Z8.out.cells; obtain ⟨y0, y1, y2, yf0, yf1, yf2⟩ := Z8.out.drew.cells; have X9 := Lib.hid (((X8.out.set (b' := w.heap.size) (o := 0) (by omega) (.bool (ratD (gx != gy) mx my (ex - ey)).neg)).set (b' := w.heap.size) (o := 1) (by omega) (.slice a7 n7 c7)).set (b' := w.heap.size) (o := 2) (by omega) (.int .i64 (ratD (gx != gy) mx my (ex - ey)).e)).drew))
    have Z9 := Lib.hid ((Z8.out.set3 (.bool (ratD (gx != gy) mx my (ex - ey)).neg) (.slice a7 n7 c7) (.int .i64 (ratD (gx != gy) mx my (ex - ey)).e)))
    have V9 := Lib.hid ((V8.out.setD Z8.out (g' := (ratD (gx != gy) mx my (ex - ey)).neg) (ao' := a7) (n' := n7) (c' := c7) (e' := (ratD (gx != gy) mx my (ex - ey)).e)))
    clear z0 z1 z2 zf0 zf1 zf2 y0 y1 y2 yf0 yf1 yf2 h5 hb5 h6 hb6 hs7 hb7 p0 p1 p2
    obtain ⟨s0, s1, s2, t0, t1, t2⟩ := Z9.out.cells
    go_wp2
    refine bodyPost_ret (v := .agg #[.bool (ratD (gx != gy) mx my (ex - ey)).neg, .slice a7 n7 c7, .int .i64 (ratD (gx != gy) mx my (ex - ey)).e]) (by simp [results, Tryd.results75, go_sem, s0, s1, s2]) rfl ?_
    exact ⟨_, rfl, ⟨_, rfl, V9.out⟩, bl_set3 B8.out (Nat.le_refl _) _ _ _⟩
end Go.Proofs.YthlocmhfjandlaaDoor

/-
  PLAIN: what read.Number tells.
-/
namespace Go.Proofs.YthlocmhfjandlaaDoor
open Go.RowKit Nt Fm Fl

/-- digits that are no nought count something -/
theorem rdN_pos {s : List UInt8} (h : (rDig s).isEmpty = false) : rdN s ≠ 0 ∧ 10 ^ ((rDig s).length - 1) ≤ rdN s := by
  obtain ⟨h1, h2, h3⟩ := rdig_spec s
  rcases h3 with h3 | ⟨c, l, h3, h4⟩
  · rw [h3] at h; simp at h
  · have hc := h1 c (by rw [h3]; exact List.mem_cons_self ..)
    unfold rdN
    rw [h3] at h1 ⊢
    unfold dgt at hc
    have e1 : dcN 0 (c :: l) = dcN (0 * 10 + (c.toNat - 48)) l := rfl
    rw [e1, dcN_two]
    have h2 : c.toNat ≠ 48 := fun h => h4 (UInt8.toNat_inj.1 (by rw [h]; rfl))
    have h5 : 1 * 10 ^ l.length ≤ (0 * 10 + (c.toNat - 48)) * 10 ^ l.length := Nat.mul_le_mul_right _ (by omega)
    have h6 := Nat.pow_pos (n := l.length) (show 0 < 10 by omega)
    rw [List.length_cons, Nat.add_sub_cancel]
    exact ⟨by omega, by omega⟩
theorem rExp_bd (s : List UInt8) (h : s.length ≤ 1000) : -1100000 ≤ rExp s ∧ rExp s ≤ 1100000 := by
  obtain ⟨lw, l1, l2, lr, lp, le, ls, hdg⟩ := rpc_len (rpc_self s)
  have := pwK_bd (rRest s)
  unfold rExp rpK
  split <;> omega
theorem rerr_cases (s : List UInt8) : rErr s = 0 ∨ rErr s = 2 ∨ rErr s = 5 := by
  unfold rErr rpE; split
  · exact Or.inr (Or.inl rfl)
  · split
    · exact Or.inl rfl
    · exact Or.inr (Or.inr rfl)
theorem rerr_len {s : List UInt8} (h : rErr s = 0) : s.length ≤ 1000 := by
  unfold rErr rpE at h
  split at h
  · exact absurd h (by decide)
  · omega
theorem rv_bd (neg : Bool) {L N : Nat} {K : Int} (hL : L ≤ 1000) (hN0 : N ≠ 0) (hN : N < 2 ^ (4 * L + 1)) (kk : Nat) (hkk : 40000 ≤ kk) :
    (rvD neg L N K).m < 2 ^ kk ∧ -100000 ≤ (rvD neg L N K).e ∧ (rvD neg L N K).e ≤ 100000 ∧ (rvD neg L N K).m ≠ 0 := by
  have h1k : (1 : Nat) < 2 ^ kk := Nat.one_lt_two_pow (by omega)
  by_cases hb : 400 < (L : Int) + K
  · rw [rv_big hb]; exact ⟨h1k, by show (-100000 : Int) ≤ 2000; omega, by show (2000 : Int) ≤ 100000; omega, by show (1 : Nat) ≠ 0; omega⟩
  by_cases hs : (L : Int) + K < -400
  · rw [rv_small hs]; exact ⟨h1k, by show (-100000 : Int) ≤ -2000; omega, by show (-2000 : Int) ≤ 100000; omega, by show (1 : Nat) ≠ 0; omega⟩
  have hX0 : N * 10 ^ K.toNat ≠ 0 := Nat.mul_ne_zero hN0 (by have := Nat.pow_pos (n := K.toNat) (show 0 < 10 by omega); omega)
  obtain ⟨kb, hkb⟩ : ∃ kb : Nat, kb = 12000 := ⟨_, rfl⟩
  have hXb : N * 10 ^ K.toNat < 2 ^ kb := by
    have h1 := Nat.mul_lt_mul_of_lt_of_le hN (Nat.le_of_lt (tenz_two K.toNat)) (Nat.two_pow_pos _)
    rw [← Nat.pow_add] at h1
    exact Nat.lt_of_lt_of_le h1 (Nat.pow_le_pow_right (by omega) (by omega))
  obtain ⟨x1, x2, x3, x4⟩ := rv_norm_bd neg hX0 hXb
  by_cases hk : 0 ≤ K
  · rw [rv_whole (by omega) hk]
    exact ⟨Nat.lt_of_lt_of_le x2 (Nat.pow_le_pow_right (by omega) (by omega)), by omega, by omega, x1⟩
  · rw [rv_part (by omega) (by omega) (by omega)]
    have hPp : 10 ^ (-K).toNat ≠ 0 := by have := Nat.pow_pos (n := (-K).toNat) (show 0 < 10 by omega); omega
    have hPb2 : 10 ^ (-K).toNat < 2 ^ kb := Nat.lt_of_lt_of_le (tenz_two _) (Nat.pow_le_pow_right (by omega) (by omega))
    obtain ⟨y1, y2, y3, y4⟩ := rv_norm_bd false hPp hPb2
    generalize (norm neg (N * 10 ^ K.toNat) 0).m = c at *
    generalize (norm false (10 ^ (-K).toNat) 0).m = d at *
    generalize (norm neg (N * 10 ^ K.toNat) 0).e = a at *
    generalize (norm false (10 ^ (-K).toNat) 0).e = b at *
    generalize ((norm neg (N * 10 ^ K.toNat) 0).neg != (norm false (10 ^ (-K).toNat) 0).neg) = g at *
    have hq := ratio_big x1 y1
    have hqk : qk c d ≤ 80 + kb := by
      have : bl d ≤ kb := by rw [← blen_eq]; exact blen_le_of y2
      unfold qk; omega
    have hC : c * 2 ^ qk c d < 2 ^ (kb + qk c d) := by rw [Nat.pow_add]; exact Nat.mul_lt_mul_of_pos_right x2 (Nat.two_pow_pos _)
    have hmk := Fm.mark_le (c * 2 ^ qk c d % d)
    have e0 : (ratD g c d (a - b)).m = 4 * (c * 2 ^ qk c d / d) + Fm.mark (c * 2 ^ qk c d % d) := rfl
    have e1 : (ratD g c d (a - b)).e = a - b - qk c d - 2 := rfl
    rw [e0, e1]
    have hle := Nat.div_le_self (c * 2 ^ qk c d) d
    have hp : 4 * 2 ^ (kb + qk c d) = 2 ^ (kb + qk c d + 2) := by rw [Nat.pow_add _ _ 2]; omega
    have hp2 : 2 ^ (kb + qk c d + 2) ≤ 2 ^ kk := Nat.pow_le_pow_right (by omega) (by omega)
    have h60 : (0 : Nat) < 2 ^ 60 := by decide
    exact ⟨by omega, by omega, by omega, by omega⟩
/-- a number with digits -/
theorem readV_num (s : List UInt8) (mode : Int) (hk : knownB mode = true) (hi : ¬ (s = sInf ∨ s = sNinf ∨ s = sNan)) (he : rErr s = 0) (hd : (rDig s).isEmpty = false) :
    readV s mode = numR (rvD (rNeg s) (rDig s).length (rdN s) (rExp s)) mode ∧ readC s mode = numC (rvD (rNeg s) (rDig s).length (rdN s) (rExp s)) := by
  obtain ⟨n1, n2⟩ := rdN_pos hd
  obtain ⟨d1, d2, d3⟩ := rdig_spec s
  have hlt := dcN_lt (rDig s) 0 d1
  rw [Nat.zero_add, Nat.one_mul] at hlt
  obtain ⟨r1, r2, r3⟩ := rv_rat (rNeg s) (rExp s) n2 hlt (kd (rNeg s) mode)
  unfold readV readC numR numC
  rw [if_pos hk, if_pos hk, if_neg (fun e => hi (Or.inl e)), if_neg (fun e => hi (Or.inr (Or.inl e))), if_neg (fun e => hi (Or.inr (Or.inr e))), if_pos he, if_neg hi, if_pos he, r3]
  unfold rdN at r1 r2 ⊢
  exact ⟨by rw [r1], r2.symm⟩
end Go.Proofs.YthlocmhfjandlaaDoor

/-
  THE WALK of read.Number.
-/
namespace Go.Proofs.YthlocmhfjandlaaDoor
open Go.RowKit Nt Fm Fl

set_option maxRecDepth 100000 in
set_option maxHeartbeats 2000000 in
theorem rn_inf (mode : Int) (w : World) (KN : Hid (∀ w' : World, Calls Tryd.prog 54 #[.int .i64 mode] w' fun e w2 => e = .returned (.bool true) ∧ w' = w2)) :
    Calls Tryd.prog 34 #[.string ⟨#[105, 110, 102]⟩, .int .i64 mode] w (RetUBE w 9218868437227405312 false 0) := by
  unfold RetUBE
  go_enter Tryd.func34, Tryd.ntmps34
  go_wp2_with ((go_at_call 54; refine (KN.out _).mono ?_; rintro e w1 ⟨rfl, rfl⟩))
  go_ret3
  exact ⟨rfl, Below.refl _ _⟩
set_option maxRecDepth 100000 in
set_option maxHeartbeats 2000000 in
theorem rn_ninf (mode : Int) (w : World) (KN : Hid (∀ w' : World, Calls Tryd.prog 54 #[.int .i64 mode] w' fun e w2 => e = .returned (.bool true) ∧ w' = w2)) :
    Calls Tryd.prog 34 #[.string ⟨#[45, 105, 110, 102]⟩, .int .i64 mode] w (RetUBE w 18442240474082181120 false 0) := by
  unfold RetUBE
  go_enter Tryd.func34, Tryd.ntmps34
  go_wp2_with ((go_at_call 54; refine (KN.out _).mono ?_; rintro e w1 ⟨rfl, rfl⟩))
  go_ret3
  exact ⟨rfl, Below.refl _ _⟩
set_option maxRecDepth 100000 in
set_option maxHeartbeats 2000000 in
theorem rn_nan (mode : Int) (w : World) (KN : Hid (∀ w' : World, Calls Tryd.prog 54 #[.int .i64 mode] w' fun e w2 => e = .returned (.bool true) ∧ w' = w2)) :
    Calls Tryd.prog 34 #[.string ⟨#[110, 97, 110]⟩, .int .i64 mode] w (RetUBE w 9221120237041090560 false 0) := by
  unfold RetUBE
  go_enter Tryd.func34, Tryd.ntmps34
  go_wp2_with ((go_at_call 54; refine (KN.out _).mono ?_; rintro e w1 ⟨rfl, rfl⟩))
  go_ret3
  exact ⟨rfl, Below.refl _ _⟩
set_option maxRecDepth 100000 in
set_option maxHeartbeats 2000000 in
theorem rn_err (s : List UInt8) (mode : Int) (w : World) (KN : Hid (∀ w' : World, Calls Tryd.prog 54 #[.int .i64 mode] w' fun e w2 => e = .returned (.bool true) ∧ w' = w2)) (i1 : (s == [105, 110, 102]) = false) (i2 : (s == [45, 105, 110, 102]) = false) (i3 : (s == [110, 97, 110]) = false) (er : Int) (n1 : (er != 0) = true)
    (PR : Hid (∀ w' : World, Calls Tryd.prog 32 #[.string ⟨s.toArray⟩] w' (RetPp w' false [] 0 er))) :
    Calls Tryd.prog 34 #[.string ⟨s.toArray⟩, .int .i64 mode] w (RetUBE w 0 false er) := by
  have B : Hid (Below w.heap.size w w) := Lib.hid (Below.refl _ _)
  unfold RetPp at PR
  unfold RetUBE
  go_enter Tryd.func34, Tryd.ntmps34
  go_wp2_with (first
    | (go_at_call 54; refine (KN.out _).mono ?_; rintro e w1 ⟨rfl, rfl⟩)
    | (go_at_call 32; refine (PR.out _).mono ?_; rintro e w1 ⟨rfl, hb⟩; replace B := Lib.hid (bl_thru B.out (Nat.le_refl _) hb); clear hb))
  go_ret3
  exact ⟨rfl, B.out⟩
set_option maxRecDepth 100000 in
set_option maxHeartbeats 2000000 in
theorem rn_zero (s : List UInt8) (mode : Int) (w : World) (KN : Hid (∀ w' : World, Calls Tryd.prog 54 #[.int .i64 mode] w' fun e w2 => e = .returned (.bool true) ∧ w' = w2)) (i1 : (s == [105, 110, 102]) = false) (i2 : (s == [45, 105, 110, 102]) = false) (i3 : (s == [110, 97, 110]) = false) (ng : Bool) (K : Int)
    (PR : Hid (∀ w' : World, Calls Tryd.prog 32 #[.string ⟨s.toArray⟩] w' (RetPp w' ng [] K 0))) :
    Calls Tryd.prog 34 #[.string ⟨s.toArray⟩, .int .i64 mode] w (RetUBE w (if ng = true then 9223372036854775808 else 0) false 0) := by
  have B : Hid (Below w.heap.size w w) := Lib.hid (Below.refl _ _)
  unfold RetPp at PR
  unfold RetUBE
  cases ng
  all_goals
    go_enter Tryd.func34, Tryd.ntmps34
    go_wp2_with (first
      | (go_at_call 54; refine (KN.out _).mono ?_; rintro e w1 ⟨rfl, rfl⟩)
      | (go_at_call 32; refine (PR.out _).mono ?_; rintro e w1 ⟨rfl, hb⟩; replace B := Lib.hid (bl_thru B.out (Nat.le_refl _) hb); clear hb))
    go_ret3
    exact ⟨rfl, B.out⟩
set_option maxRecDepth 100000 in
set_option maxHeartbeats 2000000 in
theorem rn_num (s : List UInt8) (mode : Int) (w : World) (KN : Hid (∀ w' : World, Calls Tryd.prog 54 #[.int .i64 mode] w' fun e w2 => e = .returned (.bool true) ∧ w' = w2)) (i1 : (s == [105, 110, 102]) = false) (i2 : (s == [45, 105, 110, 102]) = false) (i3 : (s == [110, 97, 110]) = false) (ng : Bool) (K : Int) (DS : ByteArray) (zD : DS.toList.isEmpty = false) (X : D)
    (PR : Hid (∀ w' : World, Calls Tryd.prog 32 #[.string ⟨s.toArray⟩] w' fun e w2 => e = .returned (.tuple #[.bool ng, .string DS, .int .i64 K, .int .i64 0]) ∧ Below w'.heap.size w' w2))
    (VL : Hid (∀ w' : World, Tab w' → Calls Tryd.prog 75 #[.bool ng, .string DS, .int .i64 K] w' (RetD w' X)))
    (NB : Hid (∀ v (w' : World), DV w' v X → Calls Tryd.prog 74 #[v, .int .i64 mode] w' fun e w2 => e = .returned (.tuple #[.int .u64 (numR X mode), .bool (numC X)]) ∧ Below w'.heap.size w' w2)) (HT : Hid (Tab w)) :
    Calls Tryd.prog 34 #[.string ⟨s.toArray⟩, .int .i64 mode] w (RetUBE w (numR X mode) (numC X) 0) := by
  have B : Hid (Below w.heap.size w w) := Lib.hid (Below.refl _ _)
  unfold RetUBE
  generalize numR X mode = R at *
  generalize numC X = C at *
  go_enter Tryd.func34, Tryd.ntmps34
  go_wp2_with (first
    | (go_at_call 54; refine (KN.out _).mono ?_; rintro e w1 ⟨rfl, rfl⟩)
    | (go_at_call 32; refine (PR.out _).mono ?_; rintro e w1 ⟨rfl, hb⟩; replace B := Lib.hid (bl_thru B.out (Nat.le_refl _) hb); clear hb)
    | (go_at_call 75; refine (VL.out _ (HT.out.below B.out)).mono ?_; rintro e w2 ⟨v2, rfl, hv, hb⟩; have HV := Lib.hid hv; replace B := Lib.hid (bl_thru B.out (Nat.le_refl _) hb); clear hb hv)
    | (go_at_call 74; refine (NB.out _ _ HV.out).mono ?_; rintro e w3 ⟨rfl, hb⟩; replace B := Lib.hid (bl_thru B.out (Nat.le_refl _) hb); clear hb))
  go_ret3
  exact ⟨rfl, B.out⟩
set_option maxRecDepth 100000 in
set_option maxHeartbeats 2000000 in
theorem rn_arg (S : ByteArray) (mode : Int) (w : World) (KN : Hid (∀ w' : World, Calls Tryd.prog 54 #[.int .i64 mode] w' fun e w2 => e = .returned (.bool false) ∧ w' = w2)) :
    Calls Tryd.prog 34 #[.string S, .int .i64 mode] w (RetUBE w 0 false 1) := by
  unfold RetUBE
  go_enter Tryd.func34, Tryd.ntmps34
  go_wp2_with ((go_at_call 54; refine (KN.out _).mono ?_; rintro e w1 ⟨rfl, rfl⟩))
  go_ret3
  exact ⟨rfl, Below.refl _ _⟩
theorem rnumber_any (s : List UInt8) (S : ByteArray) (hS : S = ⟨s.toArray⟩) (mode : Int) (w : World) (hT : Tab w) :
    Calls Tryd.prog 34 #[.string S, .int .i64 mode] w (RetUBE w (readV s mode) (readC s mode) (readE s mode)) := by
  have KN := Lib.hid (fun w' => known_any mode w')
  by_cases hk : knownB mode = true
  · rw [hk] at KN
    by_cases hi : s = sInf ∨ s = sNinf ∨ s = sNan
    · have eE : readE s mode = 0 := by unfold readE; rw [if_pos hk, if_pos hi]
      have eC : readC s mode = false := by unfold readC; rw [if_pos hk, if_pos hi]
      rw [eE, eC, hS]
      rcases hi with rfl | rfl | rfl
      · have eV : readV sInf mode = 9218868437227405312 := by unfold readV; rw [if_pos hk, if_pos rfl]
        rw [eV]
        exact rn_inf mode w KN
      · have eV : readV sNinf mode = 18442240474082181120 := by unfold readV; rw [if_pos hk, if_neg (by decide), if_pos rfl]
        rw [eV]
        exact rn_ninf mode w KN
      · have eV : readV sNan mode = 9221120237041090560 := by unfold readV; rw [if_pos hk, if_neg (by decide), if_neg (by decide), if_pos rfl]
        rw [eV]
        exact rn_nan mode w KN
    · have i1 : (s == [105, 110, 102]) = false := by rw [beq_eq_false_iff_ne]; exact fun h => hi (Or.inl h)
      have i2 : (s == [45, 105, 110, 102]) = false := by rw [beq_eq_false_iff_ne]; exact fun h => hi (Or.inr (Or.inl h))
      have i3 : (s == [110, 97, 110]) = false := by rw [beq_eq_false_iff_ne]; exact fun h => hi (Or.inr (Or.inr h))
      have PR := Lib.hid (fun w' => rparse_any (rpc_self s) ⟨s.toArray⟩ rfl w')
      have hE0 : rpE s (rWhole s) (rPart s) (rRest s) = rErr s := rfl
      rw [hE0] at PR
      have eE : readE s mode = rErr s := by unfold readE; rw [if_pos hk, if_neg hi]
      rw [eE, hS]
      by_cases he : rErr s = 0
      · have m0 : 0 ≤ mode ∧ mode ≤ 4 := by unfold knownB at hk; rw [decide_eq_true_eq] at hk; exact hk
        have hsl := rerr_len he
        have hK := rExp_bd s hsl
        have hdig := rdig_spec s
        rw [he, if_pos rfl, if_pos rfl, if_pos rfl] at PR
        have hX0 : rpK (rPart s) (rRest s) (rDig s) = rExp s := rfl
        rw [hX0] at PR
        rw [he]
        cases hd : (rDig s).isEmpty
        · obtain ⟨r1, r2⟩ := readV_num s mode hk hi he hd
          rw [r1, r2]
          obtain ⟨n1, n2⟩ := rdN_pos hd
          obtain ⟨DS, hDS⟩ : ∃ T : ByteArray, T = ⟨(rDig s).toArray⟩ := ⟨_, rfl⟩
          unfold RetPp at PR
          rw [← hDS] at PR
          have zD := empt _ _ hDS
          have hNb : rdN s < 2 ^ (4 * (rDig s).length + 1) := dcN_bd _ hdig.1
          obtain ⟨kk, hkk, hkk2⟩ : ∃ kk : Nat, 40000 ≤ kk ∧ kk ≤ 40000 := ⟨40000, by omega, by omega⟩
          obtain ⟨v1, v2, v3, v4⟩ := rv_bd (rNeg s) (L := (rDig s).length) (K := rExp s) (by omega) n1 hNb kk hkk
          have VL := Lib.hid (fun w' ht => rvalue_any (rNeg s) (rDig s) DS hDS hdig.1 (by omega) n1 (rExp s) (by omega) (by omega) w' ht)
          have hdN : dcN 0 (rDig s) = rdN s := rfl
          rw [hdN] at VL
          have NB := Lib.hid (fun v w' h => number_any v (rvD (rNeg s) (rDig s).length (rdN s) (rExp s)) kk mode w' h v1 (by omega) (by omega) (by omega) (fun h => absurd h v4) m0.1 m0.2)
          rw [hd] at zD
          exact rn_num s mode w KN i1 i2 i3 (rNeg s) (rExp s) DS zD _ PR VL NB (Lib.hid hT)
        · have hd0 : rdN s = 0 := by unfold rdN; rw [List.isEmpty_iff.1 hd]; rfl
          have hA : rdA (rdN s) (rExp s) = 0 := by unfold rdA; rw [hd0, Nat.zero_mul]
          have eC : readC s mode = false := by unfold readC ratC; rw [if_pos hk, if_neg hi, if_pos he, hA, if_pos rfl]
          have eV : readV s mode = if rNeg s = true then 9223372036854775808 else 0 := by
            unfold readV rat
            rw [if_pos hk, if_neg (fun e => hi (Or.inl e)), if_neg (fun e => hi (Or.inr (Or.inl e))), if_neg (fun e => hi (Or.inr (Or.inr e))), if_pos he, hA, if_pos rfl]
            simp
          rw [eC, eV]
          rw [List.isEmpty_iff.1 hd] at PR
          exact rn_zero s mode w KN i1 i2 i3 (rNeg s) _ PR
      · have eC : readC s mode = false := by unfold readC; rw [if_pos hk, if_neg hi, if_neg he]
        have eV : readV s mode = 0 := by
          unfold readV
          rw [if_pos hk, if_neg (fun e => hi (Or.inl e)), if_neg (fun e => hi (Or.inr (Or.inl e))), if_neg (fun e => hi (Or.inr (Or.inr e))), if_neg he]
        rw [eC, eV]
        rw [if_neg he, if_neg he, if_neg he] at PR
        exact rn_err s mode w KN i1 i2 i3 (rErr s) (by rw [bne_iff_ne]; exact he) PR
  · have hk0 : knownB mode = false := by cases h : knownB mode; rfl; exact absurd h hk
    have eE : readE s mode = 1 := by unfold readE; rw [if_neg hk]
    have eC : readC s mode = false := by unfold readC; rw [if_neg hk]
    have eV : readV s mode = 0 := by unfold readV; rw [if_neg hk]
    rw [eE, eC, eV]
    rw [hk0] at KN
    exact rn_arg S mode w KN
end Go.Proofs.YthlocmhfjandlaaDoor

/-
  THE WALK of readLives.
-/
namespace Go.Proofs.YthlocmhfjandlaaDoor
open Go.RowKit Nt Fm Fl

/-- a tenth; -2.5e1 -/
theorem rl_one : readE [48, 46, 49] 0 = 0 ∧ readV [48, 46, 49] 0 = 4591870180066957722 ∧ readC [48, 46, 49] 0 = true := by
  refine ⟨?_, ?_, ?_⟩ <;> kernel_rfl
theorem rl_two : readE [45, 50, 46, 53, 101, 49] 1 = 0 ∧ readV [45, 50, 46, 53, 101, 49] 1 = 13851102128954671104 ∧ readC [45, 50, 46, 53, 101, 49] 1 = false := by
  refine ⟨?_, ?_, ?_⟩ <;> kernel_rfl
set_option maxRecDepth 100000 in
set_option maxHeartbeats 4000000 in
theorem readLives_any (w : World) (hT : Tab w) :
    Calls Tryd.prog 33 #[] w fun e w' => e = .returned (.bool true) ∧ Below w.heap.size w w' := by
  have N1 := Lib.hid (fun w' h => rnumber_any [48, 46, 49] ⟨#[48, 46, 49]⟩ rfl 0 w' h)
  rw [rl_one.1, rl_one.2.1, rl_one.2.2] at N1
  have N2 := Lib.hid (fun w' h => rnumber_any [45, 50, 46, 53, 101, 49] ⟨#[45, 50, 46, 53, 101, 49]⟩ rfl 1 w' h)
  rw [rl_two.1, rl_two.2.1, rl_two.2.2] at N2
  have H0 := Lib.hid hT
  unfold RetUBE at N1 N2
  clear hT
  go_enter Tryd.func33, Tryd.ntmps33
  go_wp2_with (first
    | (go_at_call 34; ((with_reducible refine (N1.out _ H0.out).mono ?_); rintro e w1 ⟨rfl, hb⟩; have H1 := Lib.hid (H0.out.below hb); have B1 := Lib.hid hb; clear hb))
    | (go_at_call 34; ((with_reducible refine (N2.out _ H1.out).mono ?_); rintro e w2 ⟨rfl, hb⟩; have B2 := Lib.hid (bl_thru B1.out (Nat.le_refl _) hb); clear hb))
    | (go_at_call 16; first | ((with_reducible refine (ok_new2 _ _ _ _ (by simp)).mono ?_); rintro e w' ⟨rfl, rfl⟩)))
  all_goals first
    | (go_ret; exact ⟨rfl, B2.out⟩; done)
    | (go_ret; refine ⟨rfl, ?_⟩; have := B2.out; have := B2.out.size; go_grown; done)
    | (exfalso; simp_all [ok2]; done)
    | trace_state
end Go.Proofs.YthlocmhfjandlaaDoor
