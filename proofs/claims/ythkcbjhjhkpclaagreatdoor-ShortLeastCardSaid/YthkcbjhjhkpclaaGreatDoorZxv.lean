/-
  SOME OF MY TEXTS in one: Zx Zv. Each says what it proves.
-/
import Derived.Test.YthkcbjhjhkpclaaGreatDoorBq
import Derived.Test.YthkcbjhjhkpclaaGreatDoorBe
set_option linter.unusedVariables false
set_option linter.unusedSimpArgs false
/-
  PLAIN: a quotient of whole numbers, rounded.
-/
namespace Go.Proofs.YthkcbjhjhkpclaaGreatDoor.Fm

theorem PkC_scale {le lt le' lt' : Nat → Prop} {w : Nat} (h1 : ∀ M, le (M * w) ↔ le' M) (h2 : ∀ M, lt (M * w) ↔ lt' M) (k n : Nat) : PkC k w le lt n ↔ PkC k 1 le' lt' n := by
  have e1 : ∀ x, 2 * (x * w) = (2 * (x * 1)) * w := fun x => by rw [Nat.mul_one, Nat.mul_assoc]
  have e2 : ∀ x, x * w = (x * 1) * w := fun x => by rw [Nat.mul_one]
  rcases k with _ | _ | _ | k
  · show (_ ∧ le _) ↔ (_ ∧ le' _); rw [e1, h1]
  · show (_ ∧ (_ ∨ lt _)) ↔ (_ ∧ (_ ∨ lt' _)); rw [e1, h2]
  · show (_ ∧ (_ ∨ lt _ ∨ (le _ ∧ _))) ↔ (_ ∧ (_ ∨ lt' _ ∨ (le' _ ∧ _))); rw [e2, h1, h2]
  · show (_ ∧ (_ ∨ le _)) ↔ (_ ∧ (_ ∨ le' _)); rw [e2, h1]
def K74 : Nat := 1074
def K24 : Nat := 1024
/-- so many of the least ones are 1 -/
def u74 : Nat := 2 ^ K74
def w24 : Nat := 2 ^ K24
theorem pow74 (t : Nat) : 2 ^ (1074 + t) = u74 * 2 ^ t := by
  rw [show 1074 + t = K74 + t from rfl, Nat.pow_add]; rfl
theorem u74_pos : 0 < u74 := Nat.two_pow_pos _
theorem w24_pos : 0 < w24 := Nat.two_pow_pos _
/-- twice the number is no more, less, than M of the least ones -/
def qle (A B M : Nat) : Prop := M * B ≤ 2 * (A * u74)
def qlt (A B M : Nat) : Prop := M * B < 2 * (A * u74)
theorem cut_q (A : Nat) {B : Nat} (hB : 0 < B) : Cut (qle A B) (qlt A B) :=
  ⟨fun M N h1 h2 => Nat.le_trans (Nat.mul_le_mul_right _ h1) h2, fun M N h1 h2 => Nat.lt_of_lt_of_le (Nat.mul_lt_mul_of_pos_right h1 hB) h2, fun M h => Nat.le_of_lt h⟩
/-- A by B, rounded: its rank -/
def rat (k A B : Nat) : Nat := if A = 0 then 0 else numk k (ratD false A B 0).m (ratD false A B 0).e
def ratC (A B : Nat) : Bool := if A = 0 then false else chg (ratD false A B 0).m (ratD false A B 0).e
theorem MR_pos : 0 < MR := by decide
theorem PkC_zero {B : Nat} (hB : 0 < B) (k n : Nat) : n ≤ 0 ↔ PkC k 1 (qle 0 B) (qlt 0 B) n := by
  have hq : ∀ M, qle 0 B M ↔ M = 0 := fun M => by
    unfold qle
    rw [Nat.zero_mul, Nat.mul_zero, Nat.le_zero, Nat.mul_eq_zero]; omega
  have hl : ∀ M, ¬ qlt 0 B M := fun M => by unfold qlt; omega
  have h1 := MR_pos
  have hz := mag_zero
  have hm : ∀ j, mag j = 0 → j = 0 := fun j h => mag_inj (h.trans hz.symm)
  have hs : ∀ j, j ≠ 0 → mag (j - 1) + mag j ≠ 0 := fun j h h2 => h (hm j (by omega))
  rcases k with _ | _ | _ | k
  · show _ ↔ (_ ∧ qle _ _ _)
    rw [hq]
    constructor
    · intro h
      rw [show n = 0 by omega, hz]; omega
    · rintro ⟨-, h⟩
      have := hm n (by omega); omega
  · show _ ↔ (_ ∧ (_ ∨ qlt _ _ _))
    have := hl (2 * (mag (n - 1) * 1))
    constructor
    · intro h; omega
    · rintro ⟨-, h | h⟩
      · omega
      · exact absurd h this
  · show _ ↔ (_ ∧ (_ ∨ qlt _ _ _ ∨ (qle _ _ _ ∧ _)))
    rw [hq]
    have := hl ((mag (n - 1) + mag n) * 1)
    constructor
    · intro h; omega
    · rintro ⟨-, h | h | ⟨h, -⟩⟩
      · omega
      · exact absurd h this
      · rcases Nat.eq_zero_or_pos n with h0 | h0
        · omega
        · exact absurd (by omega) (hs n (by omega))
  · show _ ↔ (_ ∧ (_ ∨ qle _ _ _))
    rw [hq]
    constructor
    · intro h; omega
    · rintro ⟨-, h | h⟩
      · omega
      · rcases Nat.eq_zero_or_pos n with h0 | h0
        · omega
        · exact absurd (by omega) (hs n (by omega))
theorem rat_iff (k A : Nat) {B : Nat} (hB : 0 < B) (n : Nat) : n ≤ rat k A B ↔ PkC k 1 (qle A B) (qlt A B) n := by
  unfold rat
  split
  · rename_i h; rw [h]; exact PkC_zero hB k n
  · rename_i h
    obtain ⟨t, ht⟩ : ∃ t : Nat, 0 ≤ (0 : Int) - qk A B - 2 + 1074 + t := ⟨qk A B + 2, by omega⟩
    rw [(ratio_num h (by omega) (E := 0) (t := t) ht false k n).1]
    have e : ((0 : Int) + 1074 + (t : Int)).toNat = 1074 + t := by omega
    rw [e]
    have hp := Nat.two_pow_pos t
    have e2 : 2 * (A * 2 ^ (1074 + t)) = 2 * (A * u74) * 2 ^ t := by rw [pow74, ← Nat.mul_assoc, ← Nat.mul_assoc, ← Nat.mul_assoc]
    apply PkC_scale
    · intro M
      rw [e2, Nat.mul_right_comm]
      exact Nat.mul_le_mul_right_iff hp
    · intro M
      rw [e2, Nat.mul_right_comm]
      exact Nat.mul_lt_mul_right hp
theorem ratC_iff (A : Nat) {B : Nat} (hB : 0 < B) : ratC A B = false ↔ ∃ r, r < MR ∧ mag r * B = A * u74 := by
  unfold ratC
  split
  · rename_i h; rw [h]
    exact ⟨fun _ => ⟨0, MR_pos, by rw [mag_zero]; omega⟩, fun _ => rfl⟩
  · rename_i h
    obtain ⟨t, ht⟩ : ∃ t : Nat, 0 ≤ (0 : Int) - qk A B - 2 + 1074 + t := ⟨qk A B + 2, by omega⟩
    rw [(ratio_num h (by omega) (E := 0) (t := t) ht false 0 0).2]
    have e : ((0 : Int) + 1074 + (t : Int)).toNat = 1074 + t := by omega
    rw [e, pow74]
    have hp := Nat.two_pow_pos t
    have hx : ∀ r, mag r * 2 ^ t * B = A * (u74 * 2 ^ t) ↔ mag r * B = A * u74 := fun r => by
      rw [Nat.mul_right_comm, ← Nat.mul_assoc]
      exact ⟨fun h => Nat.eq_of_mul_eq_mul_right hp h, fun h => by rw [h]⟩
    exact ⟨fun ⟨r, h1, h2⟩ => ⟨r, h1, (hx r).1 h2⟩, fun ⟨r, h1, h2⟩ => ⟨r, h1, (hx r).2 h2⟩⟩
theorem rat_le_MR (k A : Nat) {B : Nat} (hB : 0 < B) : rat k A B ≤ MR := by
  have := (rat_iff k A hB (rat k A B)).1 (Nat.le_refl _)
  rcases k with _ | _ | _ | k
  · exact Nat.le_trans this.1 (Nat.sub_le _ _)
  · exact this.1
  · exact this.1
  · exact this.1
theorem q_le_of {A B A' B' : Nat} (hB : 0 < B) (hB' : 0 < B') (h : A * B' ≤ A' * B) (M : Nat) : (qle A B M → qle A' B' M) ∧ (qlt A B M → qlt A' B' M) := by
  have h1 : 2 * (A * u74) * B' ≤ 2 * (A' * u74) * B := by
    have e1 : 2 * (A * u74) * B' = 2 * (A * B' * u74) := by rw [Nat.mul_assoc, Nat.mul_right_comm A]
    have e2 : 2 * (A' * u74) * B = 2 * (A' * B * u74) := by rw [Nat.mul_assoc, Nat.mul_right_comm A']
    rw [e1, e2]
    exact Nat.mul_le_mul_left _ (Nat.mul_le_mul_right _ h)
  constructor
  · intro hq
    unfold qle at hq ⊢
    apply Nat.le_of_mul_le_mul_right _ hB
    calc M * B' * B = M * B * B' := Nat.mul_right_comm _ _ _
      _ ≤ 2 * (A * u74) * B' := Nat.mul_le_mul_right _ hq
      _ ≤ _ := h1
  · intro hq
    unfold qlt at hq ⊢
    apply Nat.lt_of_mul_lt_mul_right (a := B)
    calc M * B' * B = M * B * B' := Nat.mul_right_comm _ _ _
      _ < 2 * (A * u74) * B' := Nat.mul_lt_mul_of_pos_right hq hB'
      _ ≤ _ := h1
/-- of what is more no less comes -/
theorem rat_mono (k : Nat) {A B A' B' : Nat} (hB : 0 < B) (hB' : 0 < B') (h : A * B' ≤ A' * B) : rat k A B ≤ rat k A' B' := by
  rw [rat_iff k A' hB']
  exact PkC_mono (fun M => (q_le_of hB hB' h M).1) (fun M => (q_le_of hB hB' h M).2) ((rat_iff k A hB _).1 (Nat.le_refl _))
theorem rat_congr (k : Nat) {A B A' B' : Nat} (hB : 0 < B) (hB' : 0 < B') (h : A * B' = A' * B) : rat k A B = rat k A' B' :=
  Nat.le_antisymm (rat_mono k hB hB' (Nat.le_of_eq h)) (rat_mono k hB' hB (Nat.le_of_eq h.symm))
theorem bool_eq {a b : Bool} (h : a = false ↔ b = false) : a = b := by cases a <;> cases b <;> simp_all
theorem ratC_congr {A B A' B' : Nat} (hB : 0 < B) (hB' : 0 < B') (h : A * B' = A' * B) : ratC A B = ratC A' B' := by
  apply bool_eq
  rw [ratC_iff A hB, ratC_iff A' hB']
  constructor
  · rintro ⟨r, h1, h2⟩
    refine ⟨r, h1, Nat.eq_of_mul_eq_mul_right hB ?_⟩
    calc mag r * B' * B = mag r * B * B' := Nat.mul_right_comm _ _ _
      _ = A * u74 * B' := by rw [h2]
      _ = A * B' * u74 := Nat.mul_right_comm _ _ _
      _ = A' * B * u74 := by rw [h]
      _ = _ := Nat.mul_right_comm _ _ _
  · rintro ⟨r, h1, h2⟩
    refine ⟨r, h1, Nat.eq_of_mul_eq_mul_right hB' ?_⟩
    calc mag r * B * B' = mag r * B' * B := Nat.mul_right_comm _ _ _
      _ = A' * u74 * B := by rw [h2]
      _ = A' * B * u74 := Nat.mul_right_comm _ _ _
      _ = A * B' * u74 := by rw [h]
      _ = _ := Nat.mul_right_comm _ _ _
/-- what a number with a value is rounded to -/
theorem rat_exact (k : Nat) {A B r : Nat} (hB : 0 < B) (hr : r < MR) (h : mag r * B = A * u74) : rat k A B = r ∧ ratC A B = false := by
  refine ⟨?_, (ratC_iff A hB).2 ⟨r, hr, h⟩⟩
  by_cases h0 : A = 0
  · have hm : mag r = 0 := by
      rw [h0, Nat.zero_mul] at h
      rcases Nat.mul_eq_zero.1 h with h | h <;> omega
    unfold rat
    rw [if_pos h0]
    exact (mag_inj (hm.trans mag_zero.symm)).symm
  · have hk : ∀ k n, n ≤ numk k (ratD false A B 0).m (ratD false A B 0).e ↔ PkC k 1 (qle A B) (qlt A B) n := fun k n => by
      have := rat_iff k A hB n
      unfold rat at this
      rwa [if_neg h0] at this
    have e1 : 2 * (mag r * 1) * B = 2 * (A * u74) := by rw [Nat.mul_one, Nat.mul_assoc, h]
    have := num_at (by omega) (cut_q A hB) hk hr (Nat.le_of_eq e1) (fun h2 => absurd h2 (by unfold qlt; omega)) k
    unfold rat
    rw [if_neg h0]
    exact this
/-- an exact number's -/
theorem rat_of_tt {t m A B : Nat} {e : Int} (hB : 0 < B) (ht : 0 ≤ e + 1074 + t) (h : tt t m e * B = A * (u74 * 2 ^ t)) (k : Nat) : numk k m e = rat k A B ∧ chg m e = ratC A B := by
  have hp := Nat.two_pow_pos t
  have h2 : tt t m e * B = A * u74 * 2 ^ t := by rw [h, ← Nat.mul_assoc]
  constructor
  · have hx : ∀ n, n ≤ numk k m e ↔ n ≤ rat k A B := fun n => by
      rw [numk_iff ht k n, ← PkC_tt, rat_iff k A hB n]
      have e3 : 2 * tt t m e * B = 2 * (A * u74) * 2 ^ t := by rw [Nat.mul_assoc, h2, ← Nat.mul_assoc]
      apply PkC_scale
      · intro M
        unfold qle
        constructor
        · intro h4
          have := Nat.mul_le_mul_right B h4
          rw [e3, Nat.mul_right_comm] at this
          exact Nat.le_of_mul_le_mul_right this hp
        · intro h4
          have := Nat.mul_le_mul_right (2 ^ t) h4
          rw [← e3, Nat.mul_right_comm] at this
          exact Nat.le_of_mul_le_mul_right this hB
      · intro M
        unfold qlt
        constructor
        · intro h4
          have := Nat.mul_lt_mul_of_pos_right h4 hB
          rw [e3, Nat.mul_right_comm] at this
          exact Nat.lt_of_mul_lt_mul_right this
        · intro h4
          have := Nat.mul_lt_mul_of_pos_right h4 hp
          rw [← e3, Nat.mul_right_comm] at this
          exact Nat.lt_of_mul_lt_mul_right this
    exact Nat.le_antisymm ((hx _).1 (Nat.le_refl _)) ((hx _).2 (Nat.le_refl _))
  · apply bool_eq
    rw [chg_iff ht, ratC_iff A hB]
    constructor
    · rintro ⟨r, h3, h4⟩
      refine ⟨r, h3, Nat.eq_of_mul_eq_mul_right hp ?_⟩
      rw [← h2, h4, Nat.mul_right_comm]
    · rintro ⟨r, h3, h4⟩
      refine ⟨r, h3, Nat.eq_of_mul_eq_mul_right hB ?_⟩
      rw [h2, ← h4, Nat.mul_right_comm]
/-- what is beyond all numbers, counted in the least ones -/
def u98 : Nat := w24 * u74
theorem mag_MR : mag MR = u98 := by
  obtain ⟨j, hj⟩ : ∃ j : Nat, j = 2046 := ⟨_, rfl⟩
  have h := mag_of 4503599627370496 j (by omega) (by omega)
  have e1 : 4503599627370496 + j * 4503599627370496 = MR := by rw [hj]; rfl
  have e2 : (4503599627370496 : Nat) = 2 ^ 52 := by decide
  have e3 : 52 + j = K24 + K74 := by rw [hj]; rfl
  rw [e1] at h
  rw [h, e2, ← Nat.pow_add, e3, Nat.pow_add, u98, w24, u74]
theorem mag_bd {n : Nat} (h : n ≤ MR) : mag n ≤ u98 := by rw [← mag_MR]; exact mag_mono h
/-- what is beyond all numbers -/
theorem rat_top (k : Nat) {A B : Nat} (hB : 0 < B) (h : B * (2 * w24) ≤ A) : rat k A B = (if k = 0 then MR - 1 else MR) ∧ ratC A B = true := by
  have hlt : ∀ M, M ≤ u98 → qlt A B (2 * M) := fun M hM => by
    unfold qlt
    rw [Nat.mul_assoc]
    apply Nat.mul_lt_mul_of_pos_left _ (by omega)
    have h6 := Nat.mul_pos hB (Nat.mul_pos w24_pos u74_pos)
    calc M * B ≤ u98 * B := Nat.mul_le_mul_right _ hM
      _ = B * (w24 * u74) := by rw [u98, Nat.mul_comm]
      _ < B * (w24 * u74) + B * (w24 * u74) := Nat.lt_add_of_pos_right h6
      _ = B * (2 * w24) * u74 := by rw [← Nat.two_mul, Nat.mul_left_comm, ← Nat.mul_assoc 2, Nat.mul_assoc B]
      _ ≤ _ := Nat.mul_le_mul_right _ h
  have c := cut_q A hB
  have hMR : MR = 9218868437227405312 := rfl
  have b1 := mag_bd (Nat.sub_le MR 1)
  have b2 := mag_bd (Nat.le_refl MR)
  have b3 : mag (MR - 1) ≤ mag MR := mag_mono (Nat.sub_le _ _)
  have hs : qlt A B ((mag (MR - 1) + mag MR) * 1) := c.ltdown (N := 2 * mag MR) (by clear h b1 b2 hlt; omega) (hlt _ b2)
  constructor
  · have hl := rat_le_MR k A hB
    apply Nat.le_antisymm
    · split
      · rename_i h0
        subst h0
        exact ((rat_iff 0 A hB _).1 (Nat.le_refl _)).1
      · exact hl
    · by_cases hk : k = 0
      · rw [if_pos hk, rat_iff k A hB, hk]
        refine ⟨Nat.le_refl _, c.weak _ ?_⟩
        rw [Nat.mul_one]
        exact hlt _ b1
      · rw [if_neg hk, rat_iff k A hB]
        rcases k with _ | _ | _ | k
        · exact absurd rfl hk
        · refine ⟨Nat.le_refl _, Or.inr ?_⟩
          rw [Nat.mul_one]
          exact hlt _ b1
        · exact ⟨Nat.le_refl _, Or.inr (Or.inl hs)⟩
        · exact ⟨Nat.le_refl _, Or.inr (c.weak _ hs)⟩
  · rw [← Bool.not_eq_false, ratC_iff A hB]
    rintro ⟨r, h1, h2⟩
    have := hlt _ (mag_bd (Nat.le_of_lt h1))
    unfold qlt at this
    rw [Nat.mul_assoc] at this
    omega
/-- what is less than half the least number -/
theorem rat_tiny (k : Nat) {A B : Nat} (hA : 0 < A) (h : A * (4 * u74) ≤ B) : rat k A B = (if k = 1 then 1 else 0) ∧ ratC A B = true := by
  have hB : 0 < B := Nat.lt_of_lt_of_le (Nat.mul_pos hA (Nat.mul_pos (by omega) u74_pos)) h
  have hx : 2 * (A * u74) < B := by
    have e : A * (4 * u74) = 4 * (A * u74) := Nat.mul_left_comm _ _ _
    have h7 := Nat.mul_pos hA u74_pos
    rw [e] at h
    omega
  have hn : ∀ M, 0 < M → ¬ qle A B M := fun M hM h2 => by
    unfold qle at h2
    have := Nat.le_trans (Nat.le_mul_of_pos_left B hM) h2
    omega
  have c := cut_q A hB
  have hMR : MR = 9218868437227405312 := rfl
  have hm : ∀ j, 0 < j → 0 < mag j := fun j hj => by have := mag_lt hj; rw [mag_zero] at this; exact this
  constructor
  · have hup : ∀ n, (if k = 1 then 1 else 0) < n → ¬ n ≤ rat k A B := fun n hj h2 => by
      rw [rat_iff k A hB] at h2
      rcases k with _ | _ | _ | k
      · exact hn _ (by have := hm n (by omega); omega) h2.2
      · rcases h2.2 with h3 | h3
        · omega
        · simp at hj
          exact hn _ (by have := hm (n - 1) (by omega); omega) (c.weak _ h3)
      · have hj2 : 0 < n := by simp at hj; omega
        rcases h2.2 with h3 | h3 | h3
        · omega
        · exact hn _ (by have := hm n hj2; omega) (c.weak _ h3)
        · exact hn _ (by have := hm n hj2; omega) h3.1
      · have hj2 : 0 < n := by simp at hj; omega
        rcases h2.2 with h3 | h3
        · omega
        · exact hn _ (by have := hm n hj2; omega) h3
    apply Nat.le_antisymm
    · exact Nat.le_of_not_lt fun h2 => hup _ h2 (Nat.le_refl _)
    · split
      · rename_i hk
        subst hk
        rw [rat_iff 1 A hB]
        refine ⟨by omega, Or.inr ?_⟩
        show qlt A B (2 * (mag 0 * 1))
        rw [mag_zero]
        unfold qlt
        have := Nat.mul_pos hA u74_pos
        omega
      · omega
  · rw [← Bool.not_eq_false, ratC_iff A hB]
    rintro ⟨r, h1, h2⟩
    have h3 := Nat.mul_pos hA u74_pos
    rcases Nat.eq_zero_or_pos (mag r) with h4 | h4
    · rw [h4] at h2; omega
    · have := Nat.le_mul_of_pos_left B h4
      omega
/-- a quotient's -/
theorem rat_of_ratio {c d A B : Nat} {E : Int} (hc : c ≠ 0) (hd : d ≠ 0) (hB : 0 < B) (hs : ∀ s : Nat, 0 ≤ E + s → c * 2 ^ (E + s).toNat * B = A * d * 2 ^ s) (neg : Bool) (k : Nat) :
    numk k (ratD neg c d E).m (ratD neg c d E).e = rat k A B ∧ chg (ratD neg c d E).m (ratD neg c d E).e = ratC A B := by
  obtain ⟨t, ht⟩ : ∃ t : Nat, 0 ≤ E - qk c d - 2 + 1074 + t := ⟨(qk c d + 2 - E).toNat, by omega⟩
  have hp := Nat.two_pow_pos t
  have hd0 : 0 < d := by omega
  have h2 : c * 2 ^ (E + 1074 + t).toNat * B = A * u74 * (2 ^ t * d) := by
    have := hs (1074 + t) (by omega)
    rw [show E + ((1074 + t : Nat) : Int) = E + 1074 + t by omega, pow74] at this
    rw [this]
    simp only [Nat.mul_assoc, Nat.mul_comm, Nat.mul_left_comm]
  have h3 : ∀ M, M * 2 ^ t * d * B = M * B * (2 ^ t * d) := fun M => by simp only [Nat.mul_assoc, Nat.mul_comm, Nat.mul_left_comm]
  have h4 : 2 * (c * 2 ^ (E + 1074 + t).toNat) * B = 2 * (A * u74) * (2 ^ t * d) := by rw [Nat.mul_assoc, h2, ← Nat.mul_assoc]
  have hq : 0 < 2 ^ t * d := Nat.mul_pos hp hd0
  constructor
  · have hx : ∀ n, n ≤ numk k (ratD neg c d E).m (ratD neg c d E).e ↔ n ≤ rat k A B := fun n => by
      rw [(ratio_num hc hd ht neg k n).1, rat_iff k A hB n]
      apply PkC_scale
      · intro M
        unfold qle
        constructor
        · intro h5
          have := Nat.mul_le_mul_right B h5
          rw [h3, h4] at this
          exact Nat.le_of_mul_le_mul_right this hq
        · intro h5
          have := Nat.mul_le_mul_right (2 ^ t * d) h5
          rw [← h3, ← h4] at this
          exact Nat.le_of_mul_le_mul_right this hB
      · intro M
        unfold qlt
        constructor
        · intro h5
          have := Nat.mul_lt_mul_of_pos_right h5 hB
          rw [h3, h4] at this
          exact Nat.lt_of_mul_lt_mul_right this
        · intro h5
          have := Nat.mul_lt_mul_of_pos_right h5 hq
          rw [← h3, ← h4] at this
          exact Nat.lt_of_mul_lt_mul_right this
    exact Nat.le_antisymm ((hx _).1 (Nat.le_refl _)) ((hx _).2 (Nat.le_refl _))
  · apply bool_eq
    rw [(ratio_num hc hd ht neg 0 0).2, ratC_iff A hB]
    constructor
    · rintro ⟨r, h5, h6⟩
      refine ⟨r, h5, Nat.eq_of_mul_eq_mul_right hq ?_⟩
      rw [← h2, ← h6, h3]
    · rintro ⟨r, h5, h6⟩
      refine ⟨r, h5, Nat.eq_of_mul_eq_mul_right hB ?_⟩
      rw [h2, ← h6, h3]
end Go.Proofs.YthkcbjhjhkpclaaGreatDoor.Fm

/-
  PLAIN: digits times a power of ten, made ready to be rounded (read.value).
-/
namespace Go.Proofs.YthkcbjhjhkpclaaGreatDoor
open Fm

/-- what read.value tells of L digits that count N, times 10^K -/
def rvD (neg : Bool) (L N : Nat) (K : Int) : D :=
  if 400 < (L : Int) + K then ⟨neg, 1, 2000⟩ else if (L : Int) + K < -400 then ⟨neg, 1, -2000⟩
  else if 0 ≤ K then norm neg (N * 10 ^ K.toNat) 0
  else ratD ((norm neg (N * 10 ^ K.toNat) 0).neg != (norm false (10 ^ (-K).toNat) 0).neg) (norm neg (N * 10 ^ K.toNat) 0).m (norm false (10 ^ (-K).toNat) 0).m ((norm neg (N * 10 ^ K.toNat) 0).e - (norm false (10 ^ (-K).toNat) 0).e)
/-- the number as a quotient -/
def rdA (N : Nat) (K : Int) : Nat := N * 10 ^ K.toNat
def rdB (K : Int) : Nat := 10 ^ (-K).toNat
theorem rdB_pos (K : Int) : 0 < rdB K := Nat.pow_pos (by omega)
theorem norm_shape {neg : Bool} {a : Nat} (h : a ≠ 0) : ∃ c k : Nat, norm neg a 0 = ⟨neg, c, (k : Int)⟩ ∧ a = c * 2 ^ k ∧ c ≠ 0 := by
  obtain ⟨q, h1, h2⟩ := ctz_spec h
  refine ⟨a / 2 ^ ctz a, ctz a, ?_, ?_, ?_⟩
  · unfold norm; rw [if_neg h, Int.zero_add]
  · have : a / 2 ^ ctz a = q := by
      conv => lhs; lhs; rw [h1]
      exact Nat.mul_div_cancel _ (Nat.two_pow_pos _)
    rw [this]; exact h1
  · have : a / 2 ^ ctz a = q := by
      conv => lhs; lhs; rw [h1]
      exact Nat.mul_div_cancel _ (Nat.two_pow_pos _)
    rw [this]; omega
theorem eight_ten (a b : Nat) (h : b ≤ 3 * a) : 2 ^ b ≤ 10 ^ a :=
  Nat.le_trans (Nat.pow_le_pow_right (by omega) h) (by rw [Nat.pow_mul]; exact Nat.pow_le_pow_left (by omega) a)
theorem w24_two {z : Nat} (h : 2000 ≤ z) : 2 * w24 ≤ 2 ^ z := by
  rw [w24, ← Nat.pow_succ']
  exact Nat.pow_le_pow_right (by omega) (by unfold K24; omega)
theorem u74_two {z : Nat} (h : 2000 ≤ z) : 4 * u74 ≤ 2 ^ z := by
  rw [u74, show 4 = 2 ^ 2 by decide, ← Nat.pow_add]
  exact Nat.pow_le_pow_right (by omega) (by unfold K74; omega)
theorem w24_ten {a : Nat} (h : 400 ≤ a) : 2 * w24 ≤ 10 ^ a := by
  rw [w24, ← Nat.pow_succ']
  exact eight_ten _ _ (by unfold K24; omega)
theorem u74_ten {a : Nat} (h : 401 ≤ a) : 4 * u74 ≤ 10 ^ a := by
  rw [u74, show 4 = 2 ^ 2 by decide, ← Nat.pow_add]
  exact eight_ten _ _ (by unfold K74; omega)
theorem rv_rat (neg : Bool) {L N : Nat} (K : Int) (h1 : 10 ^ (L - 1) ≤ N) (h2 : N < 10 ^ L) (k : Nat) :
    numk k (rvD neg L N K).m (rvD neg L N K).e = rat k (rdA N K) (rdB K) ∧ chg (rvD neg L N K).m (rvD neg L N K).e = ratC (rdA N K) (rdB K) ∧ (rvD neg L N K).neg = neg := by
  have hN : 0 < N := Nat.lt_of_lt_of_le (Nat.pow_pos (by omega)) h1
  have hL : 0 < L := by
    rcases Nat.eq_zero_or_pos L with h | h
    · rw [h] at h2; simp at h2; omega
    · exact h
  have hBp := rdB_pos K
  have h10 : ∀ n : Nat, 0 < 10 ^ n := fun n => Nat.pow_pos (by omega)
  unfold rvD
  obtain ⟨z, hz⟩ : ∃ z : Nat, z = 2000 := ⟨_, rfl⟩
  split
  · rename_i hb
    have e1 := rat_of_tt (t := 0) (m := 1) (A := 2 ^ z) (B := 1) (e := 2000) (by omega) (by omega) (by
      unfold tt
      rw [Nat.mul_one, Nat.one_mul, Nat.pow_zero, Nat.mul_one, u74, ← Nat.pow_add]
      congr 1
      unfold K74
      omega) k
    have e2 := rat_top k (A := 2 ^ z) (B := 1) (by omega) (by rw [Nat.one_mul]; exact w24_two (by omega))
    have e3 := rat_top k (A := rdA N K) (B := rdB K) hBp (by
      unfold rdA rdB
      calc 10 ^ (-K).toNat * (2 * w24) ≤ 10 ^ (-K).toNat * 10 ^ (L - 1 + K.toNat - (-K).toNat) := Nat.mul_le_mul_left _ (w24_ten (by omega))
        _ = 10 ^ (L - 1 + K.toNat) := by rw [← Nat.pow_add]; congr 1; omega
        _ = 10 ^ (L - 1) * 10 ^ K.toNat := Nat.pow_add _ _ _
        _ ≤ _ := Nat.mul_le_mul_right _ h1)
    exact ⟨by rw [e1.1, e2.1, e3.1], by rw [e1.2, e2.2, e3.2], rfl⟩
  · split
    · rename_i ha hb
      obtain ⟨tn, htn⟩ : ∃ tn : Nat, tn = 926 := ⟨_, rfl⟩
      have e1 := rat_of_tt (t := tn) (m := 1) (A := 1) (B := 2 ^ z) (e := -2000) (Nat.two_pow_pos _) (by omega) (by
        unfold tt
        rw [Nat.one_mul, Nat.one_mul, u74, ← Nat.pow_add, ← Nat.pow_add]
        congr 1
        unfold K74
        omega) k
      have e2 := rat_tiny k (A := 1) (B := 2 ^ z) (by omega) (by rw [Nat.one_mul]; exact u74_two (by omega))
      have e3 := rat_tiny k (A := rdA N K) (B := rdB K) (Nat.mul_pos hN (h10 _)) (by
        unfold rdA rdB
        rw [show K.toNat = 0 by omega, Nat.pow_zero, Nat.mul_one]
        calc N * (4 * u74) ≤ 10 ^ L * 10 ^ ((-K).toNat - L) := Nat.mul_le_mul (Nat.le_of_lt h2) (u74_ten (by omega))
          _ = _ := by rw [← Nat.pow_add]; congr 1; omega)
      exact ⟨by rw [e1.1, e2.1, e3.1], by rw [e1.2, e2.2, e3.2], rfl⟩
    · split
      · rename_i hK
        obtain ⟨c, z, e1, e2, e3⟩ := norm_shape (neg := neg) (a := N * 10 ^ K.toNat) (by have := Nat.mul_pos hN (h10 K.toNat); omega)
        rw [e1]
        have e4 := rat_of_tt (t := 0) (m := c) (A := rdA N K) (B := rdB K) (e := (z : Int)) hBp (by omega) (by
          unfold tt rdA rdB
          rw [show (-K).toNat = 0 by omega, e2, Nat.pow_zero, Nat.mul_one, Nat.mul_one, Nat.mul_assoc, u74, ← Nat.pow_add]
          congr 2) k
        exact ⟨e4.1, e4.2, rfl⟩
      · rename_i hK
        obtain ⟨c, z, e1, e2, e3⟩ := norm_shape (neg := neg) (a := N * 10 ^ K.toNat) (by have := Nat.mul_pos hN (h10 K.toNat); omega)
        obtain ⟨d, y, f1, f2, f3⟩ := norm_shape (neg := false) (a := 10 ^ (-K).toNat) (by have := h10 (-K).toNat; omega)
        rw [e1, f1]
        have e4 := rat_of_ratio (c := c) (d := d) (A := rdA N K) (B := rdB K) (E := (z : Int) - (y : Int)) e3 f3 hBp (by
          intro s hs
          unfold rdA rdB
          rw [e2, f2]
          have : 2 ^ ((z : Int) - (y : Int) + (s : Int)).toNat * 2 ^ y = 2 ^ z * 2 ^ s := by
            rw [← Nat.pow_add, ← Nat.pow_add]; congr 1; omega
          calc c * 2 ^ ((z : Int) - (y : Int) + (s : Int)).toNat * (d * 2 ^ y) = c * d * (2 ^ ((z : Int) - (y : Int) + (s : Int)).toNat * 2 ^ y) := by simp only [Nat.mul_assoc, Nat.mul_comm, Nat.mul_left_comm]
            _ = c * d * (2 ^ z * 2 ^ s) := by rw [this]
            _ = _ := by simp only [Nat.mul_assoc, Nat.mul_comm, Nat.mul_left_comm]) (neg != false) k
        exact ⟨e4.1, e4.2, by unfold ratD; cases neg <;> rfl⟩
end Go.Proofs.YthkcbjhjhkpclaaGreatDoor
