/-
  SOME OF MY TEXTS in one: Zx Zv Zs Zt Zq Zw Zny Zn Ya Yb Yc Yd Ye. Each says what it proves.
-/
import Derived.Test.YtofdjfdnckmmmaaGreatDoorBq
import Derived.Test.YtofdjfdnckmmmaaGreatDoorBe
import Derived.Test.YtofdjfdnckmmmaaGreatDoorZp
import Derived.Test.YtofdjfdnckmmmaaGreatDoorHg
import Derived.Test.YtofdjfdnckmmmaaGreatDoorDo
import Derived.Test.YtofdjfdnckmmmaaGreatDoorZr
import Derived.Test.YtofdjfdnckmmmaaGreatDoorRx
import Derived.Test.YtofdjfdnckmmmaaGreatDoorPsc
import Derived.Test.YtofdjfdnckmmmaaGreatDoorNa
import Derived.Test.YtofdjfdnckmmmaaGreatDoorBh
import Derived.Test.YtofdjfdnckmmmaaGreatDoorLk
set_option linter.unusedVariables false
set_option linter.unusedSimpArgs false
/-
  PLAIN: a quotient of whole numbers, rounded.
-/
namespace Go.Proofs.YtofdjfdnckmmmaaGreatDoor.Fm

theorem PkC_scale {le lt le' lt' : Nat → Prop} {w : Nat} (h1 : ∀ M, le (M * w) ↔ le' M) (h2 : ∀ M, lt (M * w) ↔ lt' M) (k n : Nat) : PkC k w le lt n ↔ PkC k 1 le' lt' n := by
  have e1 : ∀ x, 2 * (x * w) = (2 * (x * 1)) * w := fun x => by rw [Nat.mul_one, Nat.mul_assoc]
  have e2 : ∀ x, x * w = (x * 1) * w := fun x => by rw [Nat.mul_one]
  rcases k with _ | _ | _ | k
  · show (_ ∧ le _) ↔ (_ ∧ le' _); rw [e1, h1]
  · show (_ ∧ (_ ∨ lt _)) ↔ (_ ∧ (_ ∨ lt' _)); rw [e1, h2]
  · show (_ ∧ (_ ∨ lt _ ∨ (le _ ∧ _))) ↔ (_ ∧ (_ ∨ lt' _ ∨ (le' _ ∧ _))); rw [e2, h1, h2]
  · show (_ ∧ (_ ∨ le _)) ↔ (_ ∧ (_ ∨ le' _)); rw [e2, h1]
def K74 : Nat := 1074
def K24 : Nat := 1024
/-- so many of the least ones are 1 -/
def u74 : Nat := 2 ^ K74
def w24 : Nat := 2 ^ K24
theorem pow74 (t : Nat) : 2 ^ (1074 + t) = u74 * 2 ^ t := by
  rw [show 1074 + t = K74 + t from rfl, Nat.pow_add]; rfl
theorem u74_pos : 0 < u74 := Nat.two_pow_pos _
theorem w24_pos : 0 < w24 := Nat.two_pow_pos _
/-- twice the number is no more, less, than M of the least ones -/
def qle (A B M : Nat) : Prop := M * B ≤ 2 * (A * u74)
def qlt (A B M : Nat) : Prop := M * B < 2 * (A * u74)
theorem cut_q (A : Nat) {B : Nat} (hB : 0 < B) : Cut (qle A B) (qlt A B) :=
  ⟨fun M N h1 h2 => Nat.le_trans (Nat.mul_le_mul_right _ h1) h2, fun M N h1 h2 => Nat.lt_of_lt_of_le (Nat.mul_lt_mul_of_pos_right h1 hB) h2, fun M h => Nat.le_of_lt h⟩
/-- A by B, rounded: its rank -/
def rat (k A B : Nat) : Nat := if A = 0 then 0 else numk k (ratD false A B 0).m (ratD false A B 0).e
def ratC (A B : Nat) : Bool := if A = 0 then false else chg (ratD false A B 0).m (ratD false A B 0).e
theorem MR_pos : 0 < MR := by decide
theorem PkC_zero {B : Nat} (hB : 0 < B) (k n : Nat) : n ≤ 0 ↔ PkC k 1 (qle 0 B) (qlt 0 B) n := by
  have hq : ∀ M, qle 0 B M ↔ M = 0 := fun M => by
    unfold qle
    rw [Nat.zero_mul, Nat.mul_zero, Nat.le_zero, Nat.mul_eq_zero]; omega
  have hl : ∀ M, ¬ qlt 0 B M := fun M => by unfold qlt; omega
  have h1 := MR_pos
  have hz := mag_zero
  have hm : ∀ j, mag j = 0 → j = 0 := fun j h => mag_inj (h.trans hz.symm)
  have hs : ∀ j, j ≠ 0 → mag (j - 1) + mag j ≠ 0 := fun j h h2 => h (hm j (by omega))
  rcases k with _ | _ | _ | k
  · show _ ↔ (_ ∧ qle _ _ _)
    rw [hq]
    constructor
    · intro h
      rw [show n = 0 by omega, hz]; omega
    · rintro ⟨-, h⟩
      have := hm n (by omega); omega
  · show _ ↔ (_ ∧ (_ ∨ qlt _ _ _))
    have := hl (2 * (mag (n - 1) * 1))
    constructor
    · intro h; omega
    · rintro ⟨-, h | h⟩
      · omega
      · exact absurd h this
  · show _ ↔ (_ ∧ (_ ∨ qlt _ _ _ ∨ (qle _ _ _ ∧ _)))
    rw [hq]
    have := hl ((mag (n - 1) + mag n) * 1)
    constructor
    · intro h; omega
    · rintro ⟨-, h | h | ⟨h, -⟩⟩
      · omega
      · exact absurd h this
      · rcases Nat.eq_zero_or_pos n with h0 | h0
        · omega
        · exact absurd (by omega) (hs n (by omega))
  · show _ ↔ (_ ∧ (_ ∨ qle _ _ _))
    rw [hq]
    constructor
    · intro h; omega
    · rintro ⟨-, h | h⟩
      · omega
      · rcases Nat.eq_zero_or_pos n with h0 | h0
        · omega
        · exact absurd (by omega) (hs n (by omega))
theorem rat_iff (k A : Nat) {B : Nat} (hB : 0 < B) (n : Nat) : n ≤ rat k A B ↔ PkC k 1 (qle A B) (qlt A B) n := by
  unfold rat
  split
  · rename_i h; rw [h]; exact PkC_zero hB k n
  · rename_i h
    obtain ⟨t, ht⟩ : ∃ t : Nat, 0 ≤ (0 : Int) - qk A B - 2 + 1074 + t := ⟨qk A B + 2, by omega⟩
    rw [(ratio_num h (by omega) (E := 0) (t := t) ht false k n).1]
    have e : ((0 : Int) + 1074 + (t : Int)).toNat = 1074 + t := by omega
    rw [e]
    have hp := Nat.two_pow_pos t
    have e2 : 2 * (A * 2 ^ (1074 + t)) = 2 * (A * u74) * 2 ^ t := by rw [pow74, ← Nat.mul_assoc, ← Nat.mul_assoc, ← Nat.mul_assoc]
    apply PkC_scale
    · intro M
      rw [e2, Nat.mul_right_comm]
      exact Nat.mul_le_mul_right_iff hp
    · intro M
      rw [e2, Nat.mul_right_comm]
      exact Nat.mul_lt_mul_right hp
theorem ratC_iff (A : Nat) {B : Nat} (hB : 0 < B) : ratC A B = false ↔ ∃ r, r < MR ∧ mag r * B = A * u74 := by
  unfold ratC
  split
  · rename_i h; rw [h]
    exact ⟨fun _ => ⟨0, MR_pos, by rw [mag_zero]; omega⟩, fun _ => rfl⟩
  · rename_i h
    obtain ⟨t, ht⟩ : ∃ t : Nat, 0 ≤ (0 : Int) - qk A B - 2 + 1074 + t := ⟨qk A B + 2, by omega⟩
    rw [(ratio_num h (by omega) (E := 0) (t := t) ht false 0 0).2]
    have e : ((0 : Int) + 1074 + (t : Int)).toNat = 1074 + t := by omega
    rw [e, pow74]
    have hp := Nat.two_pow_pos t
    have hx : ∀ r, mag r * 2 ^ t * B = A * (u74 * 2 ^ t) ↔ mag r * B = A * u74 := fun r => by
      rw [Nat.mul_right_comm, ← Nat.mul_assoc]
      exact ⟨fun h => Nat.eq_of_mul_eq_mul_right hp h, fun h => by rw [h]⟩
    exact ⟨fun ⟨r, h1, h2⟩ => ⟨r, h1, (hx r).1 h2⟩, fun ⟨r, h1, h2⟩ => ⟨r, h1, (hx r).2 h2⟩⟩
theorem rat_le_MR (k A : Nat) {B : Nat} (hB : 0 < B) : rat k A B ≤ MR := by
  have := (rat_iff k A hB (rat k A B)).1 (Nat.le_refl _)
  rcases k with _ | _ | _ | k
  · exact Nat.le_trans this.1 (Nat.sub_le _ _)
  · exact this.1
  · exact this.1
  · exact this.1
theorem q_le_of {A B A' B' : Nat} (hB : 0 < B) (hB' : 0 < B') (h : A * B' ≤ A' * B) (M : Nat) : (qle A B M → qle A' B' M) ∧ (qlt A B M → qlt A' B' M) := by
  have h1 : 2 * (A * u74) * B' ≤ 2 * (A' * u74) * B := by
    have e1 : 2 * (A * u74) * B' = 2 * (A * B' * u74) := by rw [Nat.mul_assoc, Nat.mul_right_comm A]
    have e2 : 2 * (A' * u74) * B = 2 * (A' * B * u74) := by rw [Nat.mul_assoc, Nat.mul_right_comm A']
    rw [e1, e2]
    exact Nat.mul_le_mul_left _ (Nat.mul_le_mul_right _ h)
  constructor
  · intro hq
    unfold qle at hq ⊢
    apply Nat.le_of_mul_le_mul_right _ hB
    calc M * B' * B = M * B * B' := Nat.mul_right_comm _ _ _
      _ ≤ 2 * (A * u74) * B' := Nat.mul_le_mul_right _ hq
      _ ≤ _ := h1
  · intro hq
    unfold qlt at hq ⊢
    apply Nat.lt_of_mul_lt_mul_right (a := B)
    calc M * B' * B = M * B * B' := Nat.mul_right_comm _ _ _
      _ < 2 * (A * u74) * B' := Nat.mul_lt_mul_of_pos_right hq hB'
      _ ≤ _ := h1
/-- of what is more no less comes -/
theorem rat_mono (k : Nat) {A B A' B' : Nat} (hB : 0 < B) (hB' : 0 < B') (h : A * B' ≤ A' * B) : rat k A B ≤ rat k A' B' := by
  rw [rat_iff k A' hB']
  exact PkC_mono (fun M => (q_le_of hB hB' h M).1) (fun M => (q_le_of hB hB' h M).2) ((rat_iff k A hB _).1 (Nat.le_refl _))
theorem rat_congr (k : Nat) {A B A' B' : Nat} (hB : 0 < B) (hB' : 0 < B') (h : A * B' = A' * B) : rat k A B = rat k A' B' :=
  Nat.le_antisymm (rat_mono k hB hB' (Nat.le_of_eq h)) (rat_mono k hB' hB (Nat.le_of_eq h.symm))
theorem bool_eq {a b : Bool} (h : a = false ↔ b = false) : a = b := by cases a <;> cases b <;> simp_all
theorem ratC_congr {A B A' B' : Nat} (hB : 0 < B) (hB' : 0 < B') (h : A * B' = A' * B) : ratC A B = ratC A' B' := by
  apply bool_eq
  rw [ratC_iff A hB, ratC_iff A' hB']
  constructor
  · rintro ⟨r, h1, h2⟩
    refine ⟨r, h1, Nat.eq_of_mul_eq_mul_right hB ?_⟩
    calc mag r * B' * B = mag r * B * B' := Nat.mul_right_comm _ _ _
      _ = A * u74 * B' := by rw [h2]
      _ = A * B' * u74 := Nat.mul_right_comm _ _ _
      _ = A' * B * u74 := by rw [h]
      _ = _ := Nat.mul_right_comm _ _ _
  · rintro ⟨r, h1, h2⟩
    refine ⟨r, h1, Nat.eq_of_mul_eq_mul_right hB' ?_⟩
    calc mag r * B * B' = mag r * B' * B := Nat.mul_right_comm _ _ _
      _ = A' * u74 * B := by rw [h2]
      _ = A' * B * u74 := Nat.mul_right_comm _ _ _
      _ = A * B' * u74 := by rw [h]
      _ = _ := Nat.mul_right_comm _ _ _
/-- what a number with a value is rounded to -/
theorem rat_exact (k : Nat) {A B r : Nat} (hB : 0 < B) (hr : r < MR) (h : mag r * B = A * u74) : rat k A B = r ∧ ratC A B = false := by
  refine ⟨?_, (ratC_iff A hB).2 ⟨r, hr, h⟩⟩
  by_cases h0 : A = 0
  · have hm : mag r = 0 := by
      rw [h0, Nat.zero_mul] at h
      rcases Nat.mul_eq_zero.1 h with h | h <;> omega
    unfold rat
    rw [if_pos h0]
    exact (mag_inj (hm.trans mag_zero.symm)).symm
  · have hk : ∀ k n, n ≤ numk k (ratD false A B 0).m (ratD false A B 0).e ↔ PkC k 1 (qle A B) (qlt A B) n := fun k n => by
      have := rat_iff k A hB n
      unfold rat at this
      rwa [if_neg h0] at this
    have e1 : 2 * (mag r * 1) * B = 2 * (A * u74) := by rw [Nat.mul_one, Nat.mul_assoc, h]
    have := num_at (by omega) (cut_q A hB) hk hr (Nat.le_of_eq e1) (fun h2 => absurd h2 (by unfold qlt; omega)) k
    unfold rat
    rw [if_neg h0]
    exact this
/-- an exact number's -/
theorem rat_of_tt {t m A B : Nat} {e : Int} (hB : 0 < B) (ht : 0 ≤ e + 1074 + t) (h : tt t m e * B = A * (u74 * 2 ^ t)) (k : Nat) : numk k m e = rat k A B ∧ chg m e = ratC A B := by
  have hp := Nat.two_pow_pos t
  have h2 : tt t m e * B = A * u74 * 2 ^ t := by rw [h, ← Nat.mul_assoc]
  constructor
  · have hx : ∀ n, n ≤ numk k m e ↔ n ≤ rat k A B := fun n => by
      rw [numk_iff ht k n, ← PkC_tt, rat_iff k A hB n]
      have e3 : 2 * tt t m e * B = 2 * (A * u74) * 2 ^ t := by rw [Nat.mul_assoc, h2, ← Nat.mul_assoc]
      apply PkC_scale
      · intro M
        unfold qle
        constructor
        · intro h4
          have := Nat.mul_le_mul_right B h4
          rw [e3, Nat.mul_right_comm] at this
          exact Nat.le_of_mul_le_mul_right this hp
        · intro h4
          have := Nat.mul_le_mul_right (2 ^ t) h4
          rw [← e3, Nat.mul_right_comm] at this
          exact Nat.le_of_mul_le_mul_right this hB
      · intro M
        unfold qlt
        constructor
        · intro h4
          have := Nat.mul_lt_mul_of_pos_right h4 hB
          rw [e3, Nat.mul_right_comm] at this
          exact Nat.lt_of_mul_lt_mul_right this
        · intro h4
          have := Nat.mul_lt_mul_of_pos_right h4 hp
          rw [← e3, Nat.mul_right_comm] at this
          exact Nat.lt_of_mul_lt_mul_right this
    exact Nat.le_antisymm ((hx _).1 (Nat.le_refl _)) ((hx _).2 (Nat.le_refl _))
  · apply bool_eq
    rw [chg_iff ht, ratC_iff A hB]
    constructor
    · rintro ⟨r, h3, h4⟩
      refine ⟨r, h3, Nat.eq_of_mul_eq_mul_right hp ?_⟩
      rw [← h2, h4, Nat.mul_right_comm]
    · rintro ⟨r, h3, h4⟩
      refine ⟨r, h3, Nat.eq_of_mul_eq_mul_right hB ?_⟩
      rw [h2, ← h4, Nat.mul_right_comm]
/-- what is beyond all numbers, counted in the least ones -/
def u98 : Nat := w24 * u74
theorem mag_MR : mag MR = u98 := by
  obtain ⟨j, hj⟩ : ∃ j : Nat, j = 2046 := ⟨_, rfl⟩
  have h := mag_of 4503599627370496 j (by omega) (by omega)
  have e1 : 4503599627370496 + j * 4503599627370496 = MR := by rw [hj]; rfl
  have e2 : (4503599627370496 : Nat) = 2 ^ 52 := by decide
  have e3 : 52 + j = K24 + K74 := by rw [hj]; rfl
  rw [e1] at h
  rw [h, e2, ← Nat.pow_add, e3, Nat.pow_add, u98, w24, u74]
theorem mag_bd {n : Nat} (h : n ≤ MR) : mag n ≤ u98 := by rw [← mag_MR]; exact mag_mono h
/-- what is beyond all numbers -/
theorem rat_top (k : Nat) {A B : Nat} (hB : 0 < B) (h : B * (2 * w24) ≤ A) : rat k A B = (if k = 0 then MR - 1 else MR) ∧ ratC A B = true := by
  have hlt : ∀ M, M ≤ u98 → qlt A B (2 * M) := fun M hM => by
    unfold qlt
    rw [Nat.mul_assoc]
    apply Nat.mul_lt_mul_of_pos_left _ (by omega)
    have h6 := Nat.mul_pos hB (Nat.mul_pos w24_pos u74_pos)
    calc M * B ≤ u98 * B := Nat.mul_le_mul_right _ hM
      _ = B * (w24 * u74) := by rw [u98, Nat.mul_comm]
      _ < B * (w24 * u74) + B * (w24 * u74) := Nat.lt_add_of_pos_right h6
      _ = B * (2 * w24) * u74 := by rw [← Nat.two_mul, Nat.mul_left_comm, ← Nat.mul_assoc 2, Nat.mul_assoc B]
      _ ≤ _ := Nat.mul_le_mul_right _ h
  have c := cut_q A hB
  have hMR : MR = 9218868437227405312 := rfl
  have b1 := mag_bd (Nat.sub_le MR 1)
  have b2 := mag_bd (Nat.le_refl MR)
  have b3 : mag (MR - 1) ≤ mag MR := mag_mono (Nat.sub_le _ _)
  have hs : qlt A B ((mag (MR - 1) + mag MR) * 1) := c.ltdown (N := 2 * mag MR) (by clear h b1 b2 hlt; omega) (hlt _ b2)
  constructor
  · have hl := rat_le_MR k A hB
    apply Nat.le_antisymm
    · split
      · rename_i h0
        subst h0
        exact ((rat_iff 0 A hB _).1 (Nat.le_refl _)).1
      · exact hl
    · by_cases hk : k = 0
      · rw [if_pos hk, rat_iff k A hB, hk]
        refine ⟨Nat.le_refl _, c.weak _ ?_⟩
        rw [Nat.mul_one]
        exact hlt _ b1
      · rw [if_neg hk, rat_iff k A hB]
        rcases k with _ | _ | _ | k
        · exact absurd rfl hk
        · refine ⟨Nat.le_refl _, Or.inr ?_⟩
          rw [Nat.mul_one]
          exact hlt _ b1
        · exact ⟨Nat.le_refl _, Or.inr (Or.inl hs)⟩
        · exact ⟨Nat.le_refl _, Or.inr (c.weak _ hs)⟩
  · rw [← Bool.not_eq_false, ratC_iff A hB]
    rintro ⟨r, h1, h2⟩
    have := hlt _ (mag_bd (Nat.le_of_lt h1))
    unfold qlt at this
    rw [Nat.mul_assoc] at this
    omega
/-- what is less than half the least number -/
theorem rat_tiny (k : Nat) {A B : Nat} (hA : 0 < A) (h : A * (4 * u74) ≤ B) : rat k A B = (if k = 1 then 1 else 0) ∧ ratC A B = true := by
  have hB : 0 < B := Nat.lt_of_lt_of_le (Nat.mul_pos hA (Nat.mul_pos (by omega) u74_pos)) h
  have hx : 2 * (A * u74) < B := by
    have e : A * (4 * u74) = 4 * (A * u74) := Nat.mul_left_comm _ _ _
    have h7 := Nat.mul_pos hA u74_pos
    rw [e] at h
    omega
  have hn : ∀ M, 0 < M → ¬ qle A B M := fun M hM h2 => by
    unfold qle at h2
    have := Nat.le_trans (Nat.le_mul_of_pos_left B hM) h2
    omega
  have c := cut_q A hB
  have hMR : MR = 9218868437227405312 := rfl
  have hm : ∀ j, 0 < j → 0 < mag j := fun j hj => by have := mag_lt hj; rw [mag_zero] at this; exact this
  constructor
  · have hup : ∀ n, (if k = 1 then 1 else 0) < n → ¬ n ≤ rat k A B := fun n hj h2 => by
      rw [rat_iff k A hB] at h2
      rcases k with _ | _ | _ | k
      · exact hn _ (by have := hm n (by omega); omega) h2.2
      · rcases h2.2 with h3 | h3
        · omega
        · simp at hj
          exact hn _ (by have := hm (n - 1) (by omega); omega) (c.weak _ h3)
      · have hj2 : 0 < n := by simp at hj; omega
        rcases h2.2 with h3 | h3 | h3
        · omega
        · exact hn _ (by have := hm n hj2; omega) (c.weak _ h3)
        · exact hn _ (by have := hm n hj2; omega) h3.1
      · have hj2 : 0 < n := by simp at hj; omega
        rcases h2.2 with h3 | h3
        · omega
        · exact hn _ (by have := hm n hj2; omega) h3
    apply Nat.le_antisymm
    · exact Nat.le_of_not_lt fun h2 => hup _ h2 (Nat.le_refl _)
    · split
      · rename_i hk
        subst hk
        rw [rat_iff 1 A hB]
        refine ⟨by omega, Or.inr ?_⟩
        show qlt A B (2 * (mag 0 * 1))
        rw [mag_zero]
        unfold qlt
        have := Nat.mul_pos hA u74_pos
        omega
      · omega
  · rw [← Bool.not_eq_false, ratC_iff A hB]
    rintro ⟨r, h1, h2⟩
    have h3 := Nat.mul_pos hA u74_pos
    rcases Nat.eq_zero_or_pos (mag r) with h4 | h4
    · rw [h4] at h2; omega
    · have := Nat.le_mul_of_pos_left B h4
      omega
/-- a quotient's -/
theorem rat_of_ratio {c d A B : Nat} {E : Int} (hc : c ≠ 0) (hd : d ≠ 0) (hB : 0 < B) (hs : ∀ s : Nat, 0 ≤ E + s → c * 2 ^ (E + s).toNat * B = A * d * 2 ^ s) (neg : Bool) (k : Nat) :
    numk k (ratD neg c d E).m (ratD neg c d E).e = rat k A B ∧ chg (ratD neg c d E).m (ratD neg c d E).e = ratC A B := by
  obtain ⟨t, ht⟩ : ∃ t : Nat, 0 ≤ E - qk c d - 2 + 1074 + t := ⟨(qk c d + 2 - E).toNat, by omega⟩
  have hp := Nat.two_pow_pos t
  have hd0 : 0 < d := by omega
  have h2 : c * 2 ^ (E + 1074 + t).toNat * B = A * u74 * (2 ^ t * d) := by
    have := hs (1074 + t) (by omega)
    rw [show E + ((1074 + t : Nat) : Int) = E + 1074 + t by omega, pow74] at this
    rw [this]
    simp only [Nat.mul_assoc, Nat.mul_comm, Nat.mul_left_comm]
  have h3 : ∀ M, M * 2 ^ t * d * B = M * B * (2 ^ t * d) := fun M => by simp only [Nat.mul_assoc, Nat.mul_comm, Nat.mul_left_comm]
  have h4 : 2 * (c * 2 ^ (E + 1074 + t).toNat) * B = 2 * (A * u74) * (2 ^ t * d) := by rw [Nat.mul_assoc, h2, ← Nat.mul_assoc]
  have hq : 0 < 2 ^ t * d := Nat.mul_pos hp hd0
  constructor
  · have hx : ∀ n, n ≤ numk k (ratD neg c d E).m (ratD neg c d E).e ↔ n ≤ rat k A B := fun n => by
      rw [(ratio_num hc hd ht neg k n).1, rat_iff k A hB n]
      apply PkC_scale
      · intro M
        unfold qle
        constructor
        · intro h5
          have := Nat.mul_le_mul_right B h5
          rw [h3, h4] at this
          exact Nat.le_of_mul_le_mul_right this hq
        · intro h5
          have := Nat.mul_le_mul_right (2 ^ t * d) h5
          rw [← h3, ← h4] at this
          exact Nat.le_of_mul_le_mul_right this hB
      · intro M
        unfold qlt
        constructor
        · intro h5
          have := Nat.mul_lt_mul_of_pos_right h5 hB
          rw [h3, h4] at this
          exact Nat.lt_of_mul_lt_mul_right this
        · intro h5
          have := Nat.mul_lt_mul_of_pos_right h5 hq
          rw [← h3, ← h4] at this
          exact Nat.lt_of_mul_lt_mul_right this
    exact Nat.le_antisymm ((hx _).1 (Nat.le_refl _)) ((hx _).2 (Nat.le_refl _))
  · apply bool_eq
    rw [(ratio_num hc hd ht neg 0 0).2, ratC_iff A hB]
    constructor
    · rintro ⟨r, h5, h6⟩
      refine ⟨r, h5, Nat.eq_of_mul_eq_mul_right hq ?_⟩
      rw [← h2, ← h6, h3]
    · rintro ⟨r, h5, h6⟩
      refine ⟨r, h5, Nat.eq_of_mul_eq_mul_right hB ?_⟩
      rw [h2, ← h6, h3]
end Go.Proofs.YtofdjfdnckmmmaaGreatDoor.Fm

/-
  PLAIN: digits times a power of ten, made ready to be rounded (read.value).
-/
namespace Go.Proofs.YtofdjfdnckmmmaaGreatDoor
open Fm

/-- what read.value tells of L digits that count N, times 10^K -/
def rvD (neg : Bool) (L N : Nat) (K : Int) : D :=
  if 400 < (L : Int) + K then ⟨neg, 1, 2000⟩ else if (L : Int) + K < -400 then ⟨neg, 1, -2000⟩
  else if 0 ≤ K then norm neg (N * 10 ^ K.toNat) 0
  else ratD ((norm neg (N * 10 ^ K.toNat) 0).neg != (norm false (10 ^ (-K).toNat) 0).neg) (norm neg (N * 10 ^ K.toNat) 0).m (norm false (10 ^ (-K).toNat) 0).m ((norm neg (N * 10 ^ K.toNat) 0).e - (norm false (10 ^ (-K).toNat) 0).e)
/-- the number as a quotient -/
def rdA (N : Nat) (K : Int) : Nat := N * 10 ^ K.toNat
def rdB (K : Int) : Nat := 10 ^ (-K).toNat
theorem rdB_pos (K : Int) : 0 < rdB K := Nat.pow_pos (by omega)
theorem norm_shape {neg : Bool} {a : Nat} (h : a ≠ 0) : ∃ c k : Nat, norm neg a 0 = ⟨neg, c, (k : Int)⟩ ∧ a = c * 2 ^ k ∧ c ≠ 0 := by
  obtain ⟨q, h1, h2⟩ := ctz_spec h
  refine ⟨a / 2 ^ ctz a, ctz a, ?_, ?_, ?_⟩
  · unfold norm; rw [if_neg h, Int.zero_add]
  · have : a / 2 ^ ctz a = q := by
      conv => lhs; lhs; rw [h1]
      exact Nat.mul_div_cancel _ (Nat.two_pow_pos _)
    rw [this]; exact h1
  · have : a / 2 ^ ctz a = q := by
      conv => lhs; lhs; rw [h1]
      exact Nat.mul_div_cancel _ (Nat.two_pow_pos _)
    rw [this]; omega
theorem eight_ten (a b : Nat) (h : b ≤ 3 * a) : 2 ^ b ≤ 10 ^ a :=
  Nat.le_trans (Nat.pow_le_pow_right (by omega) h) (by rw [Nat.pow_mul]; exact Nat.pow_le_pow_left (by omega) a)
theorem w24_two {z : Nat} (h : 2000 ≤ z) : 2 * w24 ≤ 2 ^ z := by
  rw [w24, ← Nat.pow_succ']
  exact Nat.pow_le_pow_right (by omega) (by unfold K24; omega)
theorem u74_two {z : Nat} (h : 2000 ≤ z) : 4 * u74 ≤ 2 ^ z := by
  rw [u74, show 4 = 2 ^ 2 by decide, ← Nat.pow_add]
  exact Nat.pow_le_pow_right (by omega) (by unfold K74; omega)
theorem w24_ten {a : Nat} (h : 400 ≤ a) : 2 * w24 ≤ 10 ^ a := by
  rw [w24, ← Nat.pow_succ']
  exact eight_ten _ _ (by unfold K24; omega)
theorem u74_ten {a : Nat} (h : 401 ≤ a) : 4 * u74 ≤ 10 ^ a := by
  rw [u74, show 4 = 2 ^ 2 by decide, ← Nat.pow_add]
  exact eight_ten _ _ (by unfold K74; omega)
theorem rv_rat (neg : Bool) {L N : Nat} (K : Int) (h1 : 10 ^ (L - 1) ≤ N) (h2 : N < 10 ^ L) (k : Nat) :
    numk k (rvD neg L N K).m (rvD neg L N K).e = rat k (rdA N K) (rdB K) ∧ chg (rvD neg L N K).m (rvD neg L N K).e = ratC (rdA N K) (rdB K) ∧ (rvD neg L N K).neg = neg := by
  have hN : 0 < N := Nat.lt_of_lt_of_le (Nat.pow_pos (by omega)) h1
  have hL : 0 < L := by
    rcases Nat.eq_zero_or_pos L with h | h
    · rw [h] at h2; simp at h2; omega
    · exact h
  have hBp := rdB_pos K
  have h10 : ∀ n : Nat, 0 < 10 ^ n := fun n => Nat.pow_pos (by omega)
  unfold rvD
  obtain ⟨z, hz⟩ : ∃ z : Nat, z = 2000 := ⟨_, rfl⟩
  split
  · rename_i hb
    have e1 := rat_of_tt (t := 0) (m := 1) (A := 2 ^ z) (B := 1) (e := 2000) (by omega) (by omega) (by
      unfold tt
      rw [Nat.mul_one, Nat.one_mul, Nat.pow_zero, Nat.mul_one, u74, ← Nat.pow_add]
      congr 1
      unfold K74
      omega) k
    have e2 := rat_top k (A := 2 ^ z) (B := 1) (by omega) (by rw [Nat.one_mul]; exact w24_two (by omega))
    have e3 := rat_top k (A := rdA N K) (B := rdB K) hBp (by
      unfold rdA rdB
      calc 10 ^ (-K).toNat * (2 * w24) ≤ 10 ^ (-K).toNat * 10 ^ (L - 1 + K.toNat - (-K).toNat) := Nat.mul_le_mul_left _ (w24_ten (by omega))
        _ = 10 ^ (L - 1 + K.toNat) := by rw [← Nat.pow_add]; congr 1; omega
        _ = 10 ^ (L - 1) * 10 ^ K.toNat := Nat.pow_add _ _ _
        _ ≤ _ := Nat.mul_le_mul_right _ h1)
    exact ⟨by rw [e1.1, e2.1, e3.1], by rw [e1.2, e2.2, e3.2], rfl⟩
  · split
    · rename_i ha hb
      obtain ⟨tn, htn⟩ : ∃ tn : Nat, tn = 926 := ⟨_, rfl⟩
      have e1 := rat_of_tt (t := tn) (m := 1) (A := 1) (B := 2 ^ z) (e := -2000) (Nat.two_pow_pos _) (by omega) (by
        unfold tt
        rw [Nat.one_mul, Nat.one_mul, u74, ← Nat.pow_add, ← Nat.pow_add]
        congr 1
        unfold K74
        omega) k
      have e2 := rat_tiny k (A := 1) (B := 2 ^ z) (by omega) (by rw [Nat.one_mul]; exact u74_two (by omega))
      have e3 := rat_tiny k (A := rdA N K) (B := rdB K) (Nat.mul_pos hN (h10 _)) (by
        unfold rdA rdB
        rw [show K.toNat = 0 by omega, Nat.pow_zero, Nat.mul_one]
        calc N * (4 * u74) ≤ 10 ^ L * 10 ^ ((-K).toNat - L) := Nat.mul_le_mul (Nat.le_of_lt h2) (u74_ten (by omega))
          _ = _ := by rw [← Nat.pow_add]; congr 1; omega)
      exact ⟨by rw [e1.1, e2.1, e3.1], by rw [e1.2, e2.2, e3.2], rfl⟩
    · split
      · rename_i hK
        obtain ⟨c, z, e1, e2, e3⟩ := norm_shape (neg := neg) (a := N * 10 ^ K.toNat) (by have := Nat.mul_pos hN (h10 K.toNat); omega)
        rw [e1]
        have e4 := rat_of_tt (t := 0) (m := c) (A := rdA N K) (B := rdB K) (e := (z : Int)) hBp (by omega) (by
          unfold tt rdA rdB
          rw [show (-K).toNat = 0 by omega, e2, Nat.pow_zero, Nat.mul_one, Nat.mul_one, Nat.mul_assoc, u74, ← Nat.pow_add]
          congr 2) k
        exact ⟨e4.1, e4.2, rfl⟩
      · rename_i hK
        obtain ⟨c, z, e1, e2, e3⟩ := norm_shape (neg := neg) (a := N * 10 ^ K.toNat) (by have := Nat.mul_pos hN (h10 K.toNat); omega)
        obtain ⟨d, y, f1, f2, f3⟩ := norm_shape (neg := false) (a := 10 ^ (-K).toNat) (by have := h10 (-K).toNat; omega)
        rw [e1, f1]
        have e4 := rat_of_ratio (c := c) (d := d) (A := rdA N K) (B := rdB K) (E := (z : Int) - (y : Int)) e3 f3 hBp (by
          intro s hs
          unfold rdA rdB
          rw [e2, f2]
          have : 2 ^ ((z : Int) - (y : Int) + (s : Int)).toNat * 2 ^ y = 2 ^ z * 2 ^ s := by
            rw [← Nat.pow_add, ← Nat.pow_add]; congr 1; omega
          calc c * 2 ^ ((z : Int) - (y : Int) + (s : Int)).toNat * (d * 2 ^ y) = c * d * (2 ^ ((z : Int) - (y : Int) + (s : Int)).toNat * 2 ^ y) := by simp only [Nat.mul_assoc, Nat.mul_comm, Nat.mul_left_comm]
            _ = c * d * (2 ^ z * 2 ^ s) := by rw [this]
            _ = _ := by simp only [Nat.mul_assoc, Nat.mul_comm, Nat.mul_left_comm]) (neg != false) k
        exact ⟨e4.1, e4.2, by unfold ratD; cases neg <;> rfl⟩
end Go.Proofs.YtofdjfdnckmmmaaGreatDoor

/-
  PLAIN: what read.Number tells of a text; the pieces of texts that are made.
-/
namespace Go.Proofs.YtofdjfdnckmmmaaGreatDoor
open Fm Fl

def rWhole (s : List UInt8) : List UInt8 := (Lib.trimPrefix s [45]).takeWhile (decCs.contains ·)
def rT2 (s : List UInt8) : List UInt8 := (Lib.trimPrefix s [45]).dropWhile (decCs.contains ·)
def rPt (s : List UInt8) : Bool := Lib.hasPrefix (rT2 s) [46]
def rPart (s : List UInt8) : List UInt8 := if rPt s = true then (Lib.trimPrefix (rT2 s) [46]).takeWhile (decCs.contains ·) else []
def rRest (s : List UInt8) : List UInt8 := if rPt s = true then (Lib.trimPrefix (rT2 s) [46]).dropWhile (decCs.contains ·) else rT2 s
def rDig (s : List UInt8) : List UInt8 := (rWhole s ++ rPart s).dropWhile ([48].contains ·)
def rNeg (s : List UInt8) : Bool := Lib.hasPrefix s [45]
def rErr (s : List UInt8) : Int := rpE s (rWhole s) (rPart s) (rRest s)
def rExp (s : List UInt8) : Int := rpK (rPart s) (rRest s) (rDig s)
def rdN (s : List UInt8) : Nat := dcN 0 (rDig s)
theorem rpc_self (s : List UInt8) : Rpc s (Lib.trimPrefix s [45]) (rWhole s) (rT2 s) (Lib.trimPrefix (rT2 s) [46]) (rPart s) (rRest s) (rDig s) (rNeg s) (rPt s) := ⟨rfl, rfl, rfl, rfl, rfl, rfl, rfl, rfl, rfl⟩
theorem rpc_eq {s t whole t2 r part rest d : List UInt8} {neg pt : Bool} (H : Rpc s t whole t2 r part rest d neg pt) : rWhole s = whole ∧ rPart s = part ∧ rRest s = rest ∧ rDig s = d ∧ rNeg s = neg := by
  obtain ⟨rfl, rfl, rfl, rfl, rfl, rfl, rfl, rfl, rfl⟩ := H
  exact ⟨rfl, rfl, rfl, rfl, rfl⟩
def sInf : List UInt8 := [105, 110, 102]
def sNinf : List UInt8 := [45, 105, 110, 102]
def sNan : List UInt8 := [110, 97, 110]
def readE (s : List UInt8) (mode : Int) : Int := if knownB mode = true then (if s = sInf ∨ s = sNinf ∨ s = sNan then 0 else rErr s) else 1
def readV (s : List UInt8) (mode : Int) : Int :=
  if knownB mode = true then
    (if s = sInf then 9218868437227405312 else if s = sNinf then 18442240474082181120 else if s = sNan then 9221120237041090560
     else if rErr s = 0 then (rat (kd (rNeg s) mode) (rdA (rdN s) (rExp s)) (rdB (rExp s)) : Int) + (if rNeg s = true then 9223372036854775808 else 0) else 0)
  else 0
def readC (s : List UInt8) (mode : Int) : Bool :=
  if knownB mode = true then
    (if s = sInf ∨ s = sNinf ∨ s = sNan then false
     else if rErr s = 0 then ratC (rdA (rdN s) (rExp s)) (rdB (rExp s)) else false)
  else false
theorem rdig_spec (s : List UInt8) : (∀ c ∈ rDig s, dgt c) ∧ (rDig s).length ≤ s.length ∧ (rDig s = [] ∨ ∃ c l, rDig s = c :: l ∧ c ≠ 48) := by
  have H := rpc_self s
  obtain ⟨lw, l1, l2, lr, lp, le, ls, hdg⟩ := rpc_len H
  refine ⟨fun c hc => decCs_dgt (hdg c ?_), ?_, ?_⟩
  · exact (List.dropWhile_sublist _).mem hc
  · have := dropW_len (p := ([48].contains ·)) (rWhole s ++ rPart s)
    rw [List.length_append] at this
    unfold rDig
    omega
  · unfold rDig
    generalize rWhole s ++ rPart s = l
    induction l with
    | nil => exact Or.inl rfl
    | cons c l ih =>
      by_cases hc : c = 48
      · rw [List.dropWhile_cons_of_pos (by simp [hc])]
        exact ih
      · rw [List.dropWhile_cons_of_neg (by simp [hc])]
        exact Or.inr ⟨c, l, rfl, hc⟩
/-- the pieces of a text that is made of digits, perhaps a point and digits, and a tail -/
theorem rpc_mk (neg : Bool) (W P E : List UInt8) (pt : Bool) (hW0 : W ≠ []) (hW : ∀ c ∈ W, decCs.contains c = true) (hP : ∀ c ∈ P, decCs.contains c = true) (hpt : pt = false → P = []) (hE : E = [] ∨ ∃ c l, E = c :: l ∧ decCs.contains c = false ∧ c ≠ 46) :
    ∃ t t2 r, Rpc ((if neg = true then [45] else []) ++ (W ++ ((if pt = true then 46 :: P else []) ++ E))) t W t2 r P E ((W ++ P).dropWhile ([48].contains ·)) neg pt := by
  have t1 : Lib.trimPrefix ((if neg = true then [45] else []) ++ (W ++ ((if pt = true then 46 :: P else []) ++ E))) [45] = W ++ ((if pt = true then 46 :: P else []) ++ E) ∧ Lib.hasPrefix ((if neg = true then [45] else []) ++ (W ++ ((if pt = true then 46 :: P else []) ++ E))) [45] = neg := by
    cases neg with
    | true => exact trim_hit [45] _
    | false =>
      cases W with
      | nil => exact absurd rfl hW0
      | cons c W =>
        have hc := hW c (List.mem_cons_self ..)
        exact trim_miss 45 c [] _ (by rw [beq_eq_false_iff_ne]; intro h; subst h; revert hc; decide)
  have tkE : E.takeWhile (decCs.contains ·) = [] ∧ E.dropWhile (decCs.contains ·) = E := by
    rcases hE with rfl | ⟨c, l, rfl, h1, h2⟩
    · exact ⟨rfl, rfl⟩
    · exact ⟨List.takeWhile_cons_of_neg (by simp only [h1]; decide), List.dropWhile_cons_of_neg (by simp only [h1]; decide)⟩
  have app : ∀ (A B : List UInt8), (∀ c ∈ A, decCs.contains c = true) → B.takeWhile (decCs.contains ·) = [] → B.dropWhile (decCs.contains ·) = B → (A ++ B).takeWhile (decCs.contains ·) = A ∧ (A ++ B).dropWhile (decCs.contains ·) = B := fun A B hA h1 h2 => by
    induction A with
    | nil => exact ⟨h1, h2⟩
    | cons c A ih =>
      have ih := ih (fun d hd => hA d (List.mem_cons_of_mem _ hd))
      have hc := hA c (List.mem_cons_self ..)
      rw [List.cons_append, List.takeWhile_cons_of_pos (by exact hc), List.dropWhile_cons_of_pos (by exact hc), ih.1, ih.2]
      exact ⟨rfl, rfl⟩
  have h46 : decCs.contains 46 = false := by decide
  have tk2 : ((if pt = true then 46 :: P else []) ++ E).takeWhile (decCs.contains ·) = [] ∧ ((if pt = true then 46 :: P else []) ++ E).dropWhile (decCs.contains ·) = (if pt = true then 46 :: P else []) ++ E := by
    cases pt with
    | true => exact ⟨List.takeWhile_cons_of_neg (by simp only [h46]; decide), List.dropWhile_cons_of_neg (by simp only [h46]; decide)⟩
    | false => exact tkE
  have w := app W _ hW tk2.1 tk2.2
  have pe := app P E hP tkE.1 tkE.2
  refine ⟨_, _, _, t1.1.symm, t1.2.symm, w.1.symm, w.2.symm, rfl, ?_, ?_, ?_, rfl⟩
  · cases pt with
    | true => exact (trim_hit [46] (P ++ E)).2.symm
    | false =>
      show false = Lib.hasPrefix ([] ++ E) [46]
      rcases hE with rfl | ⟨c, l, rfl, h1, h2⟩
      · rfl
      · exact (trim_miss 46 c [] l (by rw [beq_eq_false_iff_ne]; exact Ne.symm h2)).2.symm
  · cases pt with
    | true =>
      show P = (Lib.trimPrefix ([46] ++ (P ++ E)) [46]).takeWhile _
      rw [(trim_hit [46] (P ++ E)).1]; exact pe.1.symm
    | false => exact hpt rfl
  · cases pt with
    | true =>
      show E = (Lib.trimPrefix ([46] ++ (P ++ E)) [46]).dropWhile _
      rw [(trim_hit [46] (P ++ E)).1]; exact pe.2.symm
    | false => rfl
/-- digits count the same without noughts ahead -/
theorem dcN_drop (l : List UInt8) : dcN 0 (l.dropWhile ([48].contains ·)) = dcN 0 l := by
  induction l with
  | nil => rfl
  | cons c l ih =>
    by_cases hc : c = 48
    · rw [List.dropWhile_cons_of_pos (by simp [hc]), ih, hc]
      rfl
    · rw [List.dropWhile_cons_of_neg (by simp [hc])]
/-- what counts 0 has no digit but noughts -/
theorem dcN_zero {l : List UInt8} (h : ∀ c ∈ l, dgt c) (h0 : dcN 0 (l.dropWhile ([48].contains ·)) = 0) : l.dropWhile ([48].contains ·) = [] := by
  induction l with
  | nil => rfl
  | cons c l ih =>
    by_cases hc : c = 48
    · rw [List.dropWhile_cons_of_pos (by simp [hc])] at h0 ⊢
      exact ih (fun d hd => h d (List.mem_cons_of_mem _ hd)) h0
    · rw [List.dropWhile_cons_of_neg (by simp [hc])] at h0
      exfalso
      have h1 := h c (List.mem_cons_self ..)
      unfold dgt at h1
      have e1 : dcN 0 (c :: l) = dcN (0 * 10 + (c.toNat - 48)) l := rfl
      rw [e1, dcN_two] at h0
      have h2 : c.toNat ≠ 48 := fun h => hc (UInt8.toNat_inj.1 (by rw [h]; rfl))
      have h3 := Nat.mul_pos (show 0 < 0 * 10 + (c.toNat - 48) by omega) (Nat.pow_pos (n := l.length) (show 0 < 10 by omega))
      omega
end Go.Proofs.YtofdjfdnckmmmaaGreatDoor

/-
  PLAIN: a text that is made of a sign, digits, perhaps a point, and perhaps a power of ten, is read as what it counts.
-/
namespace Go.Proofs.YtofdjfdnckmmmaaGreatDoor
open Fm Fl

def mkS (neg : Bool) (W P E : List UInt8) (p : Bool) : List UInt8 := (if neg = true then [45] else []) ++ (W ++ ((if p = true then 46 :: P else []) ++ E))
theorem mkS_no (neg : Bool) (W P E : List UInt8) (p : Bool) (hW0 : W ≠ []) (hW : ∀ c ∈ W, decCs.contains c = true) : ¬ (mkS neg W P E p = sInf ∨ mkS neg W P E p = sNinf ∨ mkS neg W P E p = sNan) := by
  cases W with
  | nil => exact absurd rfl hW0
  | cons c W =>
    have hc := hW c (List.mem_cons_self ..)
    unfold mkS sInf sNinf sNan
    cases neg with
    | true =>
      simp only [if_true, List.cons_append, List.nil_append, List.cons.injEq]
      rintro (⟨h, -⟩ | ⟨-, h, -⟩ | ⟨h, -⟩)
      · revert h; decide
      · subst h; revert hc; decide
      · revert h; decide
    | false =>
      simp only [Bool.false_eq_true, if_false, List.cons_append, List.nil_append, List.cons.injEq]
      rintro (⟨h, -⟩ | ⟨h, -⟩ | ⟨h, -⟩) <;> (subst h; revert hc; decide)
/-- what a tail tells: nothing, or a power of ten -/
def Tail (E : List UInt8) (q : Int) : Prop := (E = [] ∨ ∃ c l, E = c :: l ∧ decCs.contains c = false ∧ c ≠ 46) ∧ pwOK E = true ∧ pwK E = q
theorem tail_nil : Tail [] 0 := ⟨Or.inl rfl, rfl, rfl⟩
theorem rat_zero (k B : Nat) : rat k 0 B = 0 ∧ ratC 0 B = false := by unfold rat ratC; rw [if_pos rfl, if_pos rfl]; exact ⟨rfl, rfl⟩
theorem made_num (neg : Bool) (W P E : List UInt8) (p : Bool) (hW0 : W ≠ []) (hW : ∀ c ∈ W, dgt c) (hP : ∀ c ∈ P, dgt c) (hp : p = false → P = []) {q : Int} (hE : Tail E q) (hl : (mkS neg W P E p).length ≤ 1000) (mode : Int) (hk : knownB mode = true) :
    readE (mkS neg W P E p) mode = 0 ∧
    readV (mkS neg W P E p) mode = (rat (kd neg mode) (rdA (dcN 0 (W ++ P)) (q - P.length)) (rdB (q - P.length)) : Int) + (if neg = true then 9223372036854775808 else 0) ∧
    readC (mkS neg W P E p) mode = ratC (rdA (dcN 0 (W ++ P)) (q - P.length)) (rdB (q - P.length)) := by
  have hW' : ∀ c ∈ W, decCs.contains c = true := fun c hc => dec_has (hW c hc)
  have hP' : ∀ c ∈ P, decCs.contains c = true := fun c hc => dec_has (hP c hc)
  obtain ⟨t, t2, r, H⟩ := rpc_mk neg W P E p hW0 hW' hP' hp hE.1
  obtain ⟨e1, e2, e3, e4, e5⟩ := rpc_eq H
  have hno := mkS_no neg W P E p hW0 hW'
  have hne : (W ++ P).isEmpty = false := by cases W with | nil => exact absurd rfl hW0 | cons c W => rfl
  have hr : rErr (mkS neg W P E p) = 0 := by
    unfold rErr mkS
    rw [e1, e2, e3]
    unfold rpE
    rw [if_neg (by unfold mkS at hl; omega), if_pos ⟨hE.2.1, hne⟩]
  have hN : rdN (mkS neg W P E p) = dcN 0 (W ++ P) := by unfold rdN mkS; rw [e4, dcN_drop]
  have hn : rNeg (mkS neg W P E p) = neg := e5
  have hX : rdA (rdN (mkS neg W P E p)) (rExp (mkS neg W P E p)) = rdA (dcN 0 (W ++ P)) (q - P.length) ∧ (dcN 0 (W ++ P) ≠ 0 → rExp (mkS neg W P E p) = q - P.length) := by
    rw [hN]
    have hx : rExp (mkS neg W P E p) = if (rDig (mkS neg W P E p)).isEmpty = true then 0 else q - P.length := by
      unfold rExp rpK mkS
      rw [e2, e3, hE.2.2]
    by_cases hz : dcN 0 (W ++ P) = 0
    · rw [hz]; unfold rdA; rw [Nat.zero_mul, Nat.zero_mul]; exact ⟨rfl, fun h => absurd rfl h⟩
    · have hd : (rDig (mkS neg W P E p)).isEmpty = false := by
        cases hh : (rDig (mkS neg W P E p)).isEmpty
        · rfl
        · exfalso
          apply hz
          rw [← hN]
          unfold rdN
          rw [List.isEmpty_iff.1 hh]; rfl
      rw [hd] at hx
      rw [hx]
      exact ⟨rfl, fun _ => rfl⟩
  refine ⟨by unfold readE; rw [if_pos hk, if_neg hno]; exact hr, ?_, ?_⟩
  · unfold readV
    rw [if_pos hk, if_neg (fun e => hno (Or.inl e)), if_neg (fun e => hno (Or.inr (Or.inl e))), if_neg (fun e => hno (Or.inr (Or.inr e))), if_pos hr, hn, hX.1]
    by_cases hz : dcN 0 (W ++ P) = 0
    · have : rdA (dcN 0 (W ++ P)) (q - P.length) = 0 := by unfold rdA; rw [hz, Nat.zero_mul]
      rw [this, (rat_zero _ _).1, (rat_zero _ _).1]
    · rw [hX.2 hz]
  · unfold readC
    rw [if_pos hk, if_neg hno, if_pos hr, hX.1]
    by_cases hz : dcN 0 (W ++ P) = 0
    · have : rdA (dcN 0 (W ++ P)) (q - P.length) = 0 := by unfold rdA; rw [hz, Nat.zero_mul]
      rw [this, (rat_zero 0 _).2, (rat_zero 0 _).2]
    · rw [hX.2 hz]
/-- digits with a point put in -/
theorem pt_parts (q p : Nat) : ∃ W P, W ≠ [] ∧ (∀ c ∈ W, dgt c) ∧ (∀ c ∈ P, dgt c) ∧ P.length = p ∧ dcN 0 (W ++ P) = q ∧ ∀ E neg, (if neg = true then [45] else []) ++ (pt (Lib.decDigits q) p ++ E) = mkS neg W P E (decide (p ≠ 0)) := by
  by_cases hp : p = 0
  · subst hp
    have h0 : Lib.decDigits q ≠ [] := fun h => by have := dec_len_pos q; rw [h] at this; simp at this
    refine ⟨Lib.decDigits q, [], h0, dec_dgt q, fun c hc => by simp at hc, rfl, by rw [List.append_nil]; exact dcN_dec q, fun E neg => ?_⟩
    unfold mkS pt
    rw [if_pos rfl]
    simp
  · have hl := padK_len (p + 1) q
    have hd := padK_dgt (p + 1) q
    obtain ⟨n, hn⟩ : ∃ n, n = (padK (p + 1) q).length - p := ⟨_, rfl⟩
    refine ⟨(padK (p + 1) q).take n, (padK (p + 1) q).drop n, ?_, fun c hc => hd c (List.mem_of_mem_take hc), fun c hc => hd c (List.mem_of_mem_drop hc), ?_, ?_, fun E neg => ?_⟩
    · intro h
      have h2 : ((padK (p + 1) q).take n).length = 0 := by rw [h]; rfl
      rw [List.length_take] at h2
      omega
    · rw [List.length_drop]; omega
    · rw [List.take_append_drop, dcN_num _ _ hd, num_pad]
    · unfold mkS
      rw [pt_pad, if_neg hp, ← hn, show decide (p ≠ 0) = true by simp [hp], if_pos rfl]
      simp
theorem sgS_if (x : Int) : sgS x = if decide (9223372036854775808 ≤ x) = true then [45] else [] := by
  unfold sgS; by_cases h : 9223372036854775808 ≤ x <;> simp [h]
/-- a number told exactly -/
theorem exact_rat {x : Int} (x0 : 0 ≤ x) (x1 : x ≤ 18446744073709551615) (hv : hasV x = true) (k : Nat) :
    rat k (rdA (qA (valD x)) (-(pl (valD x) : Int))) (rdB (-(pl (valD x) : Int))) = (fabs x).toNat ∧ ratC (rdA (qA (valD x)) (-(pl (valD x) : Int))) (rdB (-(pl (valD x) : Int))) = false := by
  have hMR : MR = 9218868437227405312 := rfl
  have hlt : (fabs x).toNat < MR := by
    unfold hasV at hv; rw [decide_eq_true_eq] at hv
    have : 0 ≤ fabs x := by unfold fabs; omega
    omega
  refine rat_exact k (Nat.pow_pos (by omega)) hlt ?_
  rw [dVal_mag x0 x1 hv]
  unfold rdA rdB qA pl
  obtain ⟨f1, f2, f3, f4, f5⟩ := valD_facts x x0 x1
  rw [show (-((-(valD x).e).toNat : Int)).toNat = 0 by omega, Nat.pow_zero, Nat.mul_one, show (- -((-(valD x).e).toNat : Int)).toNat = (-(valD x).e).toNat by omega, ten_two, u74]
  have hK : K74 = 1074 := rfl
  generalize (valD x).m = m at *
  generalize (valD x).e = e at *
  generalize K74 = K at *
  have : 2 ^ (e + ((1074 : Nat) : Int)).toNat * 2 ^ (-e).toNat = 2 ^ e.toNat * 2 ^ K := by
    rw [← Nat.pow_add, ← Nat.pow_add]; congr 1; omega
  calc m * 2 ^ (e + ((1074 : Nat) : Int)).toNat * (5 ^ (-e).toNat * 2 ^ (-e).toNat) = m * 5 ^ (-e).toNat * (2 ^ (e + ((1074 : Nat) : Int)).toNat * 2 ^ (-e).toNat) := by ac_rfl
    _ = m * 5 ^ (-e).toNat * (2 ^ e.toNat * 2 ^ K) := by rw [this]
    _ = _ := by ac_rfl
theorem fabs_sign {x : Int} (x0 : 0 ≤ x) (x1 : x ≤ 18446744073709551615) : (((fabs x).toNat : Nat) : Int) + (if decide (9223372036854775808 ≤ x) = true then 9223372036854775808 else 0) = x := by
  unfold fabs; by_cases h : 9223372036854775808 ≤ x
  · simp [h]; omega
  · simp [h]; omega
theorem exS_read {x : Int} (x0 : 0 ≤ x) (x1 : x ≤ 18446744073709551615) (hv : hasV x = true) (hl : (exS x).length ≤ 1000) (mode : Int) (hk : knownB mode = true) :
    readE (exS x) mode = 0 ∧ readV (exS x) mode = x ∧ readC (exS x) mode = false := by
  obtain ⟨W, P, h0, hW, hP, hPl, hN, hs⟩ := pt_parts (qA (valD x)) (pl (valD x))
  have e := hs [] (decide (9223372036854775808 ≤ x))
  rw [List.append_nil] at e
  have e2 : exS x = mkS (decide (9223372036854775808 ≤ x)) W P [] (decide (pl (valD x) ≠ 0)) := by
    unfold exS; rw [if_pos hv, sgS_if]; exact e
  rw [e2] at hl ⊢
  obtain ⟨g1, g2, g3⟩ := made_num (decide (9223372036854775808 ≤ x)) W P [] (decide (pl (valD x) ≠ 0)) h0 hW hP (fun h => by
    have : pl (valD x) = 0 := by simpa using h
    exact List.length_eq_zero_iff.1 (by omega)) tail_nil hl mode hk
  have hq : (0 : Int) - (P.length : Int) = -(pl (valD x) : Int) := by rw [hPl]; omega
  rw [hN, hq] at g2 g3
  obtain ⟨r1, r2⟩ := exact_rat x0 x1 hv (kd (decide (9223372036854775808 ≤ x)) mode)
  rw [r1, fabs_sign x0 x1] at g2
  rw [r2] at g3
  exact ⟨g1, g2, g3⟩
end Go.Proofs.YtofdjfdnckmmmaaGreatDoor

/-
  PLAIN: with digits enough a number is read as it was.
-/
namespace Go.Proofs.YtofdjfdnckmmmaaGreatDoor
open Fm Fl

/-- the nearest one, by the middles -/
theorem rat2_iff {A B r : Nat} (hB : 0 < B) (hr : r < MR) : rat 2 A B = r ↔
    (r = 0 ∨ (mag (r - 1) + mag r) * B < 2 * (A * u74) ∨ ((mag (r - 1) + mag r) * B = 2 * (A * u74) ∧ r % 2 = 0)) ∧
    (2 * (A * u74) < (mag r + mag (r + 1)) * B ∨ (2 * (A * u74) = (mag r + mag (r + 1)) * B ∧ r % 2 = 0)) := by
  have h1 := rat_iff 2 A hB r
  have h2 := rat_iff 2 A hB (r + 1)
  have e1 : PkC 2 1 (qle A B) (qlt A B) r ↔ (r = 0 ∨ (mag (r - 1) + mag r) * B < 2 * (A * u74) ∨ ((mag (r - 1) + mag r) * B = 2 * (A * u74) ∧ r % 2 = 0)) := by
    show (r ≤ MR ∧ (r = 0 ∨ (mag (r - 1) + mag r) * 1 * B < 2 * (A * u74) ∨ ((mag (r - 1) + mag r) * 1 * B ≤ 2 * (A * u74) ∧ r % 2 = 0))) ↔ _
    rw [Nat.mul_one]
    generalize (mag (r - 1) + mag r) * B = x
    generalize 2 * (A * u74) = y
    omega
  have e2 : PkC 2 1 (qle A B) (qlt A B) (r + 1) ↔ ¬ (2 * (A * u74) < (mag r + mag (r + 1)) * B ∨ (2 * (A * u74) = (mag r + mag (r + 1)) * B ∧ r % 2 = 0)) := by
    show (r + 1 ≤ MR ∧ (r + 1 = 0 ∨ (mag (r + 1 - 1) + mag (r + 1)) * 1 * B < 2 * (A * u74) ∨ ((mag (r + 1 - 1) + mag (r + 1)) * 1 * B ≤ 2 * (A * u74) ∧ (r + 1) % 2 = 0))) ↔ _
    rw [Nat.mul_one, Nat.add_sub_cancel]
    generalize (mag r + mag (r + 1)) * B = x
    generalize 2 * (A * u74) = y
    omega
  rw [e1] at h1
  rw [e2] at h2
  rw [← h1]
  constructor
  · intro h
    refine ⟨by omega, ?_⟩
    exact Decidable.byContradiction fun h3 => by have := h2.2 h3; omega
  · rintro ⟨h3, h4⟩
    have : ¬ r + 1 ≤ rat 2 A B := fun h5 => h2.1 h5 h4
    omega
theorem ulp_mono {r s : Nat} (h : r ≤ s) : ulp r ≤ ulp s := by
  unfold ulp
  apply Nat.pow_le_pow_right (by omega)
  omega
/-- how near the next one is -/
theorem ulp_big (r : Nat) : mag (r + 1) ≤ ulp r * 2 ^ 53 := by
  by_cases h : r < 4503599627370496
  · have h1 : ulp r = 1 := by unfold ulp; rw [show r / 4503599627370496 - 1 = 0 by omega]
    have h3 := mag_of (r + 1) 0 (by omega) (by omega)
    rw [h1]
    simp at h3
    rw [h3]
    omega
  · obtain ⟨j, q, hq1, hq2, hr⟩ : ∃ j q, 4503599627370496 ≤ q ∧ q < 9007199254740992 ∧ r = q + j * 4503599627370496 :=
      ⟨r / 4503599627370496 - 1, r % 4503599627370496 + 4503599627370496, by omega, by omega, by omega⟩
    subst hr
    have h3 := mag_of (q + 1) j (by omega) (by omega)
    rw [show q + j * 4503599627370496 + 1 = q + 1 + j * 4503599627370496 by omega, h3]
    unfold ulp
    rw [show (q + j * 4503599627370496) / 4503599627370496 - 1 = j by omega, Nat.mul_comm]
    exact Nat.mul_le_mul_left _ (by omega)
/-- near enough -/
theorem rat2_near {A B r u : Nat} (hB : 0 < B) (hr0 : 1 ≤ r) (hr : r < MR) (hu : 0 < u) (h1 : 2 * (mag r * B) ≤ 2 * (A * u74) + u) (h2 : 2 * (A * u74) ≤ 2 * (mag r * B) + u) (h3 : 10 ^ 16 * u ≤ mag r * B) : rat 2 A B = r := by
  rw [rat2_iff hB hr]
  have g1 := ulp_big (r - 1)
  have g2 := ulp_mono (show r - 1 ≤ r by omega)
  have g3 := mag_succ (r - 1)
  have g4 := mag_succ r
  rw [show r - 1 + 1 = r by omega] at g1 g3
  have k1 := Nat.mul_le_mul_right B g1
  have k2 := Nat.mul_le_mul_right B g2
  rw [Nat.mul_right_comm] at k1
  have s1 : (mag (r - 1) + mag r) * B = mag (r - 1) * B + mag r * B := Nat.add_mul _ _ _
  have s2 : (mag r + mag (r + 1)) * B = mag r * B + (mag r * B + ulp r * B) := by rw [g4, Nat.add_mul, Nat.add_mul]
  have s3 : mag r * B = mag (r - 1) * B + ulp (r - 1) * B := by rw [← Nat.add_mul, ← g3]
  have e1 : (10 : Nat) ^ 16 = 10000000000000000 := by decide
  have e2 : (2 : Nat) ^ 53 = 9007199254740992 := by decide
  rw [e1] at h3
  rw [e2] at k1
  rw [s1, s2]
  clear s1 s2 g1 g2 g3 g4 e1 e2
  generalize mag (r - 1) * B = a at *
  generalize mag r * B = b at *
  generalize ulp (r - 1) * B = x at *
  generalize ulp r * B = y at *
  generalize A * u74 = z at *
  exact ⟨by omega, by omega⟩
theorem dn_mag {x : Int} (x0 : 0 ≤ x) (x1 : x ≤ 18446744073709551615) (hv : hasV x = true) (t : Int) : dN (valD x) t * u74 = mag (fabs x).toNat * 10 ^ t.toNat * 2 ^ (-(valD x).e).toNat := by
  obtain ⟨f1, f2, f3, f4, f5⟩ := valD_facts x x0 x1
  rw [dVal_mag x0 x1 hv]
  unfold dN
  rw [u74]
  have hK : K74 = 1074 := rfl
  generalize K74 = K at *
  generalize (valD x).m = m at *
  generalize (valD x).e = e at *
  have : 2 ^ e.toNat * 2 ^ K = 2 ^ (e + ((1074 : Nat) : Int)).toNat * 2 ^ (-e).toNat := by
    rw [← Nat.pow_add, ← Nat.pow_add]; congr 1; omega
  rw [Nat.mul_assoc, this]
  simp only [Nat.mul_assoc, Nat.mul_comm, Nat.mul_left_comm]
/-- of digits enough the number is read -/
theorem enough {x : Int} (x0 : 0 ≤ x) (x1 : x ≤ 18446744073709551615) (hv : hasV x = true) (hx : 1 ≤ fabs x) {N : Nat} (t : Int) (h1 : 2 * dN (valD x) t ≤ 2 * (N * dD (valD x) t) + dD (valD x) t) (h2 : 2 * (N * dD (valD x) t) ≤ 2 * dN (valD x) t + dD (valD x) t) (h3 : 10 ^ 16 * dD (valD x) t ≤ dN (valD x) t) :
    rat 2 (rdA N (-t)) (rdB (-t)) = (fabs x).toNat := by
  have hd := dn_mag x0 x1 hv t
  have hMR : MR = 9218868437227405312 := rfl
  have hlt : (fabs x).toNat < MR := by unfold hasV at hv; rw [decide_eq_true_eq] at hv; omega
  have eD : dD (valD x) t = 10 ^ (-t).toNat * 2 ^ (-(valD x).e).toNat := rfl
  have hp := Nat.two_pow_pos (-(valD x).e).toNat
  rw [eD] at h1 h2 h3
  unfold rdA rdB
  rw [Int.neg_neg]
  have hu : 0 < 10 ^ (-t).toNat * u74 := Nat.mul_pos (Nat.pow_pos (by omega)) u74_pos
  generalize (2 : Nat) ^ (-(valD x).e).toNat = P at *
  generalize dN (valD x) t = n at *
  generalize (10 : Nat) ^ (-t).toNat = U at *
  apply rat2_near (u := U * u74) (Nat.pow_pos (by omega)) (by omega) hlt hu
  · generalize mag (fabs x).toNat = mg at *
    generalize (10 : Nat) ^ t.toNat = T at *
    generalize u74 = V at *
    apply Nat.le_of_mul_le_mul_right _ hp
    have e1 : 2 * (mg * T) * P = 2 * n * V := by rw [Nat.mul_assoc 2 n, hd]; ac_rfl
    have e2 : (2 * (N * U * V) + U * V) * P = (2 * (N * (U * P)) + U * P) * V := by rw [Nat.add_mul, Nat.add_mul]; congr 1 <;> ac_rfl
    rw [e1, e2]
    exact Nat.mul_le_mul_right V h1
  · generalize mag (fabs x).toNat = mg at *
    generalize (10 : Nat) ^ t.toNat = T at *
    generalize u74 = V at *
    apply Nat.le_of_mul_le_mul_right _ hp
    have e1 : (2 * (mg * T) + U * V) * P = (2 * n + U * P) * V := by rw [Nat.add_mul, Nat.add_mul, Nat.mul_assoc 2 n, hd]; congr 1 <;> ac_rfl
    have e2 : 2 * (N * U * V) * P = 2 * (N * (U * P)) * V := by ac_rfl
    rw [e1, e2]
    exact Nat.mul_le_mul_right V h2
  · generalize mag (fabs x).toNat = mg at *
    generalize (10 : Nat) ^ t.toNat = T at *
    generalize u74 = V at *
    generalize (10 : Nat) ^ 16 = W at *
    apply Nat.le_of_mul_le_mul_right _ hp
    have e1 : mg * T * P = n * V := hd.symm
    have e2 : W * (U * V) * P = W * (U * P) * V := by ac_rfl
    rw [e1, e2]
    exact Nat.mul_le_mul_right V h3
end Go.Proofs.YtofdjfdnckmmmaaGreatDoor

/-
  THE WALK of read.value.
-/
namespace Go.Proofs.YtofdjfdnckmmmaaGreatDoor
open Go.RowKit Nt Fm Fl

theorem rv_big {neg : Bool} {L N : Nat} {K : Int} (h : 400 < (L : Int) + K) : rvD neg L N K = ⟨neg, 1, 2000⟩ := by unfold rvD; rw [if_pos h]
theorem rv_small {neg : Bool} {L N : Nat} {K : Int} (h : (L : Int) + K < -400) : rvD neg L N K = ⟨neg, 1, -2000⟩ := by unfold rvD; rw [if_neg (by omega), if_pos h]
theorem rv_whole {neg : Bool} {L N : Nat} {K : Int} (h1 : (L : Int) + K ≤ 400) (h : 0 ≤ K) : rvD neg L N K = norm neg (N * 10 ^ K.toNat) 0 := by unfold rvD; rw [if_neg (by omega), if_neg (by omega), if_pos h]
theorem rv_part {neg : Bool} {L N : Nat} {K : Int} (h0 : -400 ≤ (L : Int) + K) (h1 : (L : Int) + K ≤ 400) (h : K < 0) : rvD neg L N K = ratD ((norm neg (N * 10 ^ K.toNat) 0).neg != (norm false (10 ^ (-K).toNat) 0).neg) (norm neg (N * 10 ^ K.toNat) 0).m (norm false (10 ^ (-K).toNat) 0).m ((norm neg (N * 10 ^ K.toNat) 0).e - (norm false (10 ^ (-K).toNat) 0).e) := by
  unfold rvD; rw [if_neg (by omega), if_neg (by omega), if_neg (by omega)]
theorem rv_norm_bd (neg : Bool) {a k0 : Nat} (h0 : a ≠ 0) (h : a < 2 ^ k0) : (norm neg a 0).m ≠ 0 ∧ (norm neg a 0).m < 2 ^ k0 ∧ 0 ≤ (norm neg a 0).e ∧ (norm neg a 0).e ≤ k0 := by
  obtain ⟨c, z, e1, e2, e3⟩ := norm_shape (neg := neg) h0
  rw [e1]
  refine ⟨e3, ?_, by show (0 : Int) ≤ z; omega, ?_⟩
  · show c < _
    have := Nat.le_mul_of_pos_right c (Nat.two_pow_pos z)
    omega
  · show (z : Int) ≤ k0
    have h1 : 2 ^ z ≤ a := by rw [e2]; exact Nat.le_mul_of_pos_left _ (by omega)
    have h2 := (Nat.pow_lt_pow_iff_right (by decide : 1 < 2)).1 (Nat.lt_of_le_of_lt h1 h)
    omega
set_option maxRecDepth 100000 in
set_option maxHeartbeats 8000000 in
theorem rvalue_any (neg : Bool) (ds : List UInt8) (S : ByteArray) (hS : S = ⟨ds.toArray⟩) (hd : ∀ c ∈ ds, dgt c) (hl : ds.length ≤ 1000) (hN0 : dcN 0 ds ≠ 0) (K : Int) (K0 : -2000000 ≤ K) (K1 : K ≤ 2000000) (w : World) (hT : Tab w) :
    Calls Tryz.prog 31 #[.bool neg, .string S, .int .i64 K] w (RetD w (rvD neg ds.length (dcN 0 ds) K)) := by
  have hz : S.size = ds.length := by rw [hS]; rfl
  obtain ⟨L, hL⟩ : ∃ L, L = ds.length := ⟨_, rfl⟩
  rw [← hL] at hl hz
  have OF := Lib.hid (fun w' => natOf_any 1 (by omega) (by omega) w')
  have hw : IntKind.i64.wrap ((L : Int) + K) = (L : Int) + K := IntWalk.i64_in _ (by omega)
  rw [← hL]
  by_cases hb : 400 < (L : Int) + K
  · rw [rv_big hb]
    clear hS hd hN0 hL hT
    go_enter Tryz.func31, Tryz.ntmps31
    go_wp2_with fail
    refine (OF.out _).mono ?_
    rintro r w1 ⟨v1, rfl, h1, hb⟩
    obtain ⟨a1, n1, c1, rfl⟩ := h1.shape
    have Z1 := Lib.hid ((Box.new w (.bool false) (.slice none 0 0) (.int .i64 0) 68).below hb)
    have B1 := Lib.hid (bl_thru ((Below.refl w.heap.size w).alloc (Nat.le_refl _) _) (Nat.le_refl _) hb)
    have V1 := Lib.hid h1
    clear h1 hb
    obtain ⟨s0, s1, s2, t0, t1, t2⟩ := Z1.out.cells
    have hB := B1.out.size
    go_wp2
    refine bodyPost_ret (v := .agg #[.bool neg, .slice a1 n1 c1, .int .i64 2000]) (by simp [results, Tryz.results31, go_sem, s0, s1, s2]) rfl ?_
    refine ⟨_, rfl, ⟨_, rfl, ?_⟩, bl_set3 B1.out (Nat.le_refl _) _ _ _⟩
    have := V1.out.setD Z1.out (g' := neg) (ao' := a1) (n' := n1) (c' := c1) (e' := 2000)
    simpa using this
  by_cases hs : (L : Int) + K < -400
  · rw [rv_small hs]
    clear hS hd hN0 hL hT
    go_enter Tryz.func31, Tryz.ntmps31
    go_wp2_with fail
    refine (OF.out _).mono ?_
    rintro r w1 ⟨v1, rfl, h1, hb⟩
    obtain ⟨a1, n1, c1, rfl⟩ := h1.shape
    have Z1 := Lib.hid ((Box.new w (.bool false) (.slice none 0 0) (.int .i64 0) 68).below hb)
    have B1 := Lib.hid (bl_thru ((Below.refl w.heap.size w).alloc (Nat.le_refl _) _) (Nat.le_refl _) hb)
    have V1 := Lib.hid h1
    clear h1 hb
    obtain ⟨s0, s1, s2, t0, t1, t2⟩ := Z1.out.cells
    have hB := B1.out.size
    go_wp2
    refine bodyPost_ret (v := .agg #[.bool neg, .slice a1 n1 c1, .int .i64 (-2000)]) (by simp [results, Tryz.results31, go_sem, s0, s1, s2]) rfl ?_
    refine ⟨_, rfl, ⟨_, rfl, ?_⟩, bl_set3 B1.out (Nat.le_refl _) _ _ _⟩
    have := V1.out.setD Z1.out (g' := neg) (ao' := a1) (n' := n1) (c' := c1) (e' := -2000)
    simpa using this
  have RN := Lib.hid (fun w' => nread_any ds S hS hd (by omega) w')
  have PW := Lib.hid (fun X w' (hX : X = ((K.toNat : Nat) : Int)) => pow10_z K.toNat X w' hX (by omega))
  obtain ⟨kb, kb0, kb1⟩ : ∃ kb, 12000 ≤ kb ∧ kb ≤ 12000 := ⟨12000, by omega, by omega⟩
  have hN2 := dcN_bd ds hd
  have hNb : dcN 0 ds < 2 ^ kb := Nat.lt_of_lt_of_le hN2 (Nat.pow_le_pow_right (by omega) (by omega))
  have hPb : 10 ^ K.toNat < 2 ^ kb := Nat.lt_of_lt_of_le (tenz_two _) (Nat.pow_le_pow_right (by omega) (by omega))
  have hXb : dcN 0 ds * 10 ^ K.toNat < 2 ^ kb := by
    have h1 := Nat.mul_lt_mul_of_lt_of_le hN2 (Nat.le_of_lt (tenz_two K.toNat)) (Nat.two_pow_pos _)
    rw [← Nat.pow_add] at h1
    exact Nat.lt_of_lt_of_le h1 (Nat.pow_le_pow_right (by omega) (by omega))
  have hX0 : dcN 0 ds * 10 ^ K.toNat ≠ 0 := Nat.mul_ne_zero hN0 (by have := Nat.pow_pos (n := K.toNat) (show 0 < 10 by omega); omega)
  have TM := Lib.hid (fun va vb w' (ha : NV w' va (dcN 0 ds)) (hb : NV w' vb (10 ^ K.toNat)) => times_any va vb _ _ kb w' ha hb hNb hPb (by omega))
  have NM := Lib.hid (fun va w' (ht : Tab w') (ha : NV w' va (dcN 0 ds * 10 ^ K.toNat)) => dnorm_any neg va _ kb 0 w' ht ha hXb (by omega) (by omega) (by omega))
  obtain ⟨x1, x2, x3, x4⟩ := rv_norm_bd neg hX0 hXb
  have hmx := Lib.hid (show max K 0 = ((K.toNat : Nat) : Int) by omega)
  have HT := Lib.hid hT
  by_cases hk : 0 ≤ K
  · rw [rv_whole (by omega) hk]
    generalize norm neg (dcN 0 ds * 10 ^ K.toNat) 0 = X at *
    obtain ⟨gx, mx, ex⟩ := X
    clear hS hd hN0 hL hT OF hN2 hNb hPb hXb hX0 x1 x2 x3 x4
    go_enter Tryz.func31, Tryz.ntmps31
    go_wp2_with fail
    refine (RN.out _).mono ?_
    rintro r w1 ⟨v1, rfl, h1, hb1⟩
    have Z1 := Lib.hid ((Box.new w (.bool false) (.slice none 0 0) (.int .i64 0) 68).below hb1)
    have B1 := Lib.hid (bl_thru ((Below.refl w.heap.size w).alloc (Nat.le_refl _) _) (Nat.le_refl _) hb1)
    have V1 := Lib.hid h1
    clear h1 hb1
    go_wp2_with fail
    refine (PW.out _ _ hmx.out).mono ?_
    rintro r w2 ⟨v2, rfl, h2, hb2⟩
    have Z2 := Lib.hid (Z1.out.below hb2)
    have B2 := Lib.hid (bl_thru B1.out (Nat.le_refl _) hb2)
    replace V1 := Lib.hid (V1.out.below hb2)
    have V2 := Lib.hid h2
    clear h2 hb2 Z1 B1
    go_wp2_with fail
    refine (TM.out _ _ _ V1.out V2.out).mono ?_
    rintro r w3 ⟨v3, rfl, h3, hb3⟩
    have Z3 := Lib.hid (Z2.out.below hb3)
    have B3 := Lib.hid (bl_thru B2.out (Nat.le_refl _) hb3)
    have V3 := Lib.hid h3
    clear h3 hb3 Z2 B2 V1 V2
    go_wp2_with fail
    refine (NM.out _ _ (HT.out.below B3.out) V3.out).mono ?_
    rintro r w4 ⟨v4, rfl, h4, hb4⟩
    obtain ⟨s4, rfl, hs4⟩ := h4
    obtain ⟨a4, n4, c4, rfl⟩ := hs4.shape
    have Z4 := Lib.hid (Z3.out.below hb4)
    have B4 := Lib.hid (bl_thru B3.out (Nat.le_refl _) hb4)
    have V4 := Lib.hid hs4
    clear hs4 hb4 Z3 B3 V3
    obtain ⟨V, hV⟩ : ∃ V, V = w4.alloc (.cells #[.bool gx, .slice a4 n4 c4, .int .i64 ex] 68) := ⟨_, rfl⟩
    have X5 : Hid (Box V w4.heap.size 68 (.bool gx) (.slice a4 n4 c4) (.int .i64 ex)) := Lib.hid (by rw [hV]; exact Box.new w4 (.bool gx) (.slice a4 n4 c4) (.int .i64 ex) 68)
    have Z5 : Hid (Box V w.heap.size 68 (.bool false) (.slice none 0 0) (.int .i64 0)) := Lib.hid (by rw [hV]; exact Z4.out.alloc _)
    have B5 : Hid (Below w.heap.size w V) := Lib.hid (by rw [hV]; exact B4.out.alloc B4.out.size _)
    have V5 : Hid (NV V (.slice a4 n4 c4) mx) := Lib.hid (by rw [hV]; exact V4.out.alloc _)
    obtain ⟨s0, s1, s2, t0, t1, t2⟩ := Z5.out.cells
    obtain ⟨u0, u1, u2, v0, v1, v2⟩ := X5.out.cells
    have hB := B4.out.size
    rw [hV] at s0 s1 s2 t0 t1 t2 u0 u1 u2 v0 v1 v2
    go_wp2
    rw [← hV] at *
    refine bodyPost_ret (v := .agg #[.bool gx, .slice a4 n4 c4, .int .i64 ex]) (by simp [results, Tryz.results31, go_sem, s0, s1, s2]) rfl ?_
    refine ⟨_, rfl, ⟨_, rfl, ?_⟩, bl_set3 B5.out (Nat.le_refl _) _ _ _⟩
    have := V5.out.setD Z5.out (g' := gx) (ao' := a4) (n' := n4) (c' := c4) (e' := ex)
    simpa using this
  · rw [rv_part (by omega) (by omega) (by omega)]
    have hPp : 10 ^ (-K).toNat ≠ 0 := by have := Nat.pow_pos (n := (-K).toNat) (show 0 < 10 by omega); omega
    have hPb2 : 10 ^ (-K).toNat < 2 ^ kb := Nat.lt_of_lt_of_le (tenz_two _) (Nat.pow_le_pow_right (by omega) (by omega))
    have PX := Lib.hid (fun X w' (hX : X = (((-K).toNat : Nat) : Int)) => pow10_z (-K).toNat X w' hX (by omega))
    have NX := Lib.hid (fun va w' (ht : Tab w') (ha : NV w' va (10 ^ (-K).toNat)) => dnorm_any false va _ kb 0 w' ht ha hPb2 (by omega) (by omega) (by omega))
    obtain ⟨y1, y2, y3, y4⟩ := rv_norm_bd false hPp hPb2
    generalize norm neg (dcN 0 ds * 10 ^ K.toNat) 0 = X at *
    obtain ⟨gx, mx, ex⟩ := X
    generalize norm false (10 ^ (-K).toNat) 0 = Y at *
    obtain ⟨gy, my, ey⟩ := Y
    simp only at x1 x2 x3 x4 y1 y2 y3 y4
    have RA := Lib.hid (fun vc vd w' hc hd => ratio_any vc vd ⟨gx, mx, ex⟩ ⟨gy, my, ey⟩ kb w' hc hd x2 y2 y1 (by omega) (by show _ ≤ ex; omega) (by show ex ≤ _; omega) (by show _ ≤ ey; omega) (by show ey ≤ _; omega))
    clear hS hd hN0 hL hT OF hN2 hNb hPb hXb hX0 x1 x2 x3 x4 y1 y2 y3 y4 hPp hPb2
    go_enter Tryz.func31, Tryz.ntmps31
    go_wp2_with fail
    refine (RN.out _).mono ?_
    rintro r w1 ⟨v1, rfl, h1, hb1⟩
    have Z1 := Lib.hid ((Box.new w (.bool false) (.slice none 0 0) (.int .i64 0) 68).below hb1)
    have B1 := Lib.hid (bl_thru ((Below.refl w.heap.size w).alloc (Nat.le_refl _) _) (Nat.le_refl _) hb1)
    have V1 := Lib.hid h1
    clear h1 hb1
    go_wp2_with fail
    refine (PW.out _ _ hmx.out).mono ?_
    rintro r w2 ⟨v2, rfl, h2, hb2⟩
    have Z2 := Lib.hid (Z1.out.below hb2)
    have B2 := Lib.hid (bl_thru B1.out (Nat.le_refl _) hb2)
    replace V1 := Lib.hid (V1.out.below hb2)
    have V2 := Lib.hid h2
    clear h2 hb2 Z1 B1
    go_wp2_with fail
    refine (TM.out _ _ _ V1.out V2.out).mono ?_
    rintro r w3 ⟨v3, rfl, h3, hb3⟩
    have Z3 := Lib.hid (Z2.out.below hb3)
    have B3 := Lib.hid (bl_thru B2.out (Nat.le_refl _) hb3)
    have V3 := Lib.hid h3
    clear h3 hb3 Z2 B2 V1 V2
    go_wp2_with fail
    refine (NM.out _ _ (HT.out.below B3.out) V3.out).mono ?_
    rintro r w4 ⟨v4, rfl, h4, hb4⟩
    obtain ⟨s4, rfl, hs4⟩ := h4
    obtain ⟨a4, n4, c4, rfl⟩ := hs4.shape
    have Z4 := Lib.hid (Z3.out.below hb4)
    have B4 := Lib.hid (bl_thru B3.out (Nat.le_refl _) hb4)
    have V4 := Lib.hid hs4
    clear hs4 hb4 Z3 B3 V3
    obtain ⟨V, hV⟩ : ∃ V, V = w4.alloc (.cells #[.bool gx, .slice a4 n4 c4, .int .i64 ex] 68) := ⟨_, rfl⟩
    have X5 : Hid (Box V w4.heap.size 68 (.bool gx) (.slice a4 n4 c4) (.int .i64 ex)) := Lib.hid (by rw [hV]; exact Box.new w4 (.bool gx) (.slice a4 n4 c4) (.int .i64 ex) 68)
    have Z5 : Hid (Box V w.heap.size 68 (.bool false) (.slice none 0 0) (.int .i64 0)) := Lib.hid (by rw [hV]; exact Z4.out.alloc _)
    have B5 : Hid (Below w.heap.size w V) := Lib.hid (by rw [hV]; exact B4.out.alloc B4.out.size _)
    have V5 : Hid (NV V (.slice a4 n4 c4) mx) := Lib.hid (by rw [hV]; exact V4.out.alloc _)
    obtain ⟨bx, hbx⟩ : ∃ bx, bx = w4.heap.size := ⟨_, rfl⟩
    have hB : w.heap.size < bx := by rw [hbx]; exact Z4.out.lt
    go_wp2_with fail
    rw [← hV]
    rw [← hbx] at X5 ⊢
    clear hV hbx Z4 B4 V4
    have hnk := Lib.hid (show IntKind.i64.wrap (-K) = (((-K).toNat : Nat) : Int) by rw [IntWalk.i64_in _ (by omega)]; omega)
    obtain ⟨p0, p1, p2, -, -, -⟩ := X5.out.drew.cells
    go_region_held3 (fun w' => w'.cell? ⟨bx, 0, none⟩ = some (.bool gx) ∧ w'.cell? ⟨bx, 1, none⟩ = some (.slice a4 n4 c4) ∧ w'.cell? ⟨bx, 2, none⟩ = some (.int .i64 ex))
      (first
        | with_reducible exact ⟨p0, p1, p2⟩
        | (obtain ⟨p0, p1, p2, -, -, -⟩ := X6.out.cells; exact ⟨p0, p1, p2⟩)
        | (obtain ⟨p0, p1, p2, -, -, -⟩ := X7.out.cells; exact ⟨p0, p1, p2⟩)
        | (obtain ⟨p0, p1, p2, -, -, -⟩ := X8.out.cells; exact ⟨p0, p1, p2⟩)
        | (obtain ⟨p0, p1, p2, -, -, -⟩ := X9.out.cells; exact ⟨p0, p1, p2⟩)
        | (go_keep; done))
      (first
        | (go_at_call 65; refine (PX.out _ _ hnk.out).mono ?_; rintro r w5 ⟨v5, rfl, h5, hb5⟩; have X6 := Lib.hid (X5.out.drew.below hb5); have Z6 := Lib.hid (Z5.out.drew.below hb5); have B6 := Lib.hid (bl_thru B5.out.drew (Nat.le_refl _) hb5); have V6 := Lib.hid h5; have E6 := Lib.hid (V5.out.drew.below hb5))
        | (go_at_call 62; refine (NX.out _ _ (HT.out.below B6.out) V6.out).mono ?_; rintro r w6 ⟨v6, rfl, h6, hb6⟩; have X7 := Lib.hid (X6.out.below hb6); have Z7 := Lib.hid (Z6.out.below hb6); have B7 := Lib.hid (bl_thru B6.out (Nat.le_refl _) hb6); have E7 := Lib.hid (E6.out.below hb6); have D7 := Lib.hid h6)
        | (go_at_call 66; refine (RA.out _ _ _ ⟨_, rfl, E7.out⟩ D7.out).mono ?_; rintro r w7 ⟨v7, rfl, h7, hb7⟩; obtain ⟨s7, rfl, hs7⟩ := h7; obtain ⟨a7, n7, c7, rfl⟩ := hs7.shape; have X8 := Lib.hid (X7.out.below hb7); have Z8 := Lib.hid (Z7.out.below hb7); have B8 := Lib.hid (bl_thru B7.out (Nat.le_refl _) hb7); have V8 := Lib.hid hs7; obtain ⟨z0, z1, z2, zf0, zf1, zf2⟩ := Z8.out.cells; obtain ⟨y0, y1, y2, yf0, yf1, yf2⟩ := Z8.out.drew.cells; have X9 := Lib.hid (((X8.out.set (b' := w.heap.size) (o := 0) (by omega) (.bool (ratD (gx != gy) mx my (ex - ey)).neg)).set (b' := w.heap.size) (o := 1) (by omega) (.slice a7 n7 c7)).set (b' := w.heap.size) (o := 2) (by omega) (.int .i64 (ratD (gx != gy) mx my (ex - ey)).e)).drew))
    have Z9 := Lib.hid ((Z8.out.set3 (.bool (ratD (gx != gy) mx my (ex - ey)).neg) (.slice a7 n7 c7) (.int .i64 (ratD (gx != gy) mx my (ex - ey)).e)))
    have V9 := Lib.hid ((V8.out.setD Z8.out (g' := (ratD (gx != gy) mx my (ex - ey)).neg) (ao' := a7) (n' := n7) (c' := c7) (e' := (ratD (gx != gy) mx my (ex - ey)).e)))
    clear z0 z1 z2 zf0 zf1 zf2 y0 y1 y2 yf0 yf1 yf2 h5 hb5 h6 hb6 hs7 hb7 p0 p1 p2
    obtain ⟨s0, s1, s2, t0, t1, t2⟩ := Z9.out.cells
    go_wp2
    refine bodyPost_ret (v := .agg #[.bool (ratD (gx != gy) mx my (ex - ey)).neg, .slice a7 n7 c7, .int .i64 (ratD (gx != gy) mx my (ex - ey)).e]) (by simp [results, Tryz.results31, go_sem, s0, s1, s2]) rfl ?_
    exact ⟨_, rfl, ⟨_, rfl, V9.out⟩, bl_set3 B8.out (Nat.le_refl _) _ _ _⟩
end Go.Proofs.YtofdjfdnckmmmaaGreatDoor

/-
  PLAIN: what read.Number tells.
-/
namespace Go.Proofs.YtofdjfdnckmmmaaGreatDoor
open Go.RowKit Nt Fm Fl

/-- digits that are no nought count something -/
theorem rdN_pos {s : List UInt8} (h : (rDig s).isEmpty = false) : rdN s ≠ 0 ∧ 10 ^ ((rDig s).length - 1) ≤ rdN s := by
  obtain ⟨h1, h2, h3⟩ := rdig_spec s
  rcases h3 with h3 | ⟨c, l, h3, h4⟩
  · rw [h3] at h; simp at h
  · have hc := h1 c (by rw [h3]; exact List.mem_cons_self ..)
    unfold rdN
    rw [h3] at h1 ⊢
    unfold dgt at hc
    have e1 : dcN 0 (c :: l) = dcN (0 * 10 + (c.toNat - 48)) l := rfl
    rw [e1, dcN_two]
    have h2 : c.toNat ≠ 48 := fun h => h4 (UInt8.toNat_inj.1 (by rw [h]; rfl))
    have h5 : 1 * 10 ^ l.length ≤ (0 * 10 + (c.toNat - 48)) * 10 ^ l.length := Nat.mul_le_mul_right _ (by omega)
    have h6 := Nat.pow_pos (n := l.length) (show 0 < 10 by omega)
    rw [List.length_cons, Nat.add_sub_cancel]
    exact ⟨by omega, by omega⟩
theorem rExp_bd (s : List UInt8) (h : s.length ≤ 1000) : -1100000 ≤ rExp s ∧ rExp s ≤ 1100000 := by
  obtain ⟨lw, l1, l2, lr, lp, le, ls, hdg⟩ := rpc_len (rpc_self s)
  have := pwK_bd (rRest s)
  unfold rExp rpK
  split <;> omega
theorem rerr_cases (s : List UInt8) : rErr s = 0 ∨ rErr s = 2 ∨ rErr s = 5 := by
  unfold rErr rpE; split
  · exact Or.inr (Or.inl rfl)
  · split
    · exact Or.inl rfl
    · exact Or.inr (Or.inr rfl)
theorem rerr_len {s : List UInt8} (h : rErr s = 0) : s.length ≤ 1000 := by
  unfold rErr rpE at h
  split at h
  · exact absurd h (by decide)
  · omega
theorem rv_bd (neg : Bool) {L N : Nat} {K : Int} (hL : L ≤ 1000) (hN0 : N ≠ 0) (hN : N < 2 ^ (4 * L + 1)) (kk : Nat) (hkk : 40000 ≤ kk) :
    (rvD neg L N K).m < 2 ^ kk ∧ -100000 ≤ (rvD neg L N K).e ∧ (rvD neg L N K).e ≤ 100000 ∧ (rvD neg L N K).m ≠ 0 := by
  have h1k : (1 : Nat) < 2 ^ kk := Nat.one_lt_two_pow (by omega)
  by_cases hb : 400 < (L : Int) + K
  · rw [rv_big hb]; exact ⟨h1k, by show (-100000 : Int) ≤ 2000; omega, by show (2000 : Int) ≤ 100000; omega, by show (1 : Nat) ≠ 0; omega⟩
  by_cases hs : (L : Int) + K < -400
  · rw [rv_small hs]; exact ⟨h1k, by show (-100000 : Int) ≤ -2000; omega, by show (-2000 : Int) ≤ 100000; omega, by show (1 : Nat) ≠ 0; omega⟩
  have hX0 : N * 10 ^ K.toNat ≠ 0 := Nat.mul_ne_zero hN0 (by have := Nat.pow_pos (n := K.toNat) (show 0 < 10 by omega); omega)
  obtain ⟨kb, hkb⟩ : ∃ kb : Nat, kb = 12000 := ⟨_, rfl⟩
  have hXb : N * 10 ^ K.toNat < 2 ^ kb := by
    have h1 := Nat.mul_lt_mul_of_lt_of_le hN (Nat.le_of_lt (tenz_two K.toNat)) (Nat.two_pow_pos _)
    rw [← Nat.pow_add] at h1
    exact Nat.lt_of_lt_of_le h1 (Nat.pow_le_pow_right (by omega) (by omega))
  obtain ⟨x1, x2, x3, x4⟩ := rv_norm_bd neg hX0 hXb
  by_cases hk : 0 ≤ K
  · rw [rv_whole (by omega) hk]
    exact ⟨Nat.lt_of_lt_of_le x2 (Nat.pow_le_pow_right (by omega) (by omega)), by omega, by omega, x1⟩
  · rw [rv_part (by omega) (by omega) (by omega)]
    have hPp : 10 ^ (-K).toNat ≠ 0 := by have := Nat.pow_pos (n := (-K).toNat) (show 0 < 10 by omega); omega
    have hPb2 : 10 ^ (-K).toNat < 2 ^ kb := Nat.lt_of_lt_of_le (tenz_two _) (Nat.pow_le_pow_right (by omega) (by omega))
    obtain ⟨y1, y2, y3, y4⟩ := rv_norm_bd false hPp hPb2
    generalize (norm neg (N * 10 ^ K.toNat) 0).m = c at *
    generalize (norm false (10 ^ (-K).toNat) 0).m = d at *
    generalize (norm neg (N * 10 ^ K.toNat) 0).e = a at *
    generalize (norm false (10 ^ (-K).toNat) 0).e = b at *
    generalize ((norm neg (N * 10 ^ K.toNat) 0).neg != (norm false (10 ^ (-K).toNat) 0).neg) = g at *
    have hq := ratio_big x1 y1
    have hqk : qk c d ≤ 80 + kb := by
      have : bl d ≤ kb := by rw [← blen_eq]; exact blen_le_of y2
      unfold qk; omega
    have hC : c * 2 ^ qk c d < 2 ^ (kb + qk c d) := by rw [Nat.pow_add]; exact Nat.mul_lt_mul_of_pos_right x2 (Nat.two_pow_pos _)
    have hmk := Fm.mark_le (c * 2 ^ qk c d % d)
    have e0 : (ratD g c d (a - b)).m = 4 * (c * 2 ^ qk c d / d) + Fm.mark (c * 2 ^ qk c d % d) := rfl
    have e1 : (ratD g c d (a - b)).e = a - b - qk c d - 2 := rfl
    rw [e0, e1]
    have hle := Nat.div_le_self (c * 2 ^ qk c d) d
    have hp : 4 * 2 ^ (kb + qk c d) = 2 ^ (kb + qk c d + 2) := by rw [Nat.pow_add _ _ 2]; omega
    have hp2 : 2 ^ (kb + qk c d + 2) ≤ 2 ^ kk := Nat.pow_le_pow_right (by omega) (by omega)
    have h60 : (0 : Nat) < 2 ^ 60 := by decide
    exact ⟨by omega, by omega, by omega, by omega⟩
/-- a number with digits -/
theorem readV_num (s : List UInt8) (mode : Int) (hk : knownB mode = true) (hi : ¬ (s = sInf ∨ s = sNinf ∨ s = sNan)) (he : rErr s = 0) (hd : (rDig s).isEmpty = false) :
    readV s mode = numR (rvD (rNeg s) (rDig s).length (rdN s) (rExp s)) mode ∧ readC s mode = numC (rvD (rNeg s) (rDig s).length (rdN s) (rExp s)) := by
  obtain ⟨n1, n2⟩ := rdN_pos hd
  obtain ⟨d1, d2, d3⟩ := rdig_spec s
  have hlt := dcN_lt (rDig s) 0 d1
  rw [Nat.zero_add, Nat.one_mul] at hlt
  obtain ⟨r1, r2, r3⟩ := rv_rat (rNeg s) (rExp s) n2 hlt (kd (rNeg s) mode)
  unfold readV readC numR numC
  rw [if_pos hk, if_pos hk, if_neg (fun e => hi (Or.inl e)), if_neg (fun e => hi (Or.inr (Or.inl e))), if_neg (fun e => hi (Or.inr (Or.inr e))), if_pos he, if_neg hi, if_pos he, r3]
  unfold rdN at r1 r2 ⊢
  exact ⟨by rw [r1], r2.symm⟩
end Go.Proofs.YtofdjfdnckmmmaaGreatDoor

/-
  THE WALK of read.Number.
-/
namespace Go.Proofs.YtofdjfdnckmmmaaGreatDoor
open Go.RowKit Nt Fm Fl

set_option maxRecDepth 100000 in
set_option maxHeartbeats 2000000 in
theorem rn_inf (mode : Int) (w : World) (KN : Hid (∀ w' : World, Calls Tryz.prog 28 #[.int .i64 mode] w' fun e w2 => e = .returned (.bool true) ∧ w' = w2)) :
    Calls Tryz.prog 10 #[.string ⟨#[105, 110, 102]⟩, .int .i64 mode] w (RetUBE w 9218868437227405312 false 0) := by
  unfold RetUBE
  go_enter Tryz.func10, Tryz.ntmps10
  go_wp2_with ((go_at_call 28; refine (KN.out _).mono ?_; rintro e w1 ⟨rfl, rfl⟩))
  go_ret3
  exact ⟨rfl, Below.refl _ _⟩
set_option maxRecDepth 100000 in
set_option maxHeartbeats 2000000 in
theorem rn_ninf (mode : Int) (w : World) (KN : Hid (∀ w' : World, Calls Tryz.prog 28 #[.int .i64 mode] w' fun e w2 => e = .returned (.bool true) ∧ w' = w2)) :
    Calls Tryz.prog 10 #[.string ⟨#[45, 105, 110, 102]⟩, .int .i64 mode] w (RetUBE w 18442240474082181120 false 0) := by
  unfold RetUBE
  go_enter Tryz.func10, Tryz.ntmps10
  go_wp2_with ((go_at_call 28; refine (KN.out _).mono ?_; rintro e w1 ⟨rfl, rfl⟩))
  go_ret3
  exact ⟨rfl, Below.refl _ _⟩
set_option maxRecDepth 100000 in
set_option maxHeartbeats 2000000 in
theorem rn_nan (mode : Int) (w : World) (KN : Hid (∀ w' : World, Calls Tryz.prog 28 #[.int .i64 mode] w' fun e w2 => e = .returned (.bool true) ∧ w' = w2)) :
    Calls Tryz.prog 10 #[.string ⟨#[110, 97, 110]⟩, .int .i64 mode] w (RetUBE w 9221120237041090560 false 0) := by
  unfold RetUBE
  go_enter Tryz.func10, Tryz.ntmps10
  go_wp2_with ((go_at_call 28; refine (KN.out _).mono ?_; rintro e w1 ⟨rfl, rfl⟩))
  go_ret3
  exact ⟨rfl, Below.refl _ _⟩
set_option maxRecDepth 100000 in
set_option maxHeartbeats 2000000 in
theorem rn_err (s : List UInt8) (mode : Int) (w : World) (KN : Hid (∀ w' : World, Calls Tryz.prog 28 #[.int .i64 mode] w' fun e w2 => e = .returned (.bool true) ∧ w' = w2)) (i1 : (s == [105, 110, 102]) = false) (i2 : (s == [45, 105, 110, 102]) = false) (i3 : (s == [110, 97, 110]) = false) (er : Int) (n1 : (er != 0) = true)
    (PR : Hid (∀ w' : World, Calls Tryz.prog 29 #[.string ⟨s.toArray⟩] w' (RetPp w' false [] 0 er))) :
    Calls Tryz.prog 10 #[.string ⟨s.toArray⟩, .int .i64 mode] w (RetUBE w 0 false er) := by
  have B : Hid (Below w.heap.size w w) := Lib.hid (Below.refl _ _)
  unfold RetPp at PR
  unfold RetUBE
  go_enter Tryz.func10, Tryz.ntmps10
  go_wp2_with (first
    | (go_at_call 28; refine (KN.out _).mono ?_; rintro e w1 ⟨rfl, rfl⟩)
    | (go_at_call 29; refine (PR.out _).mono ?_; rintro e w1 ⟨rfl, hb⟩; replace B := Lib.hid (bl_thru B.out (Nat.le_refl _) hb); clear hb))
  go_ret3
  exact ⟨rfl, B.out⟩
set_option maxRecDepth 100000 in
set_option maxHeartbeats 2000000 in
theorem rn_zero (s : List UInt8) (mode : Int) (w : World) (KN : Hid (∀ w' : World, Calls Tryz.prog 28 #[.int .i64 mode] w' fun e w2 => e = .returned (.bool true) ∧ w' = w2)) (i1 : (s == [105, 110, 102]) = false) (i2 : (s == [45, 105, 110, 102]) = false) (i3 : (s == [110, 97, 110]) = false) (ng : Bool) (K : Int)
    (PR : Hid (∀ w' : World, Calls Tryz.prog 29 #[.string ⟨s.toArray⟩] w' (RetPp w' ng [] K 0))) :
    Calls Tryz.prog 10 #[.string ⟨s.toArray⟩, .int .i64 mode] w (RetUBE w (if ng = true then 9223372036854775808 else 0) false 0) := by
  have B : Hid (Below w.heap.size w w) := Lib.hid (Below.refl _ _)
  unfold RetPp at PR
  unfold RetUBE
  cases ng
  all_goals
    go_enter Tryz.func10, Tryz.ntmps10
    go_wp2_with (first
      | (go_at_call 28; refine (KN.out _).mono ?_; rintro e w1 ⟨rfl, rfl⟩)
      | (go_at_call 29; refine (PR.out _).mono ?_; rintro e w1 ⟨rfl, hb⟩; replace B := Lib.hid (bl_thru B.out (Nat.le_refl _) hb); clear hb))
    go_ret3
    exact ⟨rfl, B.out⟩
set_option maxRecDepth 100000 in
set_option maxHeartbeats 2000000 in
theorem rn_num (s : List UInt8) (mode : Int) (w : World) (KN : Hid (∀ w' : World, Calls Tryz.prog 28 #[.int .i64 mode] w' fun e w2 => e = .returned (.bool true) ∧ w' = w2)) (i1 : (s == [105, 110, 102]) = false) (i2 : (s == [45, 105, 110, 102]) = false) (i3 : (s == [110, 97, 110]) = false) (ng : Bool) (K : Int) (DS : ByteArray) (zD : DS.toList.isEmpty = false) (X : D)
    (PR : Hid (∀ w' : World, Calls Tryz.prog 29 #[.string ⟨s.toArray⟩] w' fun e w2 => e = .returned (.tuple #[.bool ng, .string DS, .int .i64 K, .int .i64 0]) ∧ Below w'.heap.size w' w2))
    (VL : Hid (∀ w' : World, Tab w' → Calls Tryz.prog 31 #[.bool ng, .string DS, .int .i64 K] w' (RetD w' X)))
    (NB : Hid (∀ v (w' : World), DV w' v X → Calls Tryz.prog 30 #[v, .int .i64 mode] w' fun e w2 => e = .returned (.tuple #[.int .u64 (numR X mode), .bool (numC X)]) ∧ Below w'.heap.size w' w2)) (HT : Hid (Tab w)) :
    Calls Tryz.prog 10 #[.string ⟨s.toArray⟩, .int .i64 mode] w (RetUBE w (numR X mode) (numC X) 0) := by
  have B : Hid (Below w.heap.size w w) := Lib.hid (Below.refl _ _)
  unfold RetUBE
  generalize numR X mode = R at *
  generalize numC X = C at *
  go_enter Tryz.func10, Tryz.ntmps10
  go_wp2_with (first
    | (go_at_call 28; refine (KN.out _).mono ?_; rintro e w1 ⟨rfl, rfl⟩)
    | (go_at_call 29; refine (PR.out _).mono ?_; rintro e w1 ⟨rfl, hb⟩; replace B := Lib.hid (bl_thru B.out (Nat.le_refl _) hb); clear hb)
    | (go_at_call 31; refine (VL.out _ (HT.out.below B.out)).mono ?_; rintro e w2 ⟨v2, rfl, hv, hb⟩; have HV := Lib.hid hv; replace B := Lib.hid (bl_thru B.out (Nat.le_refl _) hb); clear hb hv)
    | (go_at_call 30; refine (NB.out _ _ HV.out).mono ?_; rintro e w3 ⟨rfl, hb⟩; replace B := Lib.hid (bl_thru B.out (Nat.le_refl _) hb); clear hb))
  go_ret3
  exact ⟨rfl, B.out⟩
set_option maxRecDepth 100000 in
set_option maxHeartbeats 2000000 in
theorem rn_arg (S : ByteArray) (mode : Int) (w : World) (KN : Hid (∀ w' : World, Calls Tryz.prog 28 #[.int .i64 mode] w' fun e w2 => e = .returned (.bool false) ∧ w' = w2)) :
    Calls Tryz.prog 10 #[.string S, .int .i64 mode] w (RetUBE w 0 false 1) := by
  unfold RetUBE
  go_enter Tryz.func10, Tryz.ntmps10
  go_wp2_with ((go_at_call 28; refine (KN.out _).mono ?_; rintro e w1 ⟨rfl, rfl⟩))
  go_ret3
  exact ⟨rfl, Below.refl _ _⟩
theorem rnumber_any (s : List UInt8) (S : ByteArray) (hS : S = ⟨s.toArray⟩) (mode : Int) (w : World) (hT : Tab w) :
    Calls Tryz.prog 10 #[.string S, .int .i64 mode] w (RetUBE w (readV s mode) (readC s mode) (readE s mode)) := by
  have KN := Lib.hid (fun w' => known_any mode w')
  by_cases hk : knownB mode = true
  · rw [hk] at KN
    by_cases hi : s = sInf ∨ s = sNinf ∨ s = sNan
    · have eE : readE s mode = 0 := by unfold readE; rw [if_pos hk, if_pos hi]
      have eC : readC s mode = false := by unfold readC; rw [if_pos hk, if_pos hi]
      rw [eE, eC, hS]
      rcases hi with rfl | rfl | rfl
      · have eV : readV sInf mode = 9218868437227405312 := by unfold readV; rw [if_pos hk, if_pos rfl]
        rw [eV]
        exact rn_inf mode w KN
      · have eV : readV sNinf mode = 18442240474082181120 := by unfold readV; rw [if_pos hk, if_neg (by decide), if_pos rfl]
        rw [eV]
        exact rn_ninf mode w KN
      · have eV : readV sNan mode = 9221120237041090560 := by unfold readV; rw [if_pos hk, if_neg (by decide), if_neg (by decide), if_pos rfl]
        rw [eV]
        exact rn_nan mode w KN
    · have i1 : (s == [105, 110, 102]) = false := by rw [beq_eq_false_iff_ne]; exact fun h => hi (Or.inl h)
      have i2 : (s == [45, 105, 110, 102]) = false := by rw [beq_eq_false_iff_ne]; exact fun h => hi (Or.inr (Or.inl h))
      have i3 : (s == [110, 97, 110]) = false := by rw [beq_eq_false_iff_ne]; exact fun h => hi (Or.inr (Or.inr h))
      have PR := Lib.hid (fun w' => rparse_any (rpc_self s) ⟨s.toArray⟩ rfl w')
      have hE0 : rpE s (rWhole s) (rPart s) (rRest s) = rErr s := rfl
      rw [hE0] at PR
      have eE : readE s mode = rErr s := by unfold readE; rw [if_pos hk, if_neg hi]
      rw [eE, hS]
      by_cases he : rErr s = 0
      · have m0 : 0 ≤ mode ∧ mode ≤ 4 := by unfold knownB at hk; rw [decide_eq_true_eq] at hk; exact hk
        have hsl := rerr_len he
        have hK := rExp_bd s hsl
        have hdig := rdig_spec s
        rw [he, if_pos rfl, if_pos rfl, if_pos rfl] at PR
        have hX0 : rpK (rPart s) (rRest s) (rDig s) = rExp s := rfl
        rw [hX0] at PR
        rw [he]
        cases hd : (rDig s).isEmpty
        · obtain ⟨r1, r2⟩ := readV_num s mode hk hi he hd
          rw [r1, r2]
          obtain ⟨n1, n2⟩ := rdN_pos hd
          obtain ⟨DS, hDS⟩ : ∃ T : ByteArray, T = ⟨(rDig s).toArray⟩ := ⟨_, rfl⟩
          unfold RetPp at PR
          rw [← hDS] at PR
          have zD := empt _ _ hDS
          have hNb : rdN s < 2 ^ (4 * (rDig s).length + 1) := dcN_bd _ hdig.1
          obtain ⟨kk, hkk, hkk2⟩ : ∃ kk : Nat, 40000 ≤ kk ∧ kk ≤ 40000 := ⟨40000, by omega, by omega⟩
          obtain ⟨v1, v2, v3, v4⟩ := rv_bd (rNeg s) (L := (rDig s).length) (K := rExp s) (by omega) n1 hNb kk hkk
          have VL := Lib.hid (fun w' ht => rvalue_any (rNeg s) (rDig s) DS hDS hdig.1 (by omega) n1 (rExp s) (by omega) (by omega) w' ht)
          have hdN : dcN 0 (rDig s) = rdN s := rfl
          rw [hdN] at VL
          have NB := Lib.hid (fun v w' h => number_any v (rvD (rNeg s) (rDig s).length (rdN s) (rExp s)) kk mode w' h v1 (by omega) (by omega) (by omega) (fun h => absurd h v4) m0.1 m0.2)
          rw [hd] at zD
          exact rn_num s mode w KN i1 i2 i3 (rNeg s) (rExp s) DS zD _ PR VL NB (Lib.hid hT)
        · have hd0 : rdN s = 0 := by unfold rdN; rw [List.isEmpty_iff.1 hd]; rfl
          have hA : rdA (rdN s) (rExp s) = 0 := by unfold rdA; rw [hd0, Nat.zero_mul]
          have eC : readC s mode = false := by unfold readC ratC; rw [if_pos hk, if_neg hi, if_pos he, hA, if_pos rfl]
          have eV : readV s mode = if rNeg s = true then 9223372036854775808 else 0 := by
            unfold readV rat
            rw [if_pos hk, if_neg (fun e => hi (Or.inl e)), if_neg (fun e => hi (Or.inr (Or.inl e))), if_neg (fun e => hi (Or.inr (Or.inr e))), if_pos he, hA, if_pos rfl]
            simp
          rw [eC, eV]
          rw [List.isEmpty_iff.1 hd] at PR
          exact rn_zero s mode w KN i1 i2 i3 (rNeg s) _ PR
      · have eC : readC s mode = false := by unfold readC; rw [if_pos hk, if_neg hi, if_neg he]
        have eV : readV s mode = 0 := by
          unfold readV
          rw [if_pos hk, if_neg (fun e => hi (Or.inl e)), if_neg (fun e => hi (Or.inr (Or.inl e))), if_neg (fun e => hi (Or.inr (Or.inr e))), if_neg he]
        rw [eC, eV]
        rw [if_neg he, if_neg he, if_neg he] at PR
        exact rn_err s mode w KN i1 i2 i3 (rErr s) (by rw [bne_iff_ne]; exact he) PR
  · have hk0 : knownB mode = false := by cases h : knownB mode; rfl; exact absurd h hk
    have eE : readE s mode = 1 := by unfold readE; rw [if_neg hk]
    have eC : readC s mode = false := by unfold readC; rw [if_neg hk]
    have eV : readV s mode = 0 := by unfold readV; rw [if_neg hk]
    rw [eE, eC, eV]
    rw [hk0] at KN
    exact rn_arg S mode w KN
end Go.Proofs.YtofdjfdnckmmmaaGreatDoor

/-
  THE WALK of short.compare.
-/
namespace Go.Proofs.YtofdjfdnckmmmaaGreatDoor
open Go.RowKit Nt Fm Fl

def cpA (a : Nat) (k e : Int) : Nat := a * 10 ^ k.toNat * 2 ^ (-e).toNat
def cpB (b : Nat) (k e : Int) : Nat := b * 2 ^ e.toNat * 10 ^ (-k).toNat
set_option maxRecDepth 100000 in
set_option maxHeartbeats 8000000 in
theorem scompare_any (va vb : Value) (a b : Nat) (k e : Int) (kd : Nat) (w : World) (ha : NV w va a) (hb : NV w vb b) (ham : a < 2 ^ kd) (hbm : b < 2 ^ kd) (hkd : kd ≤ 12800) (k0 : -3000 ≤ k) (k1 : k ≤ 3000) (e0 : -3000 ≤ e) (e1 : e ≤ 3000) :
    Calls Tryz.prog 236 #[va, .int .i64 k, vb, .int .i64 e] w fun r w' => r = .returned (.int .i64 (sgn2 (cpA a k e) (cpB b k e))) ∧ Below w.heap.size w w' := by
  obtain ⟨aa, an, ac, rfl⟩ := ha.shape
  obtain ⟨ba, bn, bc, rfl⟩ := hb.shape
  have hAm : a * 10 ^ k.toNat < 2 ^ (kd + (4 * k.toNat + 1)) := by
    rw [Nat.pow_add]
    exact Nat.mul_lt_mul_of_lt_of_le ham (Nat.le_of_lt (tenz_two _)) (Nat.two_pow_pos _)
  have hBm : b * 2 ^ e.toNat < 2 ^ (kd + e.toNat) := by
    rw [Nat.pow_add]
    exact Nat.mul_lt_mul_of_pos_right hbm (Nat.two_pow_pos _)
  have PW := Lib.hid (fun X w' (hX : X = ((k.toNat : Nat) : Int)) => pow10_z k.toNat X w' hX (by omega))
  have TM := Lib.hid (fun vb w' (h : NV w' (.slice aa an ac) a) (h2 : NV w' vb (10 ^ k.toNat)) => times_any _ vb a (10 ^ k.toNat) (kd + (4 * k.toNat + 1)) w' h h2 (Nat.lt_of_lt_of_le ham (Nat.pow_le_pow_right (by omega) (by omega))) (Nat.lt_of_lt_of_le (tenz_two _) (Nat.pow_le_pow_right (by omega) (by omega))) (by omega))
  have LF := Lib.hid (fun va X w' (h : NV w' va (a * 10 ^ k.toNat)) (hX : X = (((-e).toNat : Nat) : Int)) => left_any va _ (-e).toNat (kd + (4 * k.toNat + 1)) X w' h hX hAm (by omega) (by omega))
  have LG := Lib.hid (fun X w' (h : NV w' (.slice ba bn bc) b) (hX : X = ((e.toNat : Nat) : Int)) => left_any _ b e.toNat kd X w' h hX hbm (by omega) (by omega))
  have PX := Lib.hid (fun X w' (hX : X = (((-k).toNat : Nat) : Int)) => pow10_z (-k).toNat X w' hX (by omega))
  have TN := Lib.hid (fun va vb w' (h : NV w' va (b * 2 ^ e.toNat)) (h2 : NV w' vb (10 ^ (-k).toNat)) => times_any va vb _ (10 ^ (-k).toNat) (kd + e.toNat + (4 * (-k).toNat + 1)) w' h h2 (Nat.lt_of_lt_of_le hBm (Nat.pow_le_pow_right (by omega) (by omega))) (Nat.lt_of_lt_of_le (tenz_two _) (Nat.pow_le_pow_right (by omega) (by omega))) (by omega))
  have CP := Lib.hid (fun va vb w' (h : NV w' va (cpA a k e)) (h2 : NV w' vb (cpB b k e)) => compare_any va vb _ _ w' h h2)
  have m1 := Lib.hid (show max k 0 = ((k.toNat : Nat) : Int) by omega)
  have m2 := Lib.hid (show max (IntKind.i64.wrap (-e)) 0 = (((-e).toNat : Nat) : Int) by rw [IntWalk.i64_in _ (by omega)]; omega)
  have m3 := Lib.hid (show max e 0 = ((e.toNat : Nat) : Int) by omega)
  have m4 := Lib.hid (show max (IntKind.i64.wrap (-k)) 0 = (((-k).toNat : Nat) : Int) by rw [IntWalk.i64_in _ (by omega)]; omega)
  have m5 := Lib.hid (show max (-e) 0 = (((-e).toNat : Nat) : Int) by omega)
  have m6 := Lib.hid (show max (-k) 0 = (((-k).toNat : Nat) : Int) by omega)
  have HA := Lib.hid ha
  have HB := Lib.hid hb
  have B : Hid (Below w.heap.size w w) := Lib.hid (Below.refl _ _)
  clear ha hb ham hbm hAm hBm
  go_enter Tryz.func236, Tryz.ntmps236
  go_wp2_with fail
  refine (PW.out _ _ m1.out).mono ?_
  rintro r w1 ⟨v1, rfl, h1, hb1⟩
  replace B := Lib.hid (bl_thru B.out (Nat.le_refl _) hb1)
  replace HA := Lib.hid (HA.out.below hb1)
  replace HB := Lib.hid (HB.out.below hb1)
  have V1 := Lib.hid h1
  clear h1 hb1
  go_wp2_with fail
  refine (TM.out _ _ HA.out V1.out).mono ?_
  rintro r w2 ⟨v2, rfl, h2, hb2⟩
  replace B := Lib.hid (bl_thru B.out (Nat.le_refl _) hb2)
  replace HB := Lib.hid (HB.out.below hb2)
  have V2 := Lib.hid h2
  clear h2 hb2 V1 HA
  go_wp2_with fail
  refine (LF.out _ _ _ V2.out (by first | exact m2.out | exact m5.out)).mono ?_
  rintro r w3 ⟨v3, rfl, h3, hb3⟩
  replace B := Lib.hid (bl_thru B.out (Nat.le_refl _) hb3)
  replace HB := Lib.hid (HB.out.below hb3)
  have V3 : Hid (NV w3 v3 (cpA a k e)) := Lib.hid h3
  clear h3 hb3 V2
  go_wp2_with fail
  refine (LG.out _ _ HB.out m3.out).mono ?_
  rintro r w4 ⟨v4, rfl, h4, hb4⟩
  replace B := Lib.hid (bl_thru B.out (Nat.le_refl _) hb4)
  replace V3 := Lib.hid (V3.out.below hb4)
  have V4 := Lib.hid h4
  clear h4 hb4 HB
  go_wp2_with fail
  refine (PX.out _ _ (by first | exact m4.out | exact m6.out)).mono ?_
  rintro r w5 ⟨v5, rfl, h5, hb5⟩
  replace B := Lib.hid (bl_thru B.out (Nat.le_refl _) hb5)
  replace V3 := Lib.hid (V3.out.below hb5)
  replace V4 := Lib.hid (V4.out.below hb5)
  have V5 := Lib.hid h5
  clear h5 hb5
  go_wp2_with fail
  refine (TN.out _ _ _ V4.out V5.out).mono ?_
  rintro r w6 ⟨v6, rfl, h6, hb6⟩
  replace B := Lib.hid (bl_thru B.out (Nat.le_refl _) hb6)
  replace V3 := Lib.hid (V3.out.below hb6)
  have V6 : Hid (NV w6 v6 (cpB b k e)) := Lib.hid h6
  clear h6 hb6 V4 V5
  go_wp2_with fail
  refine (CP.out _ _ _ V3.out V6.out).mono ?_
  rintro r w7 ⟨rfl, n, rfl⟩
  go_wp2
  go_ret
  exact ⟨rfl, below_to_drewN B.out⟩
end Go.Proofs.YtofdjfdnckmmmaaGreatDoor

/-
  THE WALK of short.limits.
-/
namespace Go.Proofs.YtofdjfdnckmmmaaGreatDoor
open Go.RowKit Nt Fm Fl

/-- a struct of five fields in block b -/
def Bx5 (w : World) (b : Nat) (T : TypeId) (c0 c1 c2 c3 c4 : Value) : Prop := w.heap[b]? = some (.cells #[c0, c1, c2, c3, c4] T (0, 0))
section
variable {w w' : World} {b : Nat} {T : TypeId} {c0 c1 c2 c3 c4 : Value}
theorem Bx5.new (w : World) (c0 c1 c2 c3 c4 : Value) (T : TypeId) : Bx5 (w.alloc (.cells #[c0, c1, c2, c3, c4] T)) w.heap.size T c0 c1 c2 c3 c4 := heap_alloc_new w _
theorem Bx5.lt (h : Bx5 w b T c0 c1 c2 c3 c4) : b < w.heap.size := (Array.getElem?_eq_some_iff.1 h).1
theorem Bx5.below (h : Bx5 w b T c0 c1 c2 c3 c4) (hb : Below w.heap.size w w') : Bx5 w' b T c0 c1 c2 c3 c4 := (hb.block b h.lt).trans h
theorem Bx5.alloc (h : Bx5 w b T c0 c1 c2 c3 c4) (o : Obj) : Bx5 (w.alloc o) b T c0 c1 c2 c3 c4 := h.below ((Below.refl _ _).alloc (Nat.le_refl _) o)
theorem Bx5.cells (h : Bx5 w b T c0 c1 c2 c3 c4) :
    w.cell? ⟨b, 0, none⟩ = some c0 ∧ w.cell? ⟨b, 1, none⟩ = some c1 ∧ w.cell? ⟨b, 2, none⟩ = some c2 ∧ w.cell? ⟨b, 3, none⟩ = some c3 ∧ w.cell? ⟨b, 4, none⟩ = some c4 ∧
    w.frozen? ⟨b, 0, none⟩ = false ∧ w.frozen? ⟨b, 1, none⟩ = false ∧ w.frozen? ⟨b, 2, none⟩ = false ∧ w.frozen? ⟨b, 3, none⟩ = false ∧ w.frozen? ⟨b, 4, none⟩ = false := by
  unfold Bx5 at h
  refine ⟨?_, ?_, ?_, ?_, ?_, ?_, ?_, ?_, ?_, ?_⟩ <;> simp [World.cell?, World.frozen?, h]
theorem Bx5.set0 (h : Bx5 w b T c0 c1 c2 c3 c4) (v : Value) : Bx5 (w.setCell ⟨b, 0, none⟩ v) b T v c1 c2 c3 c4 := heap_set h
theorem Bx5.set1 (h : Bx5 w b T c0 c1 c2 c3 c4) (v : Value) : Bx5 (w.setCell ⟨b, 1, none⟩ v) b T c0 v c2 c3 c4 := heap_set h
theorem Bx5.set2 (h : Bx5 w b T c0 c1 c2 c3 c4) (v : Value) : Bx5 (w.setCell ⟨b, 2, none⟩ v) b T c0 c1 v c3 c4 := heap_set h
theorem Bx5.set3 (h : Bx5 w b T c0 c1 c2 c3 c4) (v : Value) : Bx5 (w.setCell ⟨b, 3, none⟩ v) b T c0 c1 c2 v c4 := heap_set h
theorem Bx5.set4 (h : Bx5 w b T c0 c1 c2 c3 c4) (v : Value) : Bx5 (w.setCell ⟨b, 4, none⟩ v) b T c0 c1 c2 c3 v := heap_set h
/-- the world with all five written -/
def set5 (w : World) (b : Nat) (d0 d1 d2 d3 d4 : Value) : World := ((((w.setCell ⟨b, 0, none⟩ d0).setCell ⟨b, 1, none⟩ d1).setCell ⟨b, 2, none⟩ d2).setCell ⟨b, 3, none⟩ d3).setCell ⟨b, 4, none⟩ d4
theorem Bx5.set5 (h : Bx5 w b T c0 c1 c2 c3 c4) (d0 d1 d2 d3 d4 : Value) : Bx5 (set5 w b d0 d1 d2 d3 d4) b T d0 d1 d2 d3 d4 := ((((h.set0 d0).set1 d1).set2 d2).set3 d3).set4 d4
theorem Bx5.set {b' o : Nat} (h : Bx5 w b T c0 c1 c2 c3 c4) (hb : b ≠ b') (v : Value) : Bx5 (w.setCell ⟨b', o, none⟩ v) b T c0 c1 c2 c3 c4 := (Below.heap_setCell _ _ _ _ hb).trans h
theorem NV.setBx {v : Value} {n : Nat} (h : NV w v n) (hb : Bx5 w b T c0 c1 c2 c3 c4) (h0 : NoLimb c0) (h1 : NoLimb c1) (h2 : NoLimb c2) (h3 : NoLimb c3) (h4 : NoLimb c4) (o : Nat) (u : Value) : NV (w.setCell ⟨b, o, none⟩ u) v n := by
  refine h.other (B := b) ?_ (by simp [World.setCell]) (fun k hk => Below.heap_setCell _ _ _ _ hk)
  intro o
  unfold Bx5 at hb
  simp only [World.cell?, hb]
  match o with
  | 0 => simpa using h0
  | 1 => simpa using h1
  | 2 => simpa using h2
  | 3 => simpa using h3
  | 4 => simpa using h4
  | o + 5 => simp
theorem NV.setB5 {v : Value} {n : Nat} {d0 d1 d2 d3 d4 : Value} (h : NV w v n) (hb : Bx5 w b T c0 c1 c2 c3 c4) (h0 : NoLimb c0) (h1 : NoLimb c1) (h2 : NoLimb c2) (h3 : NoLimb c3) (h4 : NoLimb c4) (k0 : NoLimb d0) (k1 : NoLimb d1) (k2 : NoLimb d2) (k3 : NoLimb d3) : NV (set5 w b d0 d1 d2 d3 d4) v n :=
  ((((h.setBx hb h0 h1 h2 h3 h4 0 d0).setBx (hb.set0 d0) k0 h1 h2 h3 h4 1 d1).setBx ((hb.set0 d0).set1 d1) k0 k1 h2 h3 h4 2 d2).setBx (((hb.set0 d0).set1 d1).set2 d2) k0 k1 k2 h3 h4 3 d3).setBx ((((hb.set0 d0).set1 d1).set2 d2).set3 d3) k0 k1 k2 k3 h4 4 d4
theorem bl_set5 {B : Nat} {w1 : World} (h : Below B w w1) (hb : B ≤ b) (d0 d1 d2 d3 d4 : Value) : Below B w (set5 w1 b d0 d1 d2 d3 d4) := ((((h.setCell hb _).setCell hb _).setCell hb _).setCell hb _).setCell hb _
end
def lmM (x : Int) : Nat := if 0 < fexp x then (ffr x + 4503599627370496).toNat else (ffr x).toNat
def lmE (x : Int) : Int := max (fexp x) 1 - 1077
def lmL (x : Int) : Nat := if ffr x = 0 ∧ 1 < fexp x then 4 * lmM x - 1 else 4 * lmM x - 2
/-- the limits of a number -/
def Lim5 (w : World) (x : Int) (v : Value) : Prop := ∃ a b c, v = .agg #[a, b, c, .int .i64 (lmE x), .bool (decide (ffr x % 2 = 0))] ∧ NV w a (4 * lmM x) ∧ NV w b (lmL x) ∧ NV w c (4 * lmM x + 2)
-- printed by gen_lim.py
set_option maxRecDepth 100000 in
set_option maxHeartbeats 8000000 in
theorem limits_a1 (x : Int) (e f : Int) (he : 0 ≤ e ∧ e ≤ 2047) (hf : 0 ≤ f ∧ f ≤ 4503599627370495) (h1 : f = 0) (h2 : 1 < e) (w : World)
    (HP : Hid (∀ w' : World, Calls Tryz.prog 22 #[.int .u64 x] w' fun e1 w2 => e1 = .returned (.tuple #[.bool (fng x), .int .i64 e, .int .u64 f]) ∧ w' = w2)) :
    Calls Tryz.prog 234 #[.int .u64 x] w fun r w' => ∃ v, r = .returned v ∧ (∃ a b c, v = .agg #[a, b, c, .int .i64 (max e 1 - 1077), .bool (decide (f % 2 = 0))] ∧ NV w' a (4 * (f + 4503599627370496).toNat) ∧ NV w' b (4 * (f + 4503599627370496).toNat - 1) ∧ NV w' c (4 * (f + 4503599627370496).toNat + 2)) ∧ Below w.heap.size w w' := by
  subst h1
  have hor := or_hidden 0 (by omega) (by omega)
  obtain ⟨M, hM⟩ : ∃ M : Int, (0 : Int) + 4503599627370496 = M := ⟨_, rfl⟩
  rw [hM] at hor ⊢
  have h0 : 0 < e := by omega
  have hd : decide ((0 : Int) % 2 = 0) = true := by decide
  rw [hd]
  have w1 : IntKind.u64.wrap (4 * M) = 4 * M := IntWalk.u64_in _ (by omega)
  have w2 : IntKind.u64.wrap (4 * M - 2) = 4 * M - 2 := IntWalk.u64_in _ (by omega)
  have w3 : IntKind.u64.wrap (4 * M + 2) = 4 * M + 2 := IntWalk.u64_in _ (by omega)
  have w4 : IntKind.u64.wrap (4 * M - 1) = 4 * M - 1 := IntWalk.u64_in _ (by omega)
  have OF := Lib.hid (fun y w' (h0 : 0 ≤ y) (h1 : y ≤ 18446744073709551615) => natOf_any y h0 h1 w')
  have hq := Lib.hid (show max e 1 - 1077 = max e 1 - 1075 - 2 by omega)
  rw [hq.out]
  go_enter Tryz.func234, Tryz.ntmps234
  go_wp2_with (go_at_call 22; refine (HP.out _).mono ?_; rintro e1 w' ⟨rfl, rfl⟩)
  refine (OF.out _ _ (by omega) (by omega)).mono ?_
  rintro r w1 ⟨v1, rfl, h1, hb1⟩
  obtain ⟨a1, n1, c1, rfl⟩ := h1.shape
  have Z1 := Lib.hid ((Bx5.new w (.slice none 0 0) (.slice none 0 0) (.slice none 0 0) (.int .i64 0) (.bool false) 243).below hb1)
  have B1 := Lib.hid (bl_thru ((Below.refl w.heap.size w).alloc (Nat.le_refl _) _) (Nat.le_refl _) hb1)
  have V1 := Lib.hid h1
  clear h1 hb1
  go_wp2_with fail
  refine (OF.out _ _ (by omega) (by omega)).mono ?_
  rintro r w2 ⟨v2, rfl, h2, hb2⟩
  obtain ⟨a2, n2, c2, rfl⟩ := h2.shape
  have Z2 := Lib.hid (Z1.out.below hb2)
  have B2 := Lib.hid (bl_thru B1.out (Nat.le_refl _) hb2)
  replace V1 := Lib.hid (V1.out.below hb2)
  have V2 := Lib.hid h2
  clear h2 hb2
  go_wp2_with fail
  refine (OF.out _ _ (by omega) (by omega)).mono ?_
  rintro r w3 ⟨v3, rfl, h3, hb3⟩
  obtain ⟨a3, n3, c3, rfl⟩ := h3.shape
  have Z3 := Lib.hid (Z2.out.below hb3)
  have B3 := Lib.hid (bl_thru B2.out (Nat.le_refl _) hb3)
  replace V1 := Lib.hid (V1.out.below hb3)
  replace V2 := Lib.hid (V2.out.below hb3)
  have V3 := Lib.hid h3
  clear h3 hb3
  have hB : w.heap.size < w3.heap.size := Z3.out.lt
  obtain ⟨V, hV⟩ : ∃ V, V = w3.alloc (.cells #[.slice a1 n1 c1, .slice a2 n2 c2, .slice a3 n3 c3, .int .i64 (max e 1 - 1075 - 2), .bool true] 243) := ⟨_, rfl⟩
  have X4 : Hid (Bx5 V w3.heap.size 243 (.slice a1 n1 c1) (.slice a2 n2 c2) (.slice a3 n3 c3) (.int .i64 (max e 1 - 1075 - 2)) (.bool true)) := Lib.hid (by rw [hV]; exact Bx5.new w3 (.slice a1 n1 c1) (.slice a2 n2 c2) (.slice a3 n3 c3) (.int .i64 (max e 1 - 1075 - 2)) (.bool true) 243)
  have Z4 : Hid (Bx5 V w.heap.size 243 (.slice none 0 0) (.slice none 0 0) (.slice none 0 0) (.int .i64 0) (.bool false)) := Lib.hid (by rw [hV]; exact Z3.out.alloc _)
  have B4 : Hid (Below w.heap.size w V) := Lib.hid (by rw [hV]; exact B3.out.alloc B3.out.size _)
  replace V1 : Hid (NV V (.slice a1 n1 c1) _) := Lib.hid (by rw [hV]; exact V1.out.alloc _)
  replace V2 : Hid (NV V (.slice a2 n2 c2) _) := Lib.hid (by rw [hV]; exact V2.out.alloc _)
  replace V3 : Hid (NV V (.slice a3 n3 c3) _) := Lib.hid (by rw [hV]; exact V3.out.alloc _)
  obtain ⟨bx, hbx⟩ : ∃ bx, bx = w3.heap.size := ⟨_, rfl⟩
  rw [← hbx] at X4 hB
  go_wp2_with fail
  rw [← hV]
  refine (OF.out _ _ (by omega) (by omega)).mono ?_
  rintro r w4 ⟨v4, rfl, h4, hb4⟩
  obtain ⟨a4, n4, c4, rfl⟩ := h4.shape
  have X5 := Lib.hid (X4.out.below hb4)
  have Z5 := Lib.hid (Z4.out.below hb4)
  have B5 := Lib.hid (bl_thru B4.out (Nat.le_refl _) hb4)
  replace V1 := Lib.hid (V1.out.below hb4)
  replace V3 := Lib.hid (V3.out.below hb4)
  have V4 := Lib.hid h4
  clear h4 hb4 hV V2
  rw [← hbx]
  clear hbx
  have X6 := Lib.hid (X5.out.set1 (.slice a4 n4 c4))
  have Z6 := Lib.hid (Z5.out.set (b' := bx) (o := 1) (by omega) (.slice a4 n4 c4))
  obtain ⟨p0, p1, p2, p3, p4, r0, r1, r2, r3, r4⟩ := X5.out.cells
  obtain ⟨u0, u1, u2, u3, u4, g0, g1, g2, g3, g4⟩ := X6.out.cells
  obtain ⟨s0, s1, s2, s3, s4, t0, t1, t2, t3, t4⟩ := Z6.out.cells
  go_wp2
  have Z7 := Lib.hid (Z6.out.set5 (.slice a1 n1 c1) (.slice a4 n4 c4) (.slice a3 n3 c3) (.int .i64 (max e 1 - 1075 - 2)) (.bool true))
  clear s0 s1 s2 s3 s4 t0 t1 t2 t3 t4 u0 u1 u2 u3 u4 g0 g1 g2 g3 g4 p0 p1 p2 p3 p4 r0 r1 r2 r3 r4
  obtain ⟨s0, s1, s2, s3, s4, t0, t1, t2, t3, t4⟩ := Z7.out.cells
  unfold set5 at s0 s1 s2 s3 s4
  refine bodyPost_ret (v := .agg #[.slice a1 n1 c1, .slice a4 n4 c4, .slice a3 n3 c3, .int .i64 (max e 1 - 1075 - 2), .bool true]) (by simp [results, Tryz.results234, go_sem, s0, s1, s2, s3, s4]) rfl ?_
  have st : ∀ {v : Value} {n : Nat}, NV w4 v n → NV (set5 (w4.setCell ⟨bx, 1, none⟩ (.slice a4 n4 c4)) w.heap.size (.slice a1 n1 c1) (.slice a4 n4 c4) (.slice a3 n3 c3) (.int .i64 (max e 1 - 1075 - 2)) (.bool true)) v n := fun h =>
    (h.setBx X5.out (noLimb_slice _ _ _) (noLimb_slice _ _ _) (noLimb_slice _ _ _) (noLimb_i64 _) (noLimb_bool _) 1 _).setB5 Z6.out (noLimb_slice _ _ _) (noLimb_slice _ _ _) (noLimb_slice _ _ _) (noLimb_i64 _) (noLimb_bool _) (noLimb_slice a1 n1 c1) (noLimb_slice a4 n4 c4) (noLimb_slice a3 n3 c3) (noLimb_i64 (max e 1 - 1075 - 2)) (d4 := .bool true)
  refine ⟨_, rfl, ⟨_, _, _, rfl, ?_, ?_, ?_⟩, bl_set5 (B5.out.setCell (p := ⟨bx, 1, none⟩) (by show _ ≤ bx; omega) _) (Nat.le_refl _) _ _ _ _ _⟩
  · rw [show 4 * M.toNat = (4 * M).toNat by omega]; exact st V1.out
  · rw [show 4 * M.toNat - 1 = (4 * M - 1).toNat by omega]; exact st V4.out
  · rw [show 4 * M.toNat + 2 = (4 * M + 2).toNat by omega]; exact st V3.out
set_option maxRecDepth 100000 in
set_option maxHeartbeats 8000000 in
theorem limits_a2 (x : Int) (e f : Int) (he : 0 ≤ e ∧ e ≤ 2047) (hf : 0 ≤ f ∧ f ≤ 4503599627370495) (h1 : f ≠ 0) (h0 : 0 < e) (w : World)
    (HP : Hid (∀ w' : World, Calls Tryz.prog 22 #[.int .u64 x] w' fun e1 w2 => e1 = .returned (.tuple #[.bool (fng x), .int .i64 e, .int .u64 f]) ∧ w' = w2)) :
    Calls Tryz.prog 234 #[.int .u64 x] w fun r w' => ∃ v, r = .returned v ∧ (∃ a b c, v = .agg #[a, b, c, .int .i64 (max e 1 - 1077), .bool (decide (f % 2 = 0))] ∧ NV w' a (4 * (f + 4503599627370496).toNat) ∧ NV w' b (4 * (f + 4503599627370496).toNat - 2) ∧ NV w' c (4 * (f + 4503599627370496).toNat + 2)) ∧ Below w.heap.size w w' := by
  have hor := or_hidden f (by omega) (by omega)
  obtain ⟨M, hM⟩ : ∃ M : Int, f + 4503599627370496 = M := ⟨_, rfl⟩
  rw [hM] at hor ⊢
  have hev : (f % 2 == 0) = decide (f % 2 = 0) := by rw [Bool.eq_iff_iff]; simp
  obtain ⟨ev, hev2⟩ : ∃ ev, ev = decide (f % 2 = 0) := ⟨_, rfl⟩
  rw [← hev2] at hev ⊢
  clear hev2
  have hf0 : (f == 0) = false := by rw [beq_eq_false_iff_ne]; exact h1
  have w1 : IntKind.u64.wrap (4 * M) = 4 * M := IntWalk.u64_in _ (by omega)
  have w2 : IntKind.u64.wrap (4 * M - 2) = 4 * M - 2 := IntWalk.u64_in _ (by omega)
  have w3 : IntKind.u64.wrap (4 * M + 2) = 4 * M + 2 := IntWalk.u64_in _ (by omega)
  have w4 : IntKind.u64.wrap (4 * M - 1) = 4 * M - 1 := IntWalk.u64_in _ (by omega)
  have OF := Lib.hid (fun y w' (h0 : 0 ≤ y) (h1 : y ≤ 18446744073709551615) => natOf_any y h0 h1 w')
  have hq := Lib.hid (show max e 1 - 1077 = max e 1 - 1075 - 2 by omega)
  rw [hq.out]
  go_enter Tryz.func234, Tryz.ntmps234
  go_wp2_with (go_at_call 22; refine (HP.out _).mono ?_; rintro e1 w' ⟨rfl, rfl⟩)
  refine (OF.out _ _ (by omega) (by omega)).mono ?_
  rintro r w1 ⟨v1, rfl, h1, hb1⟩
  obtain ⟨a1, n1, c1, rfl⟩ := h1.shape
  have Z1 := Lib.hid ((Bx5.new w (.slice none 0 0) (.slice none 0 0) (.slice none 0 0) (.int .i64 0) (.bool false) 243).below hb1)
  have B1 := Lib.hid (bl_thru ((Below.refl w.heap.size w).alloc (Nat.le_refl _) _) (Nat.le_refl _) hb1)
  have V1 := Lib.hid h1
  clear h1 hb1
  go_wp2_with fail
  refine (OF.out _ _ (by omega) (by omega)).mono ?_
  rintro r w2 ⟨v2, rfl, h2, hb2⟩
  obtain ⟨a2, n2, c2, rfl⟩ := h2.shape
  have Z2 := Lib.hid (Z1.out.below hb2)
  have B2 := Lib.hid (bl_thru B1.out (Nat.le_refl _) hb2)
  replace V1 := Lib.hid (V1.out.below hb2)
  have V2 := Lib.hid h2
  clear h2 hb2
  go_wp2_with fail
  refine (OF.out _ _ (by omega) (by omega)).mono ?_
  rintro r w3 ⟨v3, rfl, h3, hb3⟩
  obtain ⟨a3, n3, c3, rfl⟩ := h3.shape
  have Z3 := Lib.hid (Z2.out.below hb3)
  have B3 := Lib.hid (bl_thru B2.out (Nat.le_refl _) hb3)
  replace V1 := Lib.hid (V1.out.below hb3)
  replace V2 := Lib.hid (V2.out.below hb3)
  have V3 := Lib.hid h3
  clear h3 hb3
  have hB : w.heap.size < w3.heap.size := Z3.out.lt
  obtain ⟨V, hV⟩ : ∃ V, V = w3.alloc (.cells #[.slice a1 n1 c1, .slice a2 n2 c2, .slice a3 n3 c3, .int .i64 (max e 1 - 1075 - 2), .bool ev] 243) := ⟨_, rfl⟩
  have X4 : Hid (Bx5 V w3.heap.size 243 (.slice a1 n1 c1) (.slice a2 n2 c2) (.slice a3 n3 c3) (.int .i64 (max e 1 - 1075 - 2)) (.bool ev)) := Lib.hid (by rw [hV]; exact Bx5.new w3 (.slice a1 n1 c1) (.slice a2 n2 c2) (.slice a3 n3 c3) (.int .i64 (max e 1 - 1075 - 2)) (.bool ev) 243)
  have Z4 : Hid (Bx5 V w.heap.size 243 (.slice none 0 0) (.slice none 0 0) (.slice none 0 0) (.int .i64 0) (.bool false)) := Lib.hid (by rw [hV]; exact Z3.out.alloc _)
  have B4 : Hid (Below w.heap.size w V) := Lib.hid (by rw [hV]; exact B3.out.alloc B3.out.size _)
  replace V1 : Hid (NV V (.slice a1 n1 c1) _) := Lib.hid (by rw [hV]; exact V1.out.alloc _)
  replace V2 : Hid (NV V (.slice a2 n2 c2) _) := Lib.hid (by rw [hV]; exact V2.out.alloc _)
  replace V3 : Hid (NV V (.slice a3 n3 c3) _) := Lib.hid (by rw [hV]; exact V3.out.alloc _)
  obtain ⟨bx, hbx⟩ : ∃ bx, bx = w3.heap.size := ⟨_, rfl⟩
  rw [← hbx] at X4 hB
  obtain ⟨s0, s1, s2, s3, s4, t0, t1, t2, t3, t4⟩ := Z4.out.cells
  obtain ⟨u0, u1, u2, u3, u4, g0, g1, g2, g3, g4⟩ := X4.out.cells
  rw [hV] at s0 s1 s2 s3 s4 t0 t1 t2 t3 t4 u0 u1 u2 u3 u4 g0 g1 g2 g3 g4
  rw [hbx] at u0 u1 u2 u3 u4 g0 g1 g2 g3 g4
  go_wp2
  rw [← hV]
  have Z5 := Lib.hid (Z4.out.set5 (.slice a1 n1 c1) (.slice a2 n2 c2) (.slice a3 n3 c3) (.int .i64 (max e 1 - 1075 - 2)) (.bool ev))
  clear s0 s1 s2 s3 s4 t0 t1 t2 t3 t4 u0 u1 u2 u3 u4 g0 g1 g2 g3 g4
  obtain ⟨s0, s1, s2, s3, s4, t0, t1, t2, t3, t4⟩ := Z5.out.cells
  unfold set5 at s0 s1 s2 s3 s4
  refine bodyPost_ret (v := .agg #[.slice a1 n1 c1, .slice a2 n2 c2, .slice a3 n3 c3, .int .i64 (max e 1 - 1075 - 2), .bool ev]) (by simp [results, Tryz.results234, go_sem, s0, s1, s2, s3, s4]) rfl ?_
  have m1 := V1.out.setB5 Z4.out (noLimb_slice _ _ _) (noLimb_slice _ _ _) (noLimb_slice _ _ _) (noLimb_i64 _) (noLimb_bool _) (noLimb_slice a1 n1 c1) (noLimb_slice a2 n2 c2) (noLimb_slice a3 n3 c3) (noLimb_i64 (max e 1 - 1075 - 2)) (d4 := .bool ev)
  have m2 := V2.out.setB5 Z4.out (noLimb_slice _ _ _) (noLimb_slice _ _ _) (noLimb_slice _ _ _) (noLimb_i64 _) (noLimb_bool _) (noLimb_slice a1 n1 c1) (noLimb_slice a2 n2 c2) (noLimb_slice a3 n3 c3) (noLimb_i64 (max e 1 - 1075 - 2)) (d4 := .bool ev)
  have m3 := V3.out.setB5 Z4.out (noLimb_slice _ _ _) (noLimb_slice _ _ _) (noLimb_slice _ _ _) (noLimb_i64 _) (noLimb_bool _) (noLimb_slice a1 n1 c1) (noLimb_slice a2 n2 c2) (noLimb_slice a3 n3 c3) (noLimb_i64 (max e 1 - 1075 - 2)) (d4 := .bool ev)
  refine ⟨_, rfl, ⟨_, _, _, rfl, ?_, ?_, ?_⟩, bl_set5 B4.out (Nat.le_refl _) _ _ _ _ _⟩
  · rw [show 4 * M.toNat = (4 * M).toNat by omega]; exact m1
  · rw [show 4 * M.toNat - 2 = (4 * M - 2).toNat by omega]; exact m2
  · rw [show 4 * M.toNat + 2 = (4 * M + 2).toNat by omega]; exact m3
set_option maxRecDepth 100000 in
set_option maxHeartbeats 8000000 in
theorem limits_a3 (x : Int) (e f : Int) (he : 0 ≤ e ∧ e ≤ 2047) (hf : 0 ≤ f ∧ f ≤ 4503599627370495) (h1 : f = 0) (h2 : e = 1) (w : World)
    (HP : Hid (∀ w' : World, Calls Tryz.prog 22 #[.int .u64 x] w' fun e1 w2 => e1 = .returned (.tuple #[.bool (fng x), .int .i64 e, .int .u64 f]) ∧ w' = w2)) :
    Calls Tryz.prog 234 #[.int .u64 x] w fun r w' => ∃ v, r = .returned v ∧ (∃ a b c, v = .agg #[a, b, c, .int .i64 (max e 1 - 1077), .bool (decide (f % 2 = 0))] ∧ NV w' a (4 * (f + 4503599627370496).toNat) ∧ NV w' b (4 * (f + 4503599627370496).toNat - 2) ∧ NV w' c (4 * (f + 4503599627370496).toNat + 2)) ∧ Below w.heap.size w w' := by
  subst h1
  have h0 : 0 < e := by omega
  have h3 : ¬ 1 < e := by omega
  clear h2
  have hor := or_hidden 0 (by omega) (by omega)
  obtain ⟨M, hM⟩ : ∃ M : Int, (0 : Int) + 4503599627370496 = M := ⟨_, rfl⟩
  rw [hM] at hor ⊢
  have hd : decide ((0 : Int) % 2 = 0) = true := by decide
  rw [hd]
  have w1 : IntKind.u64.wrap (4 * M) = 4 * M := IntWalk.u64_in _ (by omega)
  have w2 : IntKind.u64.wrap (4 * M - 2) = 4 * M - 2 := IntWalk.u64_in _ (by omega)
  have w3 : IntKind.u64.wrap (4 * M + 2) = 4 * M + 2 := IntWalk.u64_in _ (by omega)
  have w4 : IntKind.u64.wrap (4 * M - 1) = 4 * M - 1 := IntWalk.u64_in _ (by omega)
  have OF := Lib.hid (fun y w' (h0 : 0 ≤ y) (h1 : y ≤ 18446744073709551615) => natOf_any y h0 h1 w')
  have hq := Lib.hid (show max e 1 - 1077 = max e 1 - 1075 - 2 by omega)
  rw [hq.out]
  go_enter Tryz.func234, Tryz.ntmps234
  go_wp2_with (go_at_call 22; refine (HP.out _).mono ?_; rintro e1 w' ⟨rfl, rfl⟩)
  refine (OF.out _ _ (by omega) (by omega)).mono ?_
  rintro r w1 ⟨v1, rfl, h1, hb1⟩
  obtain ⟨a1, n1, c1, rfl⟩ := h1.shape
  have Z1 := Lib.hid ((Bx5.new w (.slice none 0 0) (.slice none 0 0) (.slice none 0 0) (.int .i64 0) (.bool false) 243).below hb1)
  have B1 := Lib.hid (bl_thru ((Below.refl w.heap.size w).alloc (Nat.le_refl _) _) (Nat.le_refl _) hb1)
  have V1 := Lib.hid h1
  clear h1 hb1
  go_wp2_with fail
  refine (OF.out _ _ (by omega) (by omega)).mono ?_
  rintro r w2 ⟨v2, rfl, h2, hb2⟩
  obtain ⟨a2, n2, c2, rfl⟩ := h2.shape
  have Z2 := Lib.hid (Z1.out.below hb2)
  have B2 := Lib.hid (bl_thru B1.out (Nat.le_refl _) hb2)
  replace V1 := Lib.hid (V1.out.below hb2)
  have V2 := Lib.hid h2
  clear h2 hb2
  go_wp2_with fail
  refine (OF.out _ _ (by omega) (by omega)).mono ?_
  rintro r w3 ⟨v3, rfl, h3, hb3⟩
  obtain ⟨a3, n3, c3, rfl⟩ := h3.shape
  have Z3 := Lib.hid (Z2.out.below hb3)
  have B3 := Lib.hid (bl_thru B2.out (Nat.le_refl _) hb3)
  replace V1 := Lib.hid (V1.out.below hb3)
  replace V2 := Lib.hid (V2.out.below hb3)
  have V3 := Lib.hid h3
  clear h3 hb3
  have hB : w.heap.size < w3.heap.size := Z3.out.lt
  obtain ⟨V, hV⟩ : ∃ V, V = w3.alloc (.cells #[.slice a1 n1 c1, .slice a2 n2 c2, .slice a3 n3 c3, .int .i64 (max e 1 - 1075 - 2), .bool true] 243) := ⟨_, rfl⟩
  have X4 : Hid (Bx5 V w3.heap.size 243 (.slice a1 n1 c1) (.slice a2 n2 c2) (.slice a3 n3 c3) (.int .i64 (max e 1 - 1075 - 2)) (.bool true)) := Lib.hid (by rw [hV]; exact Bx5.new w3 (.slice a1 n1 c1) (.slice a2 n2 c2) (.slice a3 n3 c3) (.int .i64 (max e 1 - 1075 - 2)) (.bool true) 243)
  have Z4 : Hid (Bx5 V w.heap.size 243 (.slice none 0 0) (.slice none 0 0) (.slice none 0 0) (.int .i64 0) (.bool false)) := Lib.hid (by rw [hV]; exact Z3.out.alloc _)
  have B4 : Hid (Below w.heap.size w V) := Lib.hid (by rw [hV]; exact B3.out.alloc B3.out.size _)
  replace V1 : Hid (NV V (.slice a1 n1 c1) _) := Lib.hid (by rw [hV]; exact V1.out.alloc _)
  replace V2 : Hid (NV V (.slice a2 n2 c2) _) := Lib.hid (by rw [hV]; exact V2.out.alloc _)
  replace V3 : Hid (NV V (.slice a3 n3 c3) _) := Lib.hid (by rw [hV]; exact V3.out.alloc _)
  obtain ⟨bx, hbx⟩ : ∃ bx, bx = w3.heap.size := ⟨_, rfl⟩
  rw [← hbx] at X4 hB
  obtain ⟨s0, s1, s2, s3, s4, t0, t1, t2, t3, t4⟩ := Z4.out.cells
  obtain ⟨u0, u1, u2, u3, u4, g0, g1, g2, g3, g4⟩ := X4.out.cells
  rw [hV] at s0 s1 s2 s3 s4 t0 t1 t2 t3 t4 u0 u1 u2 u3 u4 g0 g1 g2 g3 g4
  rw [hbx] at u0 u1 u2 u3 u4 g0 g1 g2 g3 g4
  go_wp2
  rw [← hV]
  have Z5 := Lib.hid (Z4.out.set5 (.slice a1 n1 c1) (.slice a2 n2 c2) (.slice a3 n3 c3) (.int .i64 (max e 1 - 1075 - 2)) (.bool true))
  clear s0 s1 s2 s3 s4 t0 t1 t2 t3 t4 u0 u1 u2 u3 u4 g0 g1 g2 g3 g4
  obtain ⟨s0, s1, s2, s3, s4, t0, t1, t2, t3, t4⟩ := Z5.out.cells
  unfold set5 at s0 s1 s2 s3 s4
  refine bodyPost_ret (v := .agg #[.slice a1 n1 c1, .slice a2 n2 c2, .slice a3 n3 c3, .int .i64 (max e 1 - 1075 - 2), .bool true]) (by simp [results, Tryz.results234, go_sem, s0, s1, s2, s3, s4]) rfl ?_
  have m1 := V1.out.setB5 Z4.out (noLimb_slice _ _ _) (noLimb_slice _ _ _) (noLimb_slice _ _ _) (noLimb_i64 _) (noLimb_bool _) (noLimb_slice a1 n1 c1) (noLimb_slice a2 n2 c2) (noLimb_slice a3 n3 c3) (noLimb_i64 (max e 1 - 1075 - 2)) (d4 := .bool true)
  have m2 := V2.out.setB5 Z4.out (noLimb_slice _ _ _) (noLimb_slice _ _ _) (noLimb_slice _ _ _) (noLimb_i64 _) (noLimb_bool _) (noLimb_slice a1 n1 c1) (noLimb_slice a2 n2 c2) (noLimb_slice a3 n3 c3) (noLimb_i64 (max e 1 - 1075 - 2)) (d4 := .bool true)
  have m3 := V3.out.setB5 Z4.out (noLimb_slice _ _ _) (noLimb_slice _ _ _) (noLimb_slice _ _ _) (noLimb_i64 _) (noLimb_bool _) (noLimb_slice a1 n1 c1) (noLimb_slice a2 n2 c2) (noLimb_slice a3 n3 c3) (noLimb_i64 (max e 1 - 1075 - 2)) (d4 := .bool true)
  refine ⟨_, rfl, ⟨_, _, _, rfl, ?_, ?_, ?_⟩, bl_set5 B4.out (Nat.le_refl _) _ _ _ _ _⟩
  · rw [show 4 * M.toNat = (4 * M).toNat by omega]; exact m1
  · rw [show 4 * M.toNat - 2 = (4 * M - 2).toNat by omega]; exact m2
  · rw [show 4 * M.toNat + 2 = (4 * M + 2).toNat by omega]; exact m3
set_option maxRecDepth 100000 in
set_option maxHeartbeats 8000000 in
theorem limits_b (x : Int) (e f : Int) (he : 0 ≤ e ∧ e ≤ 2047) (hf : 0 ≤ f ∧ f ≤ 4503599627370495) (h1 : f ≠ 0) (h2 : e = 0) (w : World)
    (HP : Hid (∀ w' : World, Calls Tryz.prog 22 #[.int .u64 x] w' fun e1 w2 => e1 = .returned (.tuple #[.bool (fng x), .int .i64 e, .int .u64 f]) ∧ w' = w2)) :
    Calls Tryz.prog 234 #[.int .u64 x] w fun r w' => ∃ v, r = .returned v ∧ (∃ a b c, v = .agg #[a, b, c, .int .i64 (max e 1 - 1077), .bool (decide (f % 2 = 0))] ∧ NV w' a (4 * (f).toNat) ∧ NV w' b (4 * (f).toNat - 2) ∧ NV w' c (4 * (f).toNat + 2)) ∧ Below w.heap.size w w' := by
  have h3 : ¬ 0 < e := by omega
  clear h2
  have hf0 : (f == 0) = false := by rw [beq_eq_false_iff_ne]; exact h1
  have hev : (f % 2 == 0) = decide (f % 2 = 0) := by rw [Bool.eq_iff_iff]; simp
  obtain ⟨ev, hev2⟩ : ∃ ev, ev = decide (f % 2 = 0) := ⟨_, rfl⟩
  rw [← hev2] at hev ⊢
  clear hev2
  have w1 : IntKind.u64.wrap (4 * f) = 4 * f := IntWalk.u64_in _ (by omega)
  have w2 : IntKind.u64.wrap (4 * f - 2) = 4 * f - 2 := IntWalk.u64_in _ (by omega)
  have w3 : IntKind.u64.wrap (4 * f + 2) = 4 * f + 2 := IntWalk.u64_in _ (by omega)
  have w4 : IntKind.u64.wrap (4 * f - 1) = 4 * f - 1 := IntWalk.u64_in _ (by omega)
  have OF := Lib.hid (fun y w' (h0 : 0 ≤ y) (h1 : y ≤ 18446744073709551615) => natOf_any y h0 h1 w')
  have hq := Lib.hid (show max e 1 - 1077 = max e 1 - 1075 - 2 by omega)
  rw [hq.out]
  go_enter Tryz.func234, Tryz.ntmps234
  go_wp2_with (go_at_call 22; refine (HP.out _).mono ?_; rintro e1 w' ⟨rfl, rfl⟩)
  refine (OF.out _ _ (by omega) (by omega)).mono ?_
  rintro r w1 ⟨v1, rfl, h1, hb1⟩
  obtain ⟨a1, n1, c1, rfl⟩ := h1.shape
  have Z1 := Lib.hid ((Bx5.new w (.slice none 0 0) (.slice none 0 0) (.slice none 0 0) (.int .i64 0) (.bool false) 243).below hb1)
  have B1 := Lib.hid (bl_thru ((Below.refl w.heap.size w).alloc (Nat.le_refl _) _) (Nat.le_refl _) hb1)
  have V1 := Lib.hid h1
  clear h1 hb1
  go_wp2_with fail
  refine (OF.out _ _ (by omega) (by omega)).mono ?_
  rintro r w2 ⟨v2, rfl, h2, hb2⟩
  obtain ⟨a2, n2, c2, rfl⟩ := h2.shape
  have Z2 := Lib.hid (Z1.out.below hb2)
  have B2 := Lib.hid (bl_thru B1.out (Nat.le_refl _) hb2)
  replace V1 := Lib.hid (V1.out.below hb2)
  have V2 := Lib.hid h2
  clear h2 hb2
  go_wp2_with fail
  refine (OF.out _ _ (by omega) (by omega)).mono ?_
  rintro r w3 ⟨v3, rfl, h3, hb3⟩
  obtain ⟨a3, n3, c3, rfl⟩ := h3.shape
  have Z3 := Lib.hid (Z2.out.below hb3)
  have B3 := Lib.hid (bl_thru B2.out (Nat.le_refl _) hb3)
  replace V1 := Lib.hid (V1.out.below hb3)
  replace V2 := Lib.hid (V2.out.below hb3)
  have V3 := Lib.hid h3
  clear h3 hb3
  have hB : w.heap.size < w3.heap.size := Z3.out.lt
  obtain ⟨V, hV⟩ : ∃ V, V = w3.alloc (.cells #[.slice a1 n1 c1, .slice a2 n2 c2, .slice a3 n3 c3, .int .i64 (max e 1 - 1075 - 2), .bool ev] 243) := ⟨_, rfl⟩
  have X4 : Hid (Bx5 V w3.heap.size 243 (.slice a1 n1 c1) (.slice a2 n2 c2) (.slice a3 n3 c3) (.int .i64 (max e 1 - 1075 - 2)) (.bool ev)) := Lib.hid (by rw [hV]; exact Bx5.new w3 (.slice a1 n1 c1) (.slice a2 n2 c2) (.slice a3 n3 c3) (.int .i64 (max e 1 - 1075 - 2)) (.bool ev) 243)
  have Z4 : Hid (Bx5 V w.heap.size 243 (.slice none 0 0) (.slice none 0 0) (.slice none 0 0) (.int .i64 0) (.bool false)) := Lib.hid (by rw [hV]; exact Z3.out.alloc _)
  have B4 : Hid (Below w.heap.size w V) := Lib.hid (by rw [hV]; exact B3.out.alloc B3.out.size _)
  replace V1 : Hid (NV V (.slice a1 n1 c1) _) := Lib.hid (by rw [hV]; exact V1.out.alloc _)
  replace V2 : Hid (NV V (.slice a2 n2 c2) _) := Lib.hid (by rw [hV]; exact V2.out.alloc _)
  replace V3 : Hid (NV V (.slice a3 n3 c3) _) := Lib.hid (by rw [hV]; exact V3.out.alloc _)
  obtain ⟨bx, hbx⟩ : ∃ bx, bx = w3.heap.size := ⟨_, rfl⟩
  rw [← hbx] at X4 hB
  obtain ⟨s0, s1, s2, s3, s4, t0, t1, t2, t3, t4⟩ := Z4.out.cells
  obtain ⟨u0, u1, u2, u3, u4, g0, g1, g2, g3, g4⟩ := X4.out.cells
  rw [hV] at s0 s1 s2 s3 s4 t0 t1 t2 t3 t4 u0 u1 u2 u3 u4 g0 g1 g2 g3 g4
  rw [hbx] at u0 u1 u2 u3 u4 g0 g1 g2 g3 g4
  go_wp2
  rw [← hV]
  have Z5 := Lib.hid (Z4.out.set5 (.slice a1 n1 c1) (.slice a2 n2 c2) (.slice a3 n3 c3) (.int .i64 (max e 1 - 1075 - 2)) (.bool ev))
  clear s0 s1 s2 s3 s4 t0 t1 t2 t3 t4 u0 u1 u2 u3 u4 g0 g1 g2 g3 g4
  obtain ⟨s0, s1, s2, s3, s4, t0, t1, t2, t3, t4⟩ := Z5.out.cells
  unfold set5 at s0 s1 s2 s3 s4
  refine bodyPost_ret (v := .agg #[.slice a1 n1 c1, .slice a2 n2 c2, .slice a3 n3 c3, .int .i64 (max e 1 - 1075 - 2), .bool ev]) (by simp [results, Tryz.results234, go_sem, s0, s1, s2, s3, s4]) rfl ?_
  have m1 := V1.out.setB5 Z4.out (noLimb_slice _ _ _) (noLimb_slice _ _ _) (noLimb_slice _ _ _) (noLimb_i64 _) (noLimb_bool _) (noLimb_slice a1 n1 c1) (noLimb_slice a2 n2 c2) (noLimb_slice a3 n3 c3) (noLimb_i64 (max e 1 - 1075 - 2)) (d4 := .bool ev)
  have m2 := V2.out.setB5 Z4.out (noLimb_slice _ _ _) (noLimb_slice _ _ _) (noLimb_slice _ _ _) (noLimb_i64 _) (noLimb_bool _) (noLimb_slice a1 n1 c1) (noLimb_slice a2 n2 c2) (noLimb_slice a3 n3 c3) (noLimb_i64 (max e 1 - 1075 - 2)) (d4 := .bool ev)
  have m3 := V3.out.setB5 Z4.out (noLimb_slice _ _ _) (noLimb_slice _ _ _) (noLimb_slice _ _ _) (noLimb_i64 _) (noLimb_bool _) (noLimb_slice a1 n1 c1) (noLimb_slice a2 n2 c2) (noLimb_slice a3 n3 c3) (noLimb_i64 (max e 1 - 1075 - 2)) (d4 := .bool ev)
  refine ⟨_, rfl, ⟨_, _, _, rfl, ?_, ?_, ?_⟩, bl_set5 B4.out (Nat.le_refl _) _ _ _ _ _⟩
  · rw [show 4 * f.toNat = (4 * f).toNat by omega]; exact m1
  · rw [show 4 * f.toNat - 2 = (4 * f - 2).toNat by omega]; exact m2
  · rw [show 4 * f.toNat + 2 = (4 * f + 2).toNat by omega]; exact m3
theorem limits_any (x : Int) (x0 : 0 ≤ x) (x1 : x ≤ 18446744073709551615) (hm : 1 ≤ lmM x) (w : World) :
    Calls Tryz.prog 234 #[.int .u64 x] w fun r w' => ∃ v, r = .returned v ∧ Lim5 w' x v ∧ Below w.heap.size w w' := by
  have HP := Lib.hid (fun w' => parts_any x x0 x1 w')
  unfold Lim5 lmL lmE lmM
  unfold lmM at hm
  have hf := ffr_bd x
  have he := fexp_bd x
  generalize fexp x = e at *
  generalize ffr x = f at *
  by_cases h0 : 0 < e
  · rw [if_pos h0] at hm ⊢
    by_cases h1 : f = 0
    · by_cases h2 : 1 < e
      · rw [if_pos ⟨h1, h2⟩]
        exact limits_a1 x e f he hf h1 h2 w HP
      · rw [if_neg (fun h => h2 h.2)]
        exact limits_a3 x e f he hf h1 (by omega) w HP
    · rw [if_neg (fun h => h1 h.1)]
      exact limits_a2 x e f he hf h1 h0 w HP
  · rw [if_neg h0] at hm ⊢
    rw [if_neg (fun h => h0 (by omega))]
    exact limits_b x e f he hf (by omega) (by omega) w HP
end Go.Proofs.YtofdjfdnckmmmaaGreatDoor

/-
  THE WALK of (short.bounds).fits.
-/
namespace Go.Proofs.YtofdjfdnckmmmaaGreatDoor
open Go.RowKit Nt Fm Fl

def ftLo (n L : Nat) (k e : Int) : Int := sgn2 (cpA n k e) (cpB L k e)
def ftB (n L H : Nat) (k e : Int) (ev : Bool) : Bool := (decide (0 < ftLo n L k e) && decide (ftLo n H k e < 0)) || (ev && (ftLo n L k e == 0 || ftLo n H k e == 0))
set_option maxRecDepth 100000 in
set_option maxHeartbeats 8000000 in
theorem fits_any (va vb vc vn : Value) (L H n : Nat) (k e : Int) (ev : Bool) (kd : Nat) (w : World) (hb : NV w vb L) (hc : NV w vc H) (hn : NV w vn n) (hA : ∃ S, NV w va S) (hLm : L < 2 ^ kd) (hHm : H < 2 ^ kd) (hnm : n < 2 ^ kd) (hkd : kd ≤ 12800) (k0 : -3000 ≤ k) (k1 : k ≤ 3000) (e0 : -3000 ≤ e) (e1 : e ≤ 3000) :
    Calls Tryz.prog 235 #[.agg #[va, vb, vc, .int .i64 e, .bool ev], vn, .int .i64 k] w fun r w' => r = .returned (.bool (ftB n L H k e ev)) ∧ Below w.heap.size w w' := by
  obtain ⟨S, hA⟩ := hA
  obtain ⟨aa, an, ac, rfl⟩ := hA.shape
  obtain ⟨ba, bn, bc, rfl⟩ := hb.shape
  obtain ⟨ca, cn, cc, rfl⟩ := hc.shape
  obtain ⟨na, nn, nc, rfl⟩ := hn.shape
  have C1 := Lib.hid (fun w' (h : NV w' (.slice na nn nc) n) (h2 : NV w' (.slice ba bn bc) L) => scompare_any _ _ n L k e kd w' h h2 hnm hLm hkd k0 k1 e0 e1)
  have C2 := Lib.hid (fun w' (h : NV w' (.slice na nn nc) n) (h2 : NV w' (.slice ca cn cc) H) => scompare_any _ _ n H k e kd w' h h2 hnm hHm hkd k0 k1 e0 e1)
  unfold ftB ftLo
  generalize sgn2 (cpA n k e) (cpB L k e) = lo at *
  generalize sgn2 (cpA n k e) (cpB H k e) = hi at *
  have HB := Lib.hid hb
  have HC := Lib.hid hc
  have HN := Lib.hid hn
  clear hb hc hn hA hLm hHm hnm
  go_enter Tryz.func235, Tryz.ntmps235
  go_wp2_with fail
  obtain ⟨V, hV⟩ : ∃ V, V = w.alloc (.cells #[.slice aa an ac, .slice ba bn bc, .slice ca cn cc, .int .i64 e, .bool ev] 243) := ⟨_, rfl⟩
  have X : Hid (Bx5 V w.heap.size 243 (.slice aa an ac) (.slice ba bn bc) (.slice ca cn cc) (.int .i64 e) (.bool ev)) := Lib.hid (by rw [hV]; exact Bx5.new w _ _ _ _ _ _)
  have B : Hid (Below w.heap.size w V) := Lib.hid (by rw [hV]; exact (Below.refl _ _).alloc (Nat.le_refl _) _)
  replace HB : Hid (NV V (.slice ba bn bc) L) := Lib.hid (by rw [hV]; exact HB.out.alloc _)
  replace HC : Hid (NV V (.slice ca cn cc) H) := Lib.hid (by rw [hV]; exact HC.out.alloc _)
  replace HN : Hid (NV V (.slice na nn nc) n) := Lib.hid (by rw [hV]; exact HN.out.alloc _)
  rw [← hV]
  clear hV
  have X0 : Hid (Bx5 V.drew w.heap.size 243 (.slice aa an ac) (.slice ba bn bc) (.slice ca cn cc) (.int .i64 e) (.bool ev)) := Lib.hid X.out
  obtain ⟨p0, p1, p2, p3, p4, -, -, -, -, -⟩ := X0.out.cells
  go_region_held3 (fun w' => w'.cell? ⟨w.heap.size, 1, none⟩ = some (.slice ba bn bc) ∧ w'.cell? ⟨w.heap.size, 2, none⟩ = some (.slice ca cn cc) ∧ w'.cell? ⟨w.heap.size, 3, none⟩ = some (.int .i64 e) ∧ w'.cell? ⟨w.heap.size, 4, none⟩ = some (.bool ev))
    (first
      | with_reducible exact ⟨p1, p2, p3, p4⟩
      | (obtain ⟨p0, p1, p2, p3, p4, -, -, -, -, -⟩ := X1.out.cells; exact ⟨p1, p2, p3, p4⟩)
      | (obtain ⟨p0, p1, p2, p3, p4, -, -, -, -, -⟩ := X2.out.cells; exact ⟨p1, p2, p3, p4⟩)
      | (go_keep; done))
    (first
      | (go_at_call_of 236 (Value.slice ba bn bc); refine (C1.out _ (HN.out.below (Below.refl _ _).drew) (HB.out.below (Below.refl _ _).drew)).mono ?_; rintro r w1 ⟨rfl, hb1⟩; have X1 := Lib.hid (X0.out.below hb1); have B1 := Lib.hid (bl_thru B.out.drew (Nat.le_refl _) hb1); have HN1 := Lib.hid ((HN.out.below (Below.refl _ _).drew).below hb1); have HC1 := Lib.hid ((HC.out.below (Below.refl _ _).drew).below hb1))
      | (go_at_call_of 236 (Value.slice ca cn cc); refine (C2.out _ HN1.out HC1.out).mono ?_; rintro r w2 ⟨rfl, hb2⟩; have X2 := Lib.hid (X1.out.below hb2); have B2 := Lib.hid (bl_thru B1.out (Nat.le_refl _) hb2)))
  clear p0 p1 p2 p3 p4 hb1 hb2
  obtain ⟨p0, p1, p2, p3, p4, -, -, -, -, -⟩ := X2.out.cells
  go_wp2
  all_goals first
    | (go_ret; refine ⟨congrArg (fun b => Ending.returned (Value.bool b)) ?_, B2.out⟩; rw [Bool.eq_iff_iff]; clear X X0 X1 X2 B B1 B2 HB HC HN HN1 HC1 C1 C2 p0 p1 p2 p3 p4; simp_all; done)
    | (go_ret; refine ⟨congrArg (fun b => Ending.returned (Value.bool b)) ?_, B2.out⟩; rw [Bool.eq_iff_iff]; clear X X0 X1 X2 B B1 B2 HB HC HN HN1 HC1 C1 C2 p0 p1 p2 p3 p4; simp_all; omega)
    | (go_ret; refine ⟨congrArg (fun b => Ending.returned (Value.bool b)) ?_, B2.out⟩; clear X X0 X1 X2 B B1 B2 HB HC HN HN1 HC1 C1 C2 p0 p1 p2 p3 p4; grind)
    | trace_state
end Go.Proofs.YtofdjfdnckmmmaaGreatDoor

/-
  PLAIN: the fewest digits (STEELE, WHITE): what short.Digits tells.
-/
namespace Go.Proofs.YtofdjfdnckmmmaaGreatDoor
open Nt Fm Fl

theorem sg_pos (a b : Nat) : 0 < sgn2 (a : Int) (b : Int) ↔ b < a := by unfold sgn2; split <;> (try split) <;> omega
theorem sg_neg (a b : Nat) : sgn2 (a : Int) (b : Int) < 0 ↔ a < b := by unfold sgn2; split <;> (try split) <;> omega
theorem sg_nul (a b : Nat) : sgn2 (a : Int) (b : Int) = 0 ↔ a = b := by unfold sgn2; split <;> (try split) <;> omega
/-- both sides' factors -/
def shA (k e : Int) : Nat := 10 ^ k.toNat * 2 ^ (-e).toNat
def shB (k e : Int) : Nat := 2 ^ e.toNat * 10 ^ (-k).toNat
theorem shA_pos (k e : Int) : 0 < shA k e := Nat.mul_pos (Nat.pow_pos (by omega)) (Nat.two_pow_pos _)
theorem shB_pos (k e : Int) : 0 < shB k e := Nat.mul_pos (Nat.two_pow_pos _) (Nat.pow_pos (by omega))
theorem cpA_eq (a : Nat) (k e : Int) : cpA a k e = a * shA k e := by unfold cpA shA; rw [Nat.mul_assoc]
theorem cpB_eq (b : Nat) (k e : Int) : cpB b k e = b * shB k e := by unfold cpB shB; rw [Nat.mul_assoc]
theorem ft_iff (n L H : Nat) (k e : Int) (ev : Bool) : ftB n L H k e ev = true ↔ (L * shB k e < n * shA k e ∧ n * shA k e < H * shB k e) ∨ (ev = true ∧ (n * shA k e = L * shB k e ∨ n * shA k e = H * shB k e)) := by
  unfold ftB ftLo
  rw [cpA_eq, cpB_eq, cpB_eq, Bool.or_eq_true, Bool.and_eq_true, Bool.and_eq_true, Bool.or_eq_true, decide_eq_true_eq, decide_eq_true_eq, beq_iff_eq, beq_iff_eq, sg_pos, sg_neg, sg_nul, sg_nul]
/-- a number and its parts -/
theorem parts_eq {x : Int} (x0 : 0 ≤ x) (x1 : x ≤ 18446744073709551615) : fabs x = fexp x * 4503599627370496 + ffr x := by unfold fabs fexp ffr; omega
theorem lm_mag {x : Int} (x0 : 0 ≤ x) (x1 : x ≤ 18446744073709551615) : mag (fabs x).toNat = lmM x * 2 ^ ((fexp x).toNat - 1) ∧ ulp (fabs x).toNat = 2 ^ ((fexp x).toNat - 1) ∧ lmE x + 1076 = (((fexp x).toNat - 1 : Nat) : Int) := by
  have hp := parts_eq x0 x1
  have hf := ffr_bd x
  have he := fexp_bd x
  unfold lmM lmE
  generalize fexp x = e at *
  generalize ffr x = f at *
  generalize fabs x = a at *
  subst hp
  refine ⟨?_, ?_, by omega⟩
  · by_cases h : 0 < e
    · rw [if_pos h]
      have := mag_of (f + 4503599627370496).toNat (e.toNat - 1) (Or.inl (by omega)) (by omega)
      rw [← this]
      congr 1
      omega
    · rw [if_neg h]
      have := mag_of f.toNat 0 (Or.inr rfl) (by omega)
      rw [show e.toNat - 1 = 0 by omega, ← this]
      congr 1
      omega
  · unfold ulp
    congr 2
    omega
theorem lm_ulp {x : Int} (x0 : 0 ≤ x) (x1 : x ≤ 18446744073709551615) (hx : 1 ≤ fabs x) :
    4 * ulp ((fabs x).toNat - 1) * 2 = 4 * (4 * lmM x - lmL x) * 2 ^ ((fexp x).toNat - 1) ∧ 1 ≤ lmM x := by
  have hp := parts_eq x0 x1
  have hf := ffr_bd x
  have he := fexp_bd x
  have hm1 : 1 ≤ lmM x := by unfold lmM; split <;> omega
  refine ⟨?_, hm1⟩
  unfold lmL
  have hM : (4 * lmM x - (if ffr x = 0 ∧ 1 < fexp x then 4 * lmM x - 1 else 4 * lmM x - 2)) = if ffr x = 0 ∧ 1 < fexp x then 1 else 2 := by split <;> omega
  rw [hM]
  clear hM hm1
  generalize fexp x = e at *
  generalize ffr x = f at *
  generalize fabs x = a at *
  subst hp
  unfold ulp
  by_cases h : f = 0 ∧ 1 < e
  · obtain ⟨rfl, h2⟩ := h
    rw [if_pos ⟨rfl, h2⟩, show ((e * 4503599627370496 + 0).toNat - 1) / 4503599627370496 - 1 = e.toNat - 2 by omega, show e.toNat - 1 = (e.toNat - 2) + 1 by omega, Nat.pow_succ]
    omega
  · rw [if_neg h, show ((e * 4503599627370496 + f).toNat - 1) / 4503599627370496 - 1 = e.toNat - 1 by omega]
    omega
/-- what fits is read as it -/
theorem fits_rat {x : Int} (x0 : 0 ≤ x) (x1 : x ≤ 18446744073709551615) (hv : hasV x = true) (hx : 1 ≤ fabs x) (N : Nat) (K : Int) :
    ftB N (lmL x) (4 * lmM x + 2) K (lmE x) (decide (ffr x % 2 = 0)) = true ↔ rat 2 (rdA N K) (rdB K) = (fabs x).toNat := by
  have hMR : MR = 9218868437227405312 := rfl
  have hlt : (fabs x).toNat < MR := by unfold hasV at hv; rw [decide_eq_true_eq] at hv; omega
  obtain ⟨m1, m2, m3⟩ := lm_mag x0 x1
  obtain ⟨m4, m5⟩ := lm_ulp x0 x1 hx
  have s1 := mag_succ (fabs x).toNat
  have s2 := mag_succ ((fabs x).toNat - 1)
  rw [show (fabs x).toNat - 1 + 1 = (fabs x).toNat by omega] at s2
  rw [rat2_iff (rdB_pos K) hlt, ft_iff]
  have hpar : (fabs x).toNat % 2 = 0 ↔ ffr x % 2 = 0 := by have := parts_eq x0 x1; omega
  have hL : lmL x ≤ 4 * lmM x := by unfold lmL; split <;> omega
  rw [decide_eq_true_eq, hpar]
  -- all in one unit
  obtain ⟨g, hg⟩ : ∃ g, g = (fexp x).toNat - 1 := ⟨_, rfl⟩
  rw [← hg] at m1 m2 m3 m4
  have hr0 : ¬ (fabs x).toNat = 0 := by omega
  have eL : 2 * (mag ((fabs x).toNat - 1) + mag (fabs x).toNat) = lmL x * 2 ^ g := by
    have e1 : 4 * (4 * lmM x - lmL x) * 2 ^ g = 4 * (4 * (lmM x * 2 ^ g)) - 4 * (lmL x * 2 ^ g) := by
      rw [Nat.mul_assoc, Nat.sub_mul, Nat.mul_sub, Nat.mul_assoc 4 (lmM x)]
    have e2 : lmL x * 2 ^ g ≤ 4 * (lmM x * 2 ^ g) := by rw [← Nat.mul_assoc]; exact Nat.mul_le_mul_right _ hL
    rw [e1] at m4
    rw [m1] at s2
    omega
  have eH : 2 * (mag (fabs x).toNat + mag ((fabs x).toNat + 1)) = (4 * lmM x + 2) * 2 ^ g := by
    rw [s1, m1, m2, Nat.add_mul, Nat.mul_assoc]; omega
  have hLH : lmL x < 4 * lmM x + 2 := by omega
  have hu := u74_pos
  have hVS : 0 < 2 ^ (lmE x).toNat * 10 ^ (-K).toNat := Nat.mul_pos (Nat.two_pow_pos _) (Nat.pow_pos (by omega))
  unfold rdA rdB shA shB
  generalize mag ((fabs x).toNat - 1) + mag (fabs x).toNat = l at *
  generalize mag (fabs x).toNat + mag ((fabs x).toNat + 1) = h at *
  generalize lmL x = L at *
  generalize 4 * lmM x + 2 = H at *
  generalize lmE x = E at *
  have hU : 2 ^ g * 2 ^ (-E).toNat = 4 * u74 * 2 ^ E.toNat := by
    have h22 : (2 : Nat) ^ 2 = 4 := rfl
    have h4 : 4 * u74 = 2 ^ (K74 + 2) := by rw [u74, Nat.pow_add, h22, Nat.mul_comm]
    rw [h4, ← Nat.pow_add, ← Nat.pow_add]
    have hK : K74 = 1074 := rfl
    have hq : g + (-E).toNat = K74 + 2 + E.toNat := by omega
    rw [hq]
  have hW := Nat.two_pow_pos (-E).toNat
  have hG := Nat.two_pow_pos g
  generalize (10 : Nat) ^ K.toNat = T at *
  generalize (10 : Nat) ^ (-K).toNat = S at *
  generalize (2 : Nat) ^ E.toNat = V at *
  generalize (2 : Nat) ^ (-E).toNat = W at *
  generalize (2 : Nat) ^ g = G at *
  generalize u74 = U at *
  -- l S against 2 N T U: times 2 W
  have c1 : l * S * (2 * W) = L * (V * S) * (4 * U) := by
    calc l * S * (2 * W) = (2 * l) * S * W := by ac_rfl
      _ = L * G * S * W := by rw [eL]
      _ = L * S * (G * W) := by ac_rfl
      _ = L * S * (4 * U * V) := by rw [hU]
      _ = _ := by ac_rfl
  have c2 : h * S * (2 * W) = H * (V * S) * (4 * U) := by
    calc h * S * (2 * W) = (2 * h) * S * W := by ac_rfl
      _ = H * G * S * W := by rw [eH]
      _ = H * S * (G * W) := by ac_rfl
      _ = H * S * (4 * U * V) := by rw [hU]
      _ = _ := by ac_rfl
  have c3 : 2 * (N * T * U) * (2 * W) = N * (T * W) * (4 * U) := by
    calc 2 * (N * T * U) * (2 * W) = (2 * 2) * (N * (T * W) * U) := by ac_rfl
      _ = 4 * (N * (T * W) * U) := rfl
      _ = _ := by ac_rfl
  have hU0 : 0 < 4 * U := by omega
  have h2W : 0 < 2 * W := by omega
  have lt1 : l * S < 2 * (N * T * U) ↔ L * (V * S) < N * (T * W) := by
    rw [← Nat.mul_lt_mul_right h2W, c1, c3, Nat.mul_lt_mul_right hU0]
  have eq1 : l * S = 2 * (N * T * U) ↔ L * (V * S) = N * (T * W) := by
    rw [← Nat.mul_left_inj (show 2 * W ≠ 0 by omega), c1, c3, Nat.mul_left_inj (by omega)]
  have lt2 : 2 * (N * T * U) < h * S ↔ N * (T * W) < H * (V * S) := by
    rw [← Nat.mul_lt_mul_right h2W, c2, c3, Nat.mul_lt_mul_right hU0]
  have eq2 : 2 * (N * T * U) = h * S ↔ N * (T * W) = H * (V * S) := by
    rw [← Nat.mul_left_inj (show 2 * W ≠ 0 by omega), c2, c3, Nat.mul_left_inj (by omega)]
  rw [lt1, eq1, lt2, eq2]
  have hy := Nat.mul_lt_mul_of_pos_right hLH hVS
  generalize L * (V * S) = y1 at *
  generalize N * (T * W) = y2 at *
  generalize H * (V * S) = y3 at *
  generalize (ffr x % 2 = 0) = ev at *
  constructor
  · rintro (⟨h1, h2⟩ | ⟨h1, h2 | h2⟩)
    · exact ⟨Or.inr (Or.inl h1), Or.inl h2⟩
    · exact ⟨Or.inr (Or.inr ⟨h2.symm, h1⟩), Or.inl (by omega)⟩
    · exact ⟨Or.inr (Or.inl (by omega)), Or.inr ⟨h2, h1⟩⟩
  · rintro ⟨h1 | h1 | ⟨h1, h3⟩, h2 | ⟨h2, h4⟩⟩
    · exact absurd h1 hr0
    · exact absurd h1 hr0
    · exact Or.inl ⟨h1, h2⟩
    · exact Or.inr ⟨h4, Or.inr h2⟩
    · exact Or.inr ⟨h3, Or.inl h1.symm⟩
    · exact Or.inr ⟨h3, Or.inl h1.symm⟩
end Go.Proofs.YtofdjfdnckmmmaaGreatDoor

/-
  PLAIN: the fewest digits: where the search stops, and what stands there.
-/
namespace Go.Proofs.YtofdjfdnckmmmaaGreatDoor
open Nt Fm Fl

theorem sh_norm_up (g : Bool) (m : Nat) (x : Int) : norm g (4 * m) (x - 2) = norm g m x := by
  have h1 : 0 ≤ x - 2 + ((((-x).toNat + 2 : Nat)) : Int) := by omega
  generalize ((-x).toNat + 2 : Nat) = T at *
  refine nf_inj (norm_nf _ _ _) (norm_nf _ _ _) (norm_eT h1) (norm_eT (by omega)) ?_
  rw [norm_vl _ _ _ _ h1, norm_vl _ _ _ _ (by omega)]
  unfold D.vl D.sm
  simp only
  rw [show (x + (T : Int)).toNat = 2 + (x - 2 + (T : Int)).toNat by omega, Int.pow_add, ← Int.mul_assoc]
  congr 1
  cases g <;> simp <;> omega
theorem sh_norm_me (a b : Bool) (m : Nat) (e : Int) : (norm a m e).m = (norm b m e).m ∧ (norm a m e).e = (norm b m e).e := by
  unfold norm; split <;> exact ⟨rfl, rfl⟩
/-- the size of a number -/
def shD (x : Int) : D := norm false (4 * lmM x) (lmE x)
theorem shD_eq (x : Int) : (shD x).m = (valD x).m ∧ (shD x).e = (valD x).e := by
  unfold shD valD lmE
  rw [show max (fexp x) 1 - 1077 = max (fexp x) 1 - 1075 - 2 by omega, sh_norm_up]
  exact sh_norm_me _ _ _ _
theorem shD_dN (x t : Int) : dN (shD x) t = dN (valD x) t ∧ dD (shD x) t = dD (valD x) t := by
  obtain ⟨h1, h2⟩ := shD_eq x
  unfold dN dD
  rw [h1, h2]
  exact ⟨rfl, rfl⟩
theorem shD_lg (x : Int) : lgD (shD x) = lgD (valD x) := by
  unfold lgD
  congr 1
  funext p
  unfold IsLg
  rw [(shD_dN x _).1, (shD_dN x _).1, (shD_dN x _).2, (shD_dN x _).2]
theorem shD_mid {x : Int} (x0 : 0 ≤ x) (x1 : x ≤ 18446744073709551615) (hx : 1 ≤ fabs x) : Mid (shD x) ∧ Mid (valD x) := by
  obtain ⟨h1, h2⟩ := shD_eq x
  have hm := (lm_ulp x0 x1 hx).2
  have h0 : (shD x).m ≠ 0 := by
    unfold shD norm
    rw [if_neg (by omega)]
    obtain ⟨q, g1, g2⟩ := ctz_spec (show 4 * lmM x ≠ 0 by omega)
    have : 4 * lmM x / 2 ^ ctz (4 * lmM x) = q := by
      conv => lhs; lhs; rw [g1]
      exact Nat.mul_div_cancel _ (Nat.two_pow_pos _)
    show 4 * lmM x / 2 ^ ctz (4 * lmM x) ≠ 0
    rw [this]; omega
  rcases val_mid x0 x1 with h | h
  · rw [← h1] at h; exact absurd h h0
  · exact ⟨⟨h0, by rw [h1]; exact h.m1, by rw [h2]; exact h.e0, by rw [h2]; exact h.e1⟩, h⟩
/-- the quotient's both sides, by the limits' unit -/
theorem sh_cross (x K : Int) (hm : 1 ≤ lmM x) : dN (shD x) (-K) * shA K (lmE x) = 4 * lmM x * shB K (lmE x) * dD (shD x) (-K) := by
  obtain ⟨q, g1, g2⟩ := ctz_spec (show 4 * lmM x ≠ 0 by omega)
  have hdiv : 4 * lmM x / 2 ^ ctz (4 * lmM x) = q := by
    conv => lhs; lhs; rw [g1]
    exact Nat.mul_div_cancel _ (Nat.two_pow_pos _)
  have e1 : (shD x).m = q ∧ (shD x).e = lmE x + ctz (4 * lmM x) := by
    unfold shD norm
    rw [if_neg (by omega)]
    exact ⟨hdiv, rfl⟩
  unfold dN dD shA shB
  rw [e1.1, e1.2, Int.neg_neg]
  generalize lmE x = E at *
  generalize ctz (4 * lmM x) = z at *
  rw [g1]
  have hz : 2 ^ (E + (z : Int)).toNat * 2 ^ (-E).toNat = 2 ^ z * 2 ^ E.toNat * 2 ^ (-(E + (z : Int))).toNat := by
    rw [← Nat.pow_add, ← Nat.pow_add, ← Nat.pow_add]; congr 1; omega
  calc q * 10 ^ (-K).toNat * 2 ^ (E + (z : Int)).toNat * (10 ^ K.toNat * 2 ^ (-E).toNat) = q * 10 ^ (-K).toNat * 10 ^ K.toNat * (2 ^ (E + (z : Int)).toNat * 2 ^ (-E).toNat) := by ac_rfl
    _ = q * 10 ^ (-K).toNat * 10 ^ K.toNat * (2 ^ z * 2 ^ E.toNat * 2 ^ (-(E + (z : Int))).toNat) := by rw [hz]
    _ = _ := by ac_rfl
/-- the digits' number at n of them -/
noncomputable def shK (x : Int) (n : Nat) : Int := lgD (shD x) + 1 - n
noncomputable def shQ (x : Int) (n : Nat) : Nat := dN (shD x) (-shK x n) / dD (shD x) (-shK x n)
theorem shQ_bd (x : Int) (n : Nat) (hm : 1 ≤ lmM x) : shQ x n * shA (shK x n) (lmE x) ≤ 4 * lmM x * shB (shK x n) (lmE x) ∧ 4 * lmM x * shB (shK x n) (lmE x) < (shQ x n + 1) * shA (shK x n) (lmE x) := by
  have hc := sh_cross x (shK x n) hm
  have hp := dD_pos (shD x) (-shK x n)
  have hA := shA_pos (shK x n) (lmE x)
  have h1 := Nat.div_mul_le_self (dN (shD x) (-shK x n)) (dD (shD x) (-shK x n))
  have h2 := Nat.lt_div_mul_add hp (a := dN (shD x) (-shK x n))
  have hQ : shQ x n = dN (shD x) (-shK x n) / dD (shD x) (-shK x n) := rfl
  rw [← hQ] at h1 h2
  generalize shQ x n = Q at *
  generalize dN (shD x) (-shK x n) = N at *
  generalize dD (shD x) (-shK x n) = D at *
  generalize shA (shK x n) (lmE x) = α at *
  generalize 4 * lmM x * shB (shK x n) (lmE x) = s at *
  constructor
  · apply Nat.le_of_mul_le_mul_right _ hp
    rw [← hc]
    calc Q * α * D = Q * D * α := by ac_rfl
      _ ≤ N * α := Nat.mul_le_mul_right _ h1
  · apply Nat.lt_of_mul_lt_mul_right (a := D)
    rw [← hc]
    calc N * α < (Q * D + D) * α := Nat.mul_lt_mul_of_pos_right h2 hA
      _ = (Q + 1) * α * D := by rw [Nat.add_mul Q 1 α, Nat.one_mul, Nat.add_mul, Nat.add_mul]; congr 1 <;> ac_rfl
theorem shQ_ten {x : Int} (x0 : 0 ≤ x) (x1 : x ≤ 18446744073709551615) (hx : 1 ≤ fabs x) (n : Nat) (hn : 1 ≤ n) : 10 ^ (n - 1) ≤ shQ x n ∧ shQ x n < 10 ^ n := by
  have hl := mid_lg (shD_mid x0 x1 hx).1
  have h1 := lg_ge hl (n - 1)
  have h2 := lg_lt hl n
  have hp := dD_pos (shD x) (-shK x n)
  unfold shQ
  unfold shK at hp ⊢
  rw [show -lgD (shD x) + ((n - 1 : Nat) : Int) = -(lgD (shD x) + 1 - (n : Int)) by omega] at h1
  rw [show -(lgD (shD x) + 1) + (n : Int) = -(lgD (shD x) + 1 - (n : Int)) by omega] at h2
  exact ⟨(Nat.le_div_iff_mul_le hp).2 h1, (Nat.div_lt_iff_lt_mul hp).2 h2⟩
def shEv (x : Int) : Bool := decide (ffr x % 2 = 0)
noncomputable def shFa (x : Int) (n : Nat) : Bool := ftB (shQ x n) (lmL x) (4 * lmM x + 2) (shK x n) (lmE x) (shEv x)
noncomputable def shFc (x : Int) (n : Nat) : Bool := ftB (shQ x n + 1) (lmL x) (4 * lmM x + 2) (shK x n) (lmE x) (shEv x)
noncomputable def shSt (x : Int) (n : Nat) : Bool := shFa x n || shFc x n
/-- seventeen are enough -/
theorem stop17 {x : Int} (x0 : 0 ≤ x) (x1 : x ≤ 18446744073709551615) (hx : 1 ≤ fabs x) : shSt x 17 = true := by
  have hm := (lm_ulp x0 x1 hx).2
  obtain ⟨b1, b2⟩ := shQ_bd x 17 hm
  obtain ⟨t1, t2⟩ := shQ_ten x0 x1 hx 17 (by omega)
  have hB := shB_pos (shK x 17) (lmE x)
  have hf := ffr_bd x
  have hM : lmM x < 9007199254740992 ∧ (ffr x = 0 ∧ 1 < fexp x → lmM x = 4503599627370496) := by unfold lmM; constructor; (split <;> omega); (rintro ⟨h1, h2⟩; rw [if_pos (by omega)]; omega)
  have hL : (lmL x = 4 * lmM x - 2 ∨ (lmL x = 4 * lmM x - 1 ∧ lmM x = 4503599627370496)) := by
    unfold lmL
    split
    · rename_i h; exact Or.inr ⟨rfl, hM.2 h⟩
    · exact Or.inl rfl
  have e16 : (10 : Nat) ^ (17 - 1) = 10000000000000000 := by decide
  rw [e16] at t1
  have key : 10000000000000000 * shA (shK x 17) (lmE x) ≤ 4 * lmM x * shB (shK x 17) (lmE x) := Nat.le_trans (Nat.mul_le_mul_right _ t1) b1
  unfold shSt
  rw [Bool.or_eq_true]
  unfold shFa shFc
  rw [ft_iff, ft_iff]
  rw [Nat.add_mul (shQ x 17) 1, Nat.one_mul] at b2 ⊢
  rw [Nat.mul_assoc] at b1 b2 key
  rw [Nat.add_mul (4 * lmM x) 2, Nat.mul_assoc 4 (lmM x)]
  have hLb : lmL x * shB (shK x 17) (lmE x) + 2 * shB (shK x 17) (lmE x) = 4 * (lmM x * shB (shK x 17) (lmE x)) ∨ (lmL x * shB (shK x 17) (lmE x) + shB (shK x 17) (lmE x) = 4 * (lmM x * shB (shK x 17) (lmE x)) ∧ lmM x = 4503599627370496) := by
    rcases hL with h | ⟨h, h2⟩
    · left
      rw [← Nat.add_mul, show lmL x + 2 = 4 * lmM x by omega, Nat.mul_assoc]
    · right
      refine ⟨?_, h2⟩
      have : lmL x * shB (shK x 17) (lmE x) + 1 * shB (shK x 17) (lmE x) = 4 * (lmM x * shB (shK x 17) (lmE x)) := by
        rw [← Nat.add_mul, show lmL x + 1 = 4 * lmM x by omega, Nat.mul_assoc]
      omega
  have hMb : lmM x * shB (shK x 17) (lmE x) ≤ 9007199254740991 * shB (shK x 17) (lmE x) := Nat.mul_le_mul_right _ (by omega)
  have hMb2 : lmM x = 4503599627370496 → lmM x * shB (shK x 17) (lmE x) = 4503599627370496 * shB (shK x 17) (lmE x) := fun h => by rw [h]
  generalize lmM x * shB (shK x 17) (lmE x) = s at *
  generalize lmL x * shB (shK x 17) (lmE x) = l at *
  generalize shQ x 17 * shA (shK x 17) (lmE x) = q at *
  generalize shA (shK x 17) (lmE x) = α at *
  generalize shB (shK x 17) (lmE x) = β at *
  rcases hLb with h | ⟨h, h2⟩
  · by_cases g : l < q
    · left; left; omega
    · right; left; omega
  · have h3 := hMb2 h2
    by_cases g : l < q
    · left; left; omega
    · right; left; omega
/-- the first one of so many -/
def firstN (f : Nat → Bool) : Nat → Nat → Nat
  | 0, n => n
  | k + 1, n => if f n = true then n else firstN f k (n + 1)
theorem firstN_spec (f : Nat → Bool) : ∀ (k n : Nat), (∃ j, n ≤ j ∧ j ≤ n + k ∧ f j = true) → f (firstN f k n) = true ∧ n ≤ firstN f k n ∧ firstN f k n ≤ n + k ∧ ∀ i, n ≤ i → i < firstN f k n → f i = false
  | 0, n, ⟨j, h1, h2, h3⟩ => by
    obtain rfl : j = n := by omega
    exact ⟨h3, Nat.le_refl _, Nat.le_refl _, fun i hi hj => by unfold firstN at hj; omega⟩
  | k + 1, n, ⟨j, h1, h2, h3⟩ => by
    unfold firstN
    by_cases h : f n = true
    · rw [if_pos h]; exact ⟨h, Nat.le_refl _, by omega, fun i hi hj => by omega⟩
    · rw [if_neg h]
      have hj : n + 1 ≤ j := by
        rcases Nat.lt_or_ge n j with g | g
        · exact g
        · exact absurd (show f n = true by rw [show n = j by omega]; exact h3) h
      obtain ⟨a1, a2, a3, a4⟩ := firstN_spec f k (n + 1) ⟨j, hj, by omega, h3⟩
      refine ⟨a1, by omega, by omega, fun i hi hlt => ?_⟩
      rcases Nat.lt_or_ge n i with g | g
      · exact a4 i g hlt
      · obtain rfl : i = n := by omega
        cases h5 : f i
        · rfl
        · exact absurd h5 h
noncomputable def shN (x : Int) : Nat := firstN (shSt x) 16 1
theorem shN_spec {x : Int} (x0 : 0 ≤ x) (x1 : x ≤ 18446744073709551615) (hx : 1 ≤ fabs x) : shSt x (shN x) = true ∧ 1 ≤ shN x ∧ shN x ≤ 17 ∧ ∀ i, 1 ≤ i → i < shN x → shSt x i = false := by
  obtain ⟨a1, a2, a3, a4⟩ := firstN_spec (shSt x) 16 1 ⟨17, by omega, by omega, stop17 x0 x1 hx⟩
  exact ⟨a1, a2, by unfold shN; omega, a4⟩
/-- the text of the digits, cut off -/
theorem dgT_cut {x : Int} (x0 : 0 ≤ x) (x1 : x ≤ 18446744073709551615) (hx : 1 ≤ fabs x) {n : Nat} (hn : 1 ≤ n) : dgT (shD x) n 3 = Lib.decDigits (shQ x n) := by
  obtain ⟨t1, t2⟩ := shQ_ten x0 x1 hx n hn
  have hQ : dgQ (shD x) n 3 = shQ x n := by
    unfold dgQ dQ shQ shK rq
    rw [show (n : Int) - 1 - lgD (shD x) = -(lgD (shD x) + 1 - (n : Int)) by omega]
    have hu : ∀ (neg odd : Bool) (h : Int), upB neg odd h 3 = false := fun neg odd h => by unfold upB; simp
    rw [hu]
    simp
  unfold dgT
  rw [if_neg (shD_mid x0 x1 hx).1.m0, hQ]
  have hl : (Lib.decDigits (shQ x n)).length ≤ n := by
    refine Nat.not_lt.1 fun h => ?_
    have h1 := dec_dgt (shQ x n)
    obtain ⟨c, l, e1, e2⟩ := dec_head (shQ x n) (by have := Nat.pow_pos (n := n - 1) (show 0 < 10 by omega); omega)
    have h3 := dcN_dec (shQ x n)
    have h4 := dcN_two l (c.toNat - 48)
    have h5 : dcN 0 (c :: l) = dcN (0 * 10 + (c.toNat - 48)) l := rfl
    have hc := h1 c (by rw [e1]; exact List.mem_cons_self ..)
    unfold dgt at hc
    have hne : c.toNat ≠ 48 := fun h => e2 (UInt8.toNat_inj.1 (by rw [h]; rfl))
    rw [e1, h5, Nat.zero_mul, Nat.zero_add, h4] at h3
    rw [e1, List.length_cons] at h
    have h6 : 10 ^ n ≤ 10 ^ l.length := Nat.pow_le_pow_right (by omega) (by omega)
    have h7 : 1 * 10 ^ l.length ≤ (c.toNat - 48) * 10 ^ l.length := Nat.mul_le_mul_right _ (by omega)
    omega
  unfold dgS
  rw [if_neg (by omega)]
/-- is the greater one taken? -/
noncomputable def shHf (x : Int) (n : Nat) : Int := sgn2 (cpA (shQ x n + (shQ x n + 1)) (shK x n) (lmE x + 1)) (cpB (4 * lmM x) (shK x n) (lmE x + 1))
noncomputable def shC (x : Int) (n : Nat) : Bool := if shFa x n = true ∧ shFc x n = true then (decide (shHf x n < 0) || (shHf x n == 0 && decide (shQ x n % 2 = 1))) else shFc x n
noncomputable def shRr (x : Int) : Nat := if shC x (shN x) = true then shQ x (shN x) + 1 else shQ x (shN x)
noncomputable def shS (x : Int) : List UInt8 := Lib.decDigits (shRr x)
/-- the digits, the exponent -/
noncomputable def shT (x : Int) : List UInt8 := Lib.trimRightB (shS x) 48
noncomputable def shX (x : Int) : Int := shK x (shN x) + ((shS x).length : Int) - ((shT x).length : Int)
theorem shN_eq {x : Int} (x0 : 0 ≤ x) (x1 : x ≤ 18446744073709551615) (hx : 1 ≤ fabs x) {n : Nat} (h1 : 1 ≤ n) (h : shSt x n = true) (hi : ∀ i, 1 ≤ i → i < n → shSt x i = false) : shN x = n := by
  obtain ⟨a1, a2, a3, a4⟩ := shN_spec x0 x1 hx
  rcases Nat.lt_trichotomy (shN x) n with g | g | g
  · have := hi _ a2 g
    rw [a1] at this; exact absurd this (by decide)
  · exact g
  · have := a4 n h1 g
    rw [h] at this; exact absurd this (by decide)
/-- what stands at the end -/
theorem sh_end {x : Int} (x0 : 0 ≤ x) (x1 : x ≤ 18446744073709551615) (hx : 1 ≤ fabs x) {n : Nat} (h1 : 1 ≤ n) (h : shSt x n = true) (hi : ∀ i, 1 ≤ i → i < n → shSt x i = false) {b : Bool} (hc : shC x n = b) :
    shT x = Lib.trimRightB (Lib.decDigits (if b = true then shQ x n + 1 else shQ x n)) 48 ∧ shX x = shK x n + ((Lib.decDigits (if b = true then shQ x n + 1 else shQ x n)).length : Int) - ((shT x).length : Int) := by
  have hn := shN_eq x0 x1 hx h1 h hi
  have e : shS x = Lib.decDigits (if b = true then shQ x n + 1 else shQ x n) := by
    unfold shS shRr
    rw [hn, hc]
  refine ⟨by unfold shT; rw [e], ?_⟩
  unfold shX
  rw [hn, e]
end Go.Proofs.YtofdjfdnckmmmaaGreatDoor
