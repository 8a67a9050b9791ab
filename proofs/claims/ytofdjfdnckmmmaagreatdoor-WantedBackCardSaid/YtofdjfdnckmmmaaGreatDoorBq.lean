/-
  SOME OF MY TEXTS in one: Qt Qr Qn. Each says what it proves.
-/
import Derived.Test.YtofdjfdnckmmmaaGreatDoorBa
set_option linter.unusedVariables false
set_option linter.unusedSimpArgs false
/-
  PLAIN: rounding what lies at a cut (a quotient, a root), by its whole part and a mark of what is lost. No Go here.
-/
namespace Go.Proofs.YtofdjfdnckmmmaaGreatDoor.Fm

/-- a place among the numbers: le M: M is no more than twice of it; lt M: less -/
structure Cut (le lt : Nat → Prop) : Prop where
  down : ∀ M N, M ≤ N → le N → le M
  less : ∀ M N, M < N → le N → lt M
  weak : ∀ M, lt M → le M
theorem Cut.ltdown {le lt : Nat → Prop} (c : Cut le lt) {M N : Nat} (h : M ≤ N) (hl : lt N) : lt M := by
  rcases Nat.lt_or_ge M N with h1 | h1
  · exact c.less M N h1 (c.weak _ hl)
  · rw [show M = N by omega]; exact hl
/-- 'n ≤ the rounded one' at a cut -/
def PkC (k w : Nat) (le lt : Nat → Prop) (n : Nat) : Prop :=
  match k with
  | 0 => n ≤ MR - 1 ∧ le (2 * (mag n * w))
  | 1 => n ≤ MR ∧ (n = 0 ∨ lt (2 * (mag (n - 1) * w)))
  | 2 => n ≤ MR ∧ (n = 0 ∨ lt ((mag (n - 1) + mag n) * w) ∨ (le ((mag (n - 1) + mag n) * w) ∧ n % 2 = 0))
  | _ => n ≤ MR ∧ (n = 0 ∨ le ((mag (n - 1) + mag n) * w))
theorem PkC_imp {le lt le' lt' : Nat → Prop} {w r : Nat} (hw : 0 < w) (c : Cut le lt) (c' : Cut le' lt') (hr' : le' (2 * (mag r * w)))
    (hn : ¬ le (2 * (mag (r + 1) * w)))
    (h1 : lt (2 * (mag r * w)) → lt' (2 * (mag r * w))) (h2 : lt ((mag r + mag (r + 1)) * w) → lt' ((mag r + mag (r + 1)) * w)) (h3 : le ((mag r + mag (r + 1)) * w) → le' ((mag r + mag (r + 1)) * w))
    (k n : Nat) (h : PkC k w le lt n) : PkC k w le' lt' n := by
  have mono : ∀ {x y : Nat}, x ≤ y → mag x * w ≤ mag y * w := fun h => Nat.mul_le_mul_right _ (mag_mono h)
  have smono : ∀ {x y : Nat}, x < y → mag x * w < mag y * w := fun h => Nat.mul_lt_mul_of_pos_right (mag_lt h) hw
  rcases Nat.lt_trichotomy n (r + 1) with hlt | heq | hgt
  · have a1 := mono (show n ≤ r by omega)
    have a2 : n ≠ 0 → mag (n - 1) * w < mag n * w := fun h => smono (by omega)
    have a3 : n ≠ 0 → lt' ((mag (n - 1) + mag n) * w) := fun h0 => c'.less _ _ (by rw [Nat.add_mul]; have := a2 h0; omega) hr'
    rcases k with _ | _ | _ | k
    · exact ⟨h.1, c'.down _ _ (by omega) hr'⟩
    · refine ⟨h.1, ?_⟩
      by_cases h0 : n = 0
      · exact Or.inl h0
      · exact Or.inr (c'.less _ _ (by have := a2 h0; omega) hr')
    · refine ⟨h.1, ?_⟩
      by_cases h0 : n = 0
      · exact Or.inl h0
      · exact Or.inr (Or.inl (a3 h0))
    · refine ⟨h.1, ?_⟩
      by_cases h0 : n = 0
      · exact Or.inl h0
      · exact Or.inr (c'.weak _ (a3 h0))
  · subst heq
    have e : r + 1 - 1 = r := by omega
    rcases k with _ | _ | _ | k
    · exact absurd h.2 hn
    · refine ⟨h.1, Or.inr ?_⟩
      have := h.2; rw [e] at this ⊢
      rcases this with h0 | h0
      · omega
      · exact h1 h0
    · refine ⟨h.1, Or.inr ?_⟩
      have := h.2; rw [e] at this ⊢
      rcases this with h0 | h0 | ⟨h0, h4⟩
      · omega
      · exact Or.inl (h2 h0)
      · exact Or.inr ⟨h3 h0, h4⟩
    · refine ⟨h.1, Or.inr ?_⟩
      have := h.2; rw [e] at this ⊢
      rcases this with h0 | h0
      · omega
      · exact h3 h0
  · exfalso
    have b1 := mono (show r + 1 ≤ n - 1 by omega)
    have b2 := smono (show n - 1 < n by omega)
    have b3 : ¬ le ((mag (n - 1) + mag n) * w) := fun hc => hn (c.down _ _ (by rw [Nat.add_mul]; omega) hc)
    rcases k with _ | _ | _ | k
    · exact hn (c.down _ _ (by omega) h.2)
    · rcases h.2 with h0 | h0
      · omega
      · exact hn (c.down _ _ (by omega) (c.weak _ h0))
    · rcases h.2 with h0 | h0 | ⟨h0, h4⟩
      · omega
      · exact b3 (c.weak _ h0)
      · exact b3 h0
    · rcases h.2 with h0 | h0
      · omega
      · exact b3 h0
theorem cut_tt (T : Nat) : Cut (fun M => M ≤ 2 * T) (fun M => M < 2 * T) :=
  ⟨fun M N h1 h2 => Nat.le_trans h1 h2, fun M N h1 h2 => Nat.lt_of_lt_of_le h1 h2, fun M h => Nat.le_of_lt h⟩
theorem PkC_tt (k t T n : Nat) : PkC k (2 ^ t) (fun M => M ≤ 2 * T) (fun M => M < 2 * T) n ↔ Pk k t T n := by
  rcases k with _ | _ | _ | k <;> simp only [PkC, Pk] <;> omega
/-- rounding by the whole part and a mark -/
theorem sticky_num {q s : Nat} (hs : s ≤ 1) (hq : 2 ^ 60 ≤ q) {E : Int} {t : Nat} (ht : 0 ≤ E - 2 + 1074 + t) {le lt : Nat → Prop} (c : Cut le lt) (U : Nat) (hU : U = 2 ^ (E + 1074 + t).toNat)
    (h1 : ∀ I, le (2 * (I * U)) ↔ I ≤ q) (h2 : ∀ I, lt (2 * (I * U)) ↔ 4 * I < 4 * q + s) (k n : Nat) :
    (n ≤ numk k (4 * q + s) (E - 2) ↔ PkC k (2 ^ t) le lt n) ∧ (chg (4 * q + s) (E - 2) = false ↔ ∃ r, r < MR ∧ le (2 * (mag r * 2 ^ t)) ∧ ¬ lt (2 * (mag r * 2 ^ t))) := by
  have hm : 4 * q + s ≠ 0 := by have := Nat.two_pow_pos 60; omega
  have f1 := floor_le hm ht
  have f2 := lt_succ hm ht
  have hw := Nat.two_pow_pos t
  -- the places beside it are whole
  obtain ⟨V, hV⟩ : ∃ V, V = 2 ^ (E - 2 + 1074 + t).toNat := ⟨_, rfl⟩
  have hUV : U = 4 * V := by
    rw [hU, hV, show (E + 1074 + (t : Int)).toNat = (E - 2 + 1074 + t).toNat + 2 by omega, Nat.pow_add]; omega
  have hVp : 0 < V := by rw [hV]; exact Nat.two_pow_pos _
  have hT : tt t (4 * q + s) (E - 2) = (4 * q + s) * V := by unfold tt; rw [hV]
  have hbl : 62 ≤ bl (4 * q + s) := by
    have a := bl_lt (4 * q + s)
    have : 2 ^ 61 < 2 ^ bl (4 * q + s) := by
      have e : (2 : Nat) ^ 61 = 2 * 2 ^ 60 := by decide
      omega
    exact (Nat.pow_lt_pow_iff_right (by decide : 1 < 2)).1 this
  have hss : 9 ≤ ss (4 * q + s) (E - 2) := by unfold ss kk; omega
  have hj := jj_eq (4 * q + s) (E - 2)
  have hse : ss (4 * q + s) (E - 2) = kk (4 * q + s) (E - 2) - (E - 2) := rfl
  obtain ⟨z, hz⟩ : ∃ z : Nat, ss (4 * q + s) (E - 2) = z + 3 := ⟨(ss (4 * q + s) (E - 2) - 3).toNat, by omega⟩
  have hjt : jj (4 * q + s) (E - 2) + t = z + 1 + (E + 1074 + (t : Int)).toNat := by omega
  have g0 : mag (r0 (4 * q + s) (E - 2)) * 2 ^ t = (qq (4 * q + s) (E - 2) * (2 * 2 ^ z)) * U := by
    rw [mag_r0 hm, Nat.mul_assoc, ← Nat.pow_add, hjt, Nat.pow_add, ← hU, Nat.pow_succ, Nat.mul_comm (2 ^ z) 2]; simp only [Nat.mul_assoc]
  have g1 : mag (r0 (4 * q + s) (E - 2) + 1) * 2 ^ t = ((qq (4 * q + s) (E - 2) + 1) * (2 * 2 ^ z)) * U := by
    rw [mag_r1 hm, Nat.mul_assoc, ← Nat.pow_add, hjt, Nat.pow_add, ← hU, Nat.pow_succ, Nat.mul_comm (2 ^ z) 2]; simp only [Nat.mul_assoc]
  have g2 : (mag (r0 (4 * q + s) (E - 2)) + mag (r0 (4 * q + s) (E - 2) + 1)) * 2 ^ t = 2 * (((2 * qq (4 * q + s) (E - 2) + 1) * 2 ^ z) * U) := by
    rw [Nat.add_mul, g0, g1, ← Nat.add_mul, ← Nat.add_mul, show qq (4 * q + s) (E - 2) + (qq (4 * q + s) (E - 2) + 1) = 2 * qq (4 * q + s) (E - 2) + 1 by omega, Nat.mul_left_comm _ 2, Nat.mul_assoc 2]
  rw [hT] at f1 f2
  have key : ∀ I, (2 * (I * U) ≤ 2 * ((4 * q + s) * V) ↔ I ≤ q) ∧ (2 * (I * U) < 2 * ((4 * q + s) * V) ↔ 4 * I < 4 * q + s) := by
    intro I
    have e : I * U = (4 * I) * V := by rw [hUV, Nat.mul_left_comm, Nat.mul_assoc]
    rw [e]
    constructor
    · constructor
      · intro h
        have := Nat.le_of_mul_le_mul_right (show (4 * I) * V ≤ (4 * q + s) * V by omega) hVp
        omega
      · intro h
        have := Nat.mul_le_mul_right V (show 4 * I ≤ 4 * q + s by omega)
        omega
    · constructor
      · intro h
        exact Nat.lt_of_mul_lt_mul_right (a := V) (by omega)
      · intro h
        have := Nat.mul_lt_mul_of_pos_right h hVp
        omega
  have cT := cut_tt ((4 * q + s) * V)
  have a1 : le (2 * (mag (r0 (4 * q + s) (E - 2)) * 2 ^ t)) := by
    rw [g0, h1, ← (key _).1, ← g0]; omega
  have a2 : ¬ le (2 * (mag (r0 (4 * q + s) (E - 2) + 1) * 2 ^ t)) := by
    rw [g1, h1, ← (key _).1, ← g1]; omega
  have b1 : lt (2 * (mag (r0 (4 * q + s) (E - 2)) * 2 ^ t)) ↔ 2 * (mag (r0 (4 * q + s) (E - 2)) * 2 ^ t) < 2 * ((4 * q + s) * V) := by
    rw [g0, h2, (key _).2]
  have b2 : lt ((mag (r0 (4 * q + s) (E - 2)) + mag (r0 (4 * q + s) (E - 2) + 1)) * 2 ^ t) ↔ (mag (r0 (4 * q + s) (E - 2)) + mag (r0 (4 * q + s) (E - 2) + 1)) * 2 ^ t < 2 * ((4 * q + s) * V) := by
    rw [g2, h2, (key _).2]
  have b3 : le ((mag (r0 (4 * q + s) (E - 2)) + mag (r0 (4 * q + s) (E - 2) + 1)) * 2 ^ t) ↔ (mag (r0 (4 * q + s) (E - 2)) + mag (r0 (4 * q + s) (E - 2) + 1)) * 2 ^ t ≤ 2 * ((4 * q + s) * V) := by
    rw [g2, h1, (key _).1]
  constructor
  · rw [numk_iff ht, hT, ← PkC_tt]
    exact ⟨PkC_imp hw cT c a1 (by omega) b1.2 b2.2 b3.2 k n, PkC_imp hw c cT (by omega) a2 b1.1 b2.1 b3.1 k n⟩
  · rw [chg_iff ht, hT]
    constructor
    · rintro ⟨r, hr, he⟩
      have e : r = r0 (4 * q + s) (E - 2) := by
        have x1 : mag (r0 (4 * q + s) (E - 2)) ≤ mag r := Nat.le_of_mul_le_mul_right (show mag (r0 (4 * q + s) (E - 2)) * 2 ^ t ≤ mag r * 2 ^ t by omega) hw
        have x2 : mag r < mag (r0 (4 * q + s) (E - 2) + 1) := Nat.lt_of_mul_lt_mul_right (a := 2 ^ t) (by omega)
        have := mag_le_iff.1 x1; have := mag_lt_iff.1 x2; omega
      subst e
      exact ⟨_, hr, a1, fun hc => by have := b1.1 hc; omega⟩
    · rintro ⟨r, hr, x1, x2⟩
      have e : r = r0 (4 * q + s) (E - 2) := by
        rcases Nat.lt_trichotomy r (r0 (4 * q + s) (E - 2)) with h | h | h
        · exact absurd (c.less _ _ (by have := Nat.mul_lt_mul_of_pos_right (mag_lt h) hw; omega) a1) x2
        · exact h
        · exact absurd (c.down _ _ (by have := Nat.mul_le_mul_right (2 ^ t) (mag_mono (show r0 (4 * q + s) (E - 2) + 1 ≤ r by omega)); omega) x1) a2
      subst e
      refine ⟨_, hr, ?_⟩
      have : ¬ 2 * (mag (r0 (4 * q + s) (E - 2)) * 2 ^ t) < 2 * ((4 * q + s) * V) := fun hc => x2 (b1.2 hc)
      omega
end Go.Proofs.YtofdjfdnckmmmaaGreatDoor.Fm

/-
  PLAIN: quotients and roots by their whole part and a mark of what is lost, rounded. No Go here.
-/
namespace Go.Proofs.YtofdjfdnckmmmaaGreatDoor.Fm

/-- how far the first one is moved up -/
def qk (c d : Nat) : Nat := 80 + bl d - bl c
def mark (r : Nat) : Nat := if r = 0 then 0 else 1
theorem mark_le (r : Nat) : mark r ≤ 1 := by unfold mark; split <;> omega
/-- quot.Ratio -/
def ratD (neg : Bool) (c d : Nat) (E : Int) : D := ⟨neg, 4 * (c * 2 ^ qk c d / d) + mark (c * 2 ^ qk c d % d), E - qk c d - 2⟩
theorem ratio_big {c d : Nat} (hc : c ≠ 0) (hd : d ≠ 0) : 2 ^ 60 ≤ c * 2 ^ qk c d / d := by
  have a := bl_le hc
  have b := bl_lt d
  have e := bl_pos hc
  rw [Nat.le_div_iff_mul_le (by omega)]
  have h1 : 2 ^ 60 * d ≤ 2 ^ 60 * 2 ^ bl d := Nat.mul_le_mul_left _ (Nat.le_of_lt b)
  have h2 : 2 ^ (bl c - 1) * 2 ^ qk c d ≤ c * 2 ^ qk c d := Nat.mul_le_mul_right _ a
  rw [← Nat.pow_add] at h1 h2
  have h3 : 2 ^ (60 + bl d) ≤ 2 ^ (bl c - 1 + qk c d) := Nat.pow_le_pow_right (by decide) (by unfold qk; omega)
  omega
theorem cut_ratio (A : Nat) {d : Nat} (hd : 0 < d) : Cut (fun M => M * d ≤ 2 * A) (fun M => M * d < 2 * A) :=
  ⟨fun M N h1 h2 => Nat.le_trans (Nat.mul_le_mul_right _ h1) h2, fun M N h1 h2 => Nat.lt_of_lt_of_le (Nat.mul_lt_mul_of_pos_right h1 hd) h2, fun M h => Nat.le_of_lt h⟩
theorem ratio_num {c d : Nat} (hc : c ≠ 0) (hd : d ≠ 0) {E : Int} {t : Nat} (ht : 0 ≤ E - qk c d - 2 + 1074 + t) (neg : Bool) (k n : Nat) :
    (n ≤ numk k (ratD neg c d E).m (ratD neg c d E).e ↔ PkC k (2 ^ t) (fun M => M * d ≤ 2 * (c * 2 ^ (E + 1074 + t).toNat)) (fun M => M * d < 2 * (c * 2 ^ (E + 1074 + t).toNat)) n) ∧
    (chg (ratD neg c d E).m (ratD neg c d E).e = false ↔ ∃ r, r < MR ∧ mag r * 2 ^ t * d = c * 2 ^ (E + 1074 + t).toNat) := by
  have hd0 : 0 < d := by omega
  obtain ⟨U, hU⟩ : ∃ U, U = 2 ^ (E - qk c d + 1074 + t).toNat := ⟨_, rfl⟩
  have hUp : 0 < U := by rw [hU]; exact Nat.two_pow_pos _
  have hX : c * 2 ^ (E + 1074 + (t : Int)).toNat = (c * 2 ^ qk c d) * U := by
    rw [hU, Nat.mul_assoc, ← Nat.pow_add]; congr 2; omega
  have hq := ratio_big hc hd
  have hdm := Nat.div_add_mod (c * 2 ^ qk c d) d
  have hml := Nat.mod_lt (c * 2 ^ qk c d) hd0
  have e0 : (ratD neg c d E).m = 4 * (c * 2 ^ qk c d / d) + mark (c * 2 ^ qk c d % d) := rfl
  have e1 : (ratD neg c d E).e = E - qk c d - 2 := rfl
  rw [e0, e1, hX]
  generalize c * 2 ^ qk c d = C at *
  obtain ⟨k1, k2⟩ := sticky_num (mark_le (C % d)) hq ht (cut_ratio (C * U) hd0) U hU
    (fun I => by
      have e : 2 * (I * U) * d = 2 * ((I * d) * U) := by rw [Nat.mul_assoc, Nat.mul_assoc, Nat.mul_comm U d, Nat.mul_assoc]
      show 2 * (I * U) * d ≤ 2 * (C * U) ↔ _
      rw [e, Nat.le_div_iff_mul_le hd0]
      constructor
      · intro h; exact Nat.le_of_mul_le_mul_right (show I * d * U ≤ C * U by omega) hUp
      · intro h; have := Nat.mul_le_mul_right U h; omega)
    (fun I => by
      have e : 2 * (I * U) * d = 2 * ((I * d) * U) := by rw [Nat.mul_assoc, Nat.mul_assoc, Nat.mul_comm U d, Nat.mul_assoc]
      show 2 * (I * U) * d < 2 * (C * U) ↔ _
      have h0 : I * d < C ↔ 4 * I < 4 * (C / d) + mark (C % d) := by
        have hlt : I < C / d → I * d < C := fun h => by
          have := Nat.mul_le_mul_right d (show I + 1 ≤ C / d by omega)
          rw [Nat.mul_comm (C / d) d] at this
          rw [Nat.add_mul] at this; omega
        have hgt : C / d < I → C < I * d := fun h => by
          have := Nat.mul_le_mul_right d (show C / d + 1 ≤ I by omega)
          rw [Nat.add_mul, Nat.mul_comm (C / d) d] at this; omega
        have heq : I = C / d → I * d = C - C % d := fun h => by rw [h, Nat.mul_comm]; omega
        unfold mark
        split
        · rename_i h; constructor
          · intro h2; rcases Nat.lt_trichotomy I (C / d) with h3 | h3 | h3
            · omega
            · have := heq h3; omega
            · have := hgt h3; omega
          · intro h2; exact hlt (by omega)
        · rename_i h; constructor
          · intro h2; rcases Nat.lt_trichotomy I (C / d) with h3 | h3 | h3
            · omega
            · omega
            · have := hgt h3; omega
          · intro h2; rcases Nat.lt_trichotomy I (C / d) with h3 | h3 | h3
            · exact hlt h3
            · have := heq h3; omega
            · omega
      rw [e, ← h0]
      constructor
      · intro h; exact Nat.lt_of_mul_lt_mul_right (a := U) (by omega)
      · intro h; have := Nat.mul_lt_mul_of_pos_right h hUp; omega) k n
  refine ⟨k1, k2.trans ?_⟩
  constructor
  · rintro ⟨r, h1, h2, h3⟩
    refine ⟨r, h1, ?_⟩
    have a : 2 * (mag r * 2 ^ t) * d = 2 * (mag r * 2 ^ t * d) := Nat.mul_assoc _ _ _
    rw [a] at h2 h3; omega
  · rintro ⟨r, h1, h2⟩
    have a : 2 * (mag r * 2 ^ t) * d = 2 * (mag r * 2 ^ t * d) := Nat.mul_assoc _ _ _
    refine ⟨r, h1, ?_, ?_⟩
    · show 2 * (mag r * 2 ^ t) * d ≤ _
      rw [a, h2]; exact Nat.le_refl _
    · show ¬ 2 * (mag r * 2 ^ t) * d < _
      rw [a, h2]; omega

/-- the root of a square number: rounded down -/
def IsRoot (m r : Nat) : Prop := r * r ≤ m ∧ m < (r + 1) * (r + 1)
def rootD (r m : Nat) (E : Int) : D := ⟨false, 4 * r + mark (m - r * r), E - 2⟩
theorem cut_root (A : Nat) : Cut (fun M => M * M ≤ 4 * A) (fun M => M * M < 4 * A) :=
  ⟨fun M N h1 h2 => Nat.le_trans (Nat.mul_le_mul h1 h1) h2, fun M N h1 h2 => Nat.lt_of_lt_of_le (Nat.mul_lt_mul_of_lt_of_lt h1 h1) h2, fun M h => Nat.le_of_lt h⟩
theorem root_num {r m : Nat} (h : IsRoot m r) (hr : 2 ^ 60 ≤ r) {E : Int} {t : Nat} (ht : 0 ≤ E - 2 + 1074 + t) (k n : Nat) :
    (n ≤ numk k (rootD r m E).m (rootD r m E).e ↔ PkC k (2 ^ t) (fun M => M * M ≤ 4 * (m * 2 ^ (2 * (E + 1074 + t).toNat))) (fun M => M * M < 4 * (m * 2 ^ (2 * (E + 1074 + t).toNat))) n) ∧
    (chg (rootD r m E).m (rootD r m E).e = false ↔ ∃ s, s < MR ∧ (mag s * 2 ^ t) * (mag s * 2 ^ t) = m * 2 ^ (2 * (E + 1074 + t).toNat)) := by
  obtain ⟨U, hU⟩ : ∃ U, U = 2 ^ (E + 1074 + t).toNat := ⟨_, rfl⟩
  have hUp : 0 < U := by rw [hU]; exact Nat.two_pow_pos _
  have hUU : 2 ^ (2 * (E + 1074 + (t : Int)).toNat) = U * U := by rw [hU, ← Nat.pow_add]; congr 1; omega
  obtain ⟨h1, h2⟩ := h
  have e0 : (rootD r m E).m = 4 * r + mark (m - r * r) := rfl
  have e1 : (rootD r m E).e = E - 2 := rfl
  rw [e0, e1, hUU]
  have sq : ∀ I, 2 * (I * U) * (2 * (I * U)) = 4 * ((I * I) * (U * U)) := fun I => by
    rw [Nat.mul_mul_mul_comm 2, Nat.mul_mul_mul_comm I]
  have hUUp : 0 < U * U := Nat.mul_pos hUp hUp
  have le_iff : ∀ I, I * I ≤ m ↔ I ≤ r := fun I => by
    constructor
    · intro h
      rcases Nat.lt_or_ge r I with h3 | h3
      · have := Nat.mul_le_mul (show r + 1 ≤ I by omega) (show r + 1 ≤ I by omega); omega
      · exact h3
    · intro h; have := Nat.mul_le_mul h h; omega
  have lt_iff : ∀ I, I * I < m ↔ 4 * I < 4 * r + mark (m - r * r) := fun I => by
    have a := le_iff I
    unfold mark
    rcases Nat.lt_trichotomy I r with h3 | h3 | h3
    · have := Nat.mul_lt_mul_of_lt_of_lt h3 h3
      split <;> omega
    · subst h3; split <;> omega
    · have : ¬ I * I ≤ m := fun h => by have := a.1 h; omega
      split <;> omega
  obtain ⟨k1, k2⟩ := sticky_num (mark_le (m - r * r)) hr ht (cut_root (m * (U * U))) U hU
    (fun I => by
      show 2 * (I * U) * (2 * (I * U)) ≤ 4 * (m * (U * U)) ↔ _
      rw [sq, ← le_iff]
      constructor
      · intro h; exact Nat.le_of_mul_le_mul_right (show I * I * (U * U) ≤ m * (U * U) by omega) hUUp
      · intro h; have := Nat.mul_le_mul_right (U * U) h; omega)
    (fun I => by
      show 2 * (I * U) * (2 * (I * U)) < 4 * (m * (U * U)) ↔ _
      rw [sq, ← lt_iff]
      constructor
      · intro h; exact Nat.lt_of_mul_lt_mul_right (a := U * U) (by omega)
      · intro h; have := Nat.mul_lt_mul_of_pos_right h hUUp; omega) k n
  refine ⟨k1, k2.trans ?_⟩
  constructor
  · rintro ⟨s, a1, a2, a3⟩
    refine ⟨s, a1, ?_⟩
    have e := Nat.mul_mul_mul_comm 2 (mag s * 2 ^ t) 2 (mag s * 2 ^ t)
    rw [e] at a2 a3; omega
  · rintro ⟨s, a1, a2⟩
    have e := Nat.mul_mul_mul_comm 2 (mag s * 2 ^ t) 2 (mag s * 2 ^ t)
    refine ⟨s, a1, ?_, ?_⟩
    · show 2 * (mag s * 2 ^ t) * (2 * (mag s * 2 ^ t)) ≤ _
      rw [e, a2]; omega
    · show ¬ 2 * (mag s * 2 ^ t) * (2 * (mag s * 2 ^ t)) < _
      rw [e, a2]; omega

/-- one that is no middle: the nearest even one is the nearest one that goes away -/
theorem near_away {m : Nat} {e : Int} {w : Nat} {le lt : Nat → Prop} (c : Cut le lt) (hn : ∀ k n, n ≤ numk k m e ↔ PkC k w le lt n)
    (h : ∀ n, n ≤ MR → n ≠ 0 → le ((mag (n - 1) + mag n) * w) → lt ((mag (n - 1) + mag n) * w) ∨ n < 4503599627370496 ∨ n = MR) :
    numk 2 m e = numk 3 m e ∨ numk 2 m e < 4503599627370496 ∨ MR ≤ numk 3 m e := by
  have a := (hn 3 (numk 3 m e)).1 (Nat.le_refl _)
  have b := (hn 2 (numk 2 m e)).1 (Nat.le_refl _)
  have h23 : numk 2 m e ≤ numk 3 m e := (hn 3 _).2 ⟨b.1, by
    rcases b.2 with h0 | h0 | ⟨h0, -⟩
    · exact Or.inl h0
    · exact Or.inr (c.weak _ h0)
    · exact Or.inr h0⟩
  rcases a.2 with h0 | h0
  · left; omega
  · by_cases hz : numk 3 m e = 0
    · left; omega
    · rcases h _ a.1 hz h0 with h1 | h1 | h1
      · left
        have := (hn 2 (numk 3 m e)).2 ⟨a.1, Or.inr (Or.inl h1)⟩
        omega
      · right; left; omega
      · right; right; omega
end Go.Proofs.YtofdjfdnckmmmaaGreatDoor.Fm

/-
  PLAIN: what is exact at a cut; quotients and roots are no middles; the order. No Go here.
-/
namespace Go.Proofs.YtofdjfdnckmmmaaGreatDoor.Fm

theorem num_at {m : Nat} {e : Int} {w : Nat} (hw : 0 < w) {le lt : Nat → Prop} (c : Cut le lt) (hn : ∀ k n, n ≤ numk k m e ↔ PkC k w le lt n) {r : Nat} (hr : r < MR)
    (h1 : le (2 * (mag r * w))) (h2 : ¬ lt (2 * (mag r * w))) (k : Nat) : numk k m e = r := by
  have hMR : MR = 9218868437227405312 := rfl
  have smono : ∀ {x y : Nat}, x < y → mag x * w < mag y * w := fun h => Nat.mul_lt_mul_of_pos_right (mag_lt h) hw
  have a : r ≤ numk k m e := by
    rw [hn]
    by_cases h0 : r = 0
    · subst h0
      rcases k with _ | _ | _ | k
      · exact ⟨by omega, h1⟩
      · exact ⟨by omega, Or.inl rfl⟩
      · exact ⟨by omega, Or.inl rfl⟩
      · exact ⟨by omega, Or.inl rfl⟩
    · have s := smono (show r - 1 < r by omega)
      have l1 : lt ((mag (r - 1) + mag r) * w) := c.less _ _ (by rw [Nat.add_mul]; omega) h1
      rcases k with _ | _ | _ | k
      · exact ⟨by omega, h1⟩
      · exact ⟨by omega, Or.inr (c.less _ _ (by omega) h1)⟩
      · exact ⟨by omega, Or.inr (Or.inl l1)⟩
      · exact ⟨by omega, Or.inr (c.weak _ l1)⟩
  have b : ¬ r + 1 ≤ numk k m e := by
    rw [hn]
    have s := smono (show r < r + 1 by omega)
    have l1 : ¬ le ((mag r + mag (r + 1)) * w) := fun h => h2 (c.less _ _ (by rw [Nat.add_mul]; omega) h)
    have er : r + 1 - 1 = r := by omega
    rcases k with _ | _ | _ | k
    · intro h; exact h2 (c.less _ _ (by omega) h.2)
    · intro h
      rcases h.2 with h | h
      · omega
      · rw [er] at h; exact h2 h
    · intro h
      rcases h.2 with h | h | h
      · omega
      · rw [er] at h; exact l1 (c.weak _ h)
      · rw [er] at h; exact l1 h.1
    · intro h
      rcases h.2 with h | h
      · omega
      · rw [er] at h; exact l1 h
  omega
theorem PkC_mono {k w : Nat} {le lt le' lt' : Nat → Prop} (h1 : ∀ M, le M → le' M) (h2 : ∀ M, lt M → lt' M) {n : Nat} (h : PkC k w le lt n) : PkC k w le' lt' n := by
  rcases k with _ | _ | _ | k
  · exact ⟨h.1, h1 _ h.2⟩
  · exact ⟨h.1, h.2.imp id (h2 _)⟩
  · exact ⟨h.1, h.2.imp id (fun h => h.imp (h2 _) (fun h => ⟨h1 _ h.1, h.2⟩))⟩
  · exact ⟨h.1, h.2.imp id (h1 _)⟩
/-- the middle below a normal one but the least -/
theorem mid_odd {n : Nat} (h : 4503599627370496 < n) : ∃ q j, 4503599627370496 ≤ q ∧ mag (n - 1) + mag n = (2 * q + 1) * 2 ^ j := by
  obtain ⟨q, j, h1, h2, h3⟩ : ∃ q j, 4503599627370496 ≤ q ∧ q < 9007199254740992 ∧ n - 1 = q + j * 4503599627370496 :=
    ⟨(n - 1) % 4503599627370496 + 4503599627370496, (n - 1) / 4503599627370496 - 1, by omega, by omega, by omega⟩
  refine ⟨q, j, h1, ?_⟩
  have a := mag_of q j (Or.inl h1) (by omega)
  have b := mag_of (q + 1) j (by omega) (by omega)
  rw [h3, show n = q + 1 + j * 4503599627370496 by omega, a, b, ← Nat.add_mul]
  congr 1; omega
theorem odd_dvd {p c z : Nat} (hp : p % 2 = 1) (h : p ∣ c * 2 ^ z) : p ∣ c := by
  have hc : Nat.Coprime p (2 ^ z) := by
    apply Nat.Coprime.pow_right
    rw [Nat.coprime_comm]
    unfold Nat.Coprime
    rw [Nat.gcd_rec, hp]; rfl
  exact hc.dvd_of_dvd_mul_right h
theorem ratio_no_tie {c d t z n : Nat} (hc : c ≠ 0) (hc2 : c < 2 ^ 53) (h : 4503599627370496 < n) : (mag (n - 1) + mag n) * 2 ^ t * d ≠ 2 * (c * 2 ^ z) := by
  intro he
  obtain ⟨q, j, h1, h2⟩ := mid_odd h
  have : (2 * q + 1) ∣ c * 2 ^ (z + 1) := ⟨2 ^ j * 2 ^ t * d, by
    rw [Nat.pow_succ, ← Nat.mul_assoc, Nat.mul_comm _ 2, ← he, h2]; simp only [Nat.mul_assoc]⟩
  have := Nat.le_of_dvd (by omega) (odd_dvd (by omega) this)
  omega
theorem root_no_tie {c t z n : Nat} (hc : c ≠ 0) (hc2 : c < 2 ^ 53) (h : 4503599627370496 < n) : (mag (n - 1) + mag n) * 2 ^ t * ((mag (n - 1) + mag n) * 2 ^ t) ≠ 4 * (c * 2 ^ z) := by
  intro he
  obtain ⟨q, j, h1, h2⟩ := mid_odd h
  have : (2 * q + 1) ∣ c * 2 ^ (z + 2) := ⟨2 ^ j * 2 ^ t * ((2 * q + 1) * 2 ^ j * 2 ^ t), by
    rw [Nat.pow_add, ← Nat.mul_assoc, Nat.mul_comm _ (2 ^ 2), show (2 : Nat) ^ 2 = 4 from rfl, ← he, h2]; simp only [Nat.mul_assoc]⟩
  have := Nat.le_of_dvd (by omega) (odd_dvd (by omega) this)
  omega
theorem near_away2 {m : Nat} {e : Int} {w : Nat} {le lt : Nat → Prop} (c : Cut le lt) (hn : ∀ k n, n ≤ numk k m e ↔ PkC k w le lt n)
    (h : ∀ n, n ≤ MR → 4503599627370496 < n → le ((mag (n - 1) + mag n) * w) → lt ((mag (n - 1) + mag n) * w)) :
    numk 2 m e = numk 3 m e ∨ (numk 2 m e < 4503599627370496 ∧ numk 3 m e ≤ 4503599627370496) := by
  have a := (hn 3 (numk 3 m e)).1 (Nat.le_refl _)
  have b := (hn 2 (numk 2 m e)).1 (Nat.le_refl _)
  have h23 : numk 2 m e ≤ numk 3 m e := (hn 3 _).2 ⟨b.1, by
    rcases b.2 with h0 | h0 | ⟨h0, -⟩
    · exact Or.inl h0
    · exact Or.inr (c.weak _ h0)
    · exact Or.inr h0⟩
  rcases a.2 with h0 | h0
  · left; omega
  · rcases Nat.lt_or_ge 4503599627370496 (numk 3 m e) with h1 | h1
    · left
      have := (hn 2 (numk 3 m e)).2 ⟨a.1, Or.inr (Or.inl (h _ a.1 h1 h0))⟩
      omega
    · by_cases h2 : numk 3 m e % 2 = 0
      · left
        have := (hn 2 (numk 3 m e)).2 ⟨a.1, Or.inr (Or.inr ⟨h0, h2⟩)⟩
        omega
      · right; omega
theorem exTq (a : Int) : ∃ t : Nat, 0 ≤ a + t := ⟨(-a).toNat, by omega⟩
/-- of a quotient -/
theorem ratio_never {c d : Nat} (hc : c ≠ 0) (hc2 : c < 2 ^ 53) (hd : d ≠ 0) (neg : Bool) (E : Int) :
    numk 2 (ratD neg c d E).m (ratD neg c d E).e = numk 3 (ratD neg c d E).m (ratD neg c d E).e ∨ (numk 2 (ratD neg c d E).m (ratD neg c d E).e < 4503599627370496 ∧ numk 3 (ratD neg c d E).m (ratD neg c d E).e ≤ 4503599627370496) := by
  obtain ⟨t, ht⟩ := exTq (E - qk c d - 2 + 1074)
  refine near_away2 (cut_ratio _ (by omega)) (fun k n => (ratio_num hc hd ht neg k n).1) (fun n h1 h2 h3 => ?_)
  have := ratio_no_tie (t := t) (d := d) (z := (E + 1074 + (t : Int)).toNat) hc hc2 h2
  exact Nat.lt_of_le_of_ne h3 this
theorem ratio_mono {c d c' d' : Nat} (hc : c ≠ 0) (hd : d ≠ 0) (hc' : c' ≠ 0) (hd' : d' ≠ 0) (neg neg' : Bool) (E E' : Int) (k : Nat) {t : Nat} (ht : 0 ≤ E - qk c d - 2 + 1074 + t) (ht' : 0 ≤ E' - qk c' d' - 2 + 1074 + t)
    (h : c * 2 ^ (E + 1074 + t).toNat * d' ≤ c' * 2 ^ (E' + 1074 + t).toNat * d) : numk k (ratD neg c d E).m (ratD neg c d E).e ≤ numk k (ratD neg' c' d' E').m (ratD neg' c' d' E').e := by
  have a := (ratio_num hc hd ht neg k _).1.1 (Nat.le_refl _)
  refine (ratio_num hc' hd' ht' neg' k _).1.2 (PkC_mono ?_ ?_ a)
  · intro M hM
    have hM : M * d ≤ 2 * (c * 2 ^ (E + 1074 + (t : Int)).toNat) := hM
    show M * d' ≤ 2 * (c' * 2 ^ (E' + 1074 + (t : Int)).toNat)
    generalize c * 2 ^ (E + 1074 + (t : Int)).toNat = A at *
    generalize c' * 2 ^ (E' + 1074 + (t : Int)).toNat = B at *
    refine Nat.le_of_mul_le_mul_right (c := d) ?_ (by omega)
    have h5 := Nat.mul_le_mul_right d' hM
    rw [Nat.mul_assoc 2 A] at h5
    rw [Nat.mul_assoc 2 B, Nat.mul_right_comm M d' d]; omega
  · intro M hM
    have hM : M * d < 2 * (c * 2 ^ (E + 1074 + (t : Int)).toNat) := hM
    show M * d' < 2 * (c' * 2 ^ (E' + 1074 + (t : Int)).toNat)
    generalize c * 2 ^ (E + 1074 + (t : Int)).toNat = A at *
    generalize c' * 2 ^ (E' + 1074 + (t : Int)).toNat = B at *
    refine Nat.lt_of_mul_lt_mul_right (a := d) ?_
    have h5 := Nat.mul_lt_mul_of_pos_right hM (show 0 < d' by omega)
    rw [Nat.mul_assoc 2 A] at h5
    rw [Nat.mul_assoc 2 B, Nat.mul_right_comm M d' d]; omega
/-- a quotient that is a number -/
theorem ratio_exact {c d : Nat} (hc : c ≠ 0) (hd : d ≠ 0) (neg : Bool) (E : Int) {t : Nat} (ht : 0 ≤ E - qk c d - 2 + 1074 + t) {r : Nat} (hr : r < MR) (h : mag r * 2 ^ t * d = c * 2 ^ (E + 1074 + t).toNat) (k : Nat) :
    numk k (ratD neg c d E).m (ratD neg c d E).e = r ∧ chg (ratD neg c d E).m (ratD neg c d E).e = false := by
  refine ⟨num_at (Nat.two_pow_pos t) (cut_ratio _ (by omega)) (fun k n => (ratio_num hc hd ht neg k n).1) hr ?_ ?_ k, (ratio_num hc hd ht neg 0 0).2.2 ⟨r, hr, h⟩⟩
  · rw [Nat.mul_assoc 2, h]; exact Nat.le_refl _
  · rw [Nat.mul_assoc 2, h]; exact Nat.lt_irrefl _

/-- how far a number is moved up ahead of its root -/
def rk (e : Int) : Nat := if (e - 160) % 2 = 0 then 160 else 161
theorem rk_ev (e : Int) : 2 * ((e - rk e) / 2) = e - rk e := by unfold rk; split <;> omega
/-- quot.Root: r is the root of c * 2^rk, rounded down -/
def rtD (r c : Nat) (e : Int) : D := rootD r (c * 2 ^ rk e) ((e - rk e) / 2)
theorem root_big {r c : Nat} {e : Int} (hc : c ≠ 0) (h : IsRoot (c * 2 ^ rk e) r) : 2 ^ 60 ≤ r := by
  rcases Nat.lt_or_ge r (2 ^ 60) with h1 | h1
  · exfalso
    have h2 := h.2
    have h3 : (r + 1) * (r + 1) ≤ 2 ^ 60 * 2 ^ 60 := Nat.mul_le_mul h1 h1
    have h4 : 1 * 2 ^ rk e ≤ c * 2 ^ rk e := Nat.mul_le_mul_right _ (by omega)
    have h5 : 2 ^ 120 ≤ 2 ^ rk e := Nat.pow_le_pow_right (by decide) (by unfold rk; split <;> omega)
    rw [← Nat.pow_add] at h3
    omega
  · exact h1
theorem root_law {r c : Nat} {e : Int} (hc : c ≠ 0) (h : IsRoot (c * 2 ^ rk e) r) {t : Nat} (ht : 0 ≤ e - rk e - 4 + 2148 + 2 * t) (k n : Nat) :
    (n ≤ numk k (rtD r c e).m (rtD r c e).e ↔ PkC k (2 ^ t) (fun M => M * M ≤ 4 * (c * 2 ^ (e + 2148 + 2 * t).toNat)) (fun M => M * M < 4 * (c * 2 ^ (e + 2148 + 2 * t).toNat)) n) ∧
    (chg (rtD r c e).m (rtD r c e).e = false ↔ ∃ s, s < MR ∧ (mag s * 2 ^ t) * (mag s * 2 ^ t) = c * 2 ^ (e + 2148 + 2 * t).toNat) := by
  have he := rk_ev e
  have := root_num h (root_big hc h) (E := (e - rk e) / 2) (t := t) (by omega) k n
  have e1 : c * 2 ^ rk e * 2 ^ (2 * ((e - (rk e : Int)) / 2 + 1074 + (t : Int)).toNat) = c * 2 ^ (e + 2148 + 2 * (t : Int)).toNat := by
    rw [Nat.mul_assoc, ← Nat.pow_add]; congr 2; omega
  rw [e1] at this
  exact this
theorem root_never {r c : Nat} {e : Int} (hc : c ≠ 0) (hc2 : c < 2 ^ 53) (he : -1074 ≤ e) (h : IsRoot (c * 2 ^ rk e) r) : numk 2 (rtD r c e).m (rtD r c e).e = numk 3 (rtD r c e).m (rtD r c e).e := by
  obtain ⟨t, ht⟩ := exTq (e - rk e - 4 + 2148)
  have hl := fun k n => (root_law hc h (t := t) (by omega) k n).1
  have key : ∀ n, n ≤ 4503599627370496 → (mag (n - 1) + mag n) * 2 ^ t * ((mag (n - 1) + mag n) * 2 ^ t) < 4 * (c * 2 ^ (e + 2148 + 2 * (t : Int)).toNat) := by
    intro n hn
    have a : mag (n - 1) ≤ 2 ^ 52 := by
      have := mag_mono (show n - 1 ≤ 4503599627370496 by omega)
      have := mag_of 4503599627370496 0 (by omega) (by omega)
      simp at this; omega
    have b : mag n ≤ 2 ^ 52 := by
      have := mag_mono hn
      have := mag_of 4503599627370496 0 (by omega) (by omega)
      simp at this; omega
    have c1 : (mag (n - 1) + mag n) * 2 ^ t ≤ 2 ^ 53 * 2 ^ t := Nat.mul_le_mul_right _ (by omega)
    have c2 := Nat.mul_le_mul c1 c1
    rw [← Nat.pow_add, ← Nat.pow_add] at c2
    have c3 : 2 ^ (53 + t + (53 + t)) < 2 ^ (e + 2148 + 2 * (t : Int)).toNat := Nat.pow_lt_pow_right (by decide) (by omega)
    have c4 : 1 * 2 ^ (e + 2148 + 2 * (t : Int)).toNat ≤ c * 2 ^ (e + 2148 + 2 * (t : Int)).toNat := Nat.mul_le_mul_right _ (by omega)
    omega
  rcases near_away2 (cut_root _) hl (fun n h1 h2 h3 => Nat.lt_of_le_of_ne h3 (root_no_tie hc hc2 h2)) with h1 | ⟨h1, h2⟩
  · exact h1
  · have a := (hl 3 _).1 (Nat.le_refl _)
    have h23 := (hl 2 (numk 3 (rtD r c e).m (rtD r c e).e)).2 ⟨a.1, Or.inr (Or.inl (key _ h2))⟩
    have b := (hl 2 _).1 (Nat.le_refl (numk 2 (rtD r c e).m (rtD r c e).e))
    have h32 := (hl 3 (numk 2 (rtD r c e).m (rtD r c e).e)).2 ⟨b.1, Or.inr (Nat.le_of_lt (key _ (by omega)))⟩
    omega
theorem root_mono {r c r' c' : Nat} {e e' : Int} (hc : c ≠ 0) (h : IsRoot (c * 2 ^ rk e) r) (hc' : c' ≠ 0) (h' : IsRoot (c' * 2 ^ rk e') r') (k : Nat) {t : Nat} (ht : 0 ≤ e - rk e - 4 + 2148 + 2 * t) (ht' : 0 ≤ e' - rk e' - 4 + 2148 + 2 * t)
    (hle : c * 2 ^ (e + 2148 + 2 * t).toNat ≤ c' * 2 ^ (e' + 2148 + 2 * t).toNat) : numk k (rtD r c e).m (rtD r c e).e ≤ numk k (rtD r' c' e').m (rtD r' c' e').e := by
  have a := (root_law hc h ht k _).1.1 (Nat.le_refl _)
  refine (root_law hc' h' ht' k _).1.2 (PkC_mono ?_ ?_ a)
  · intro M hM
    have hM : M * M ≤ 4 * (c * 2 ^ (e + 2148 + 2 * (t : Int)).toNat) := hM
    show M * M ≤ 4 * (c' * 2 ^ (e' + 2148 + 2 * (t : Int)).toNat)
    omega
  · intro M hM
    have hM : M * M < 4 * (c * 2 ^ (e + 2148 + 2 * (t : Int)).toNat) := hM
    show M * M < 4 * (c' * 2 ^ (e' + 2148 + 2 * (t : Int)).toNat)
    omega
theorem root_exact {r c : Nat} {e : Int} (hc : c ≠ 0) (h : IsRoot (c * 2 ^ rk e) r) {t : Nat} (ht : 0 ≤ e - rk e - 4 + 2148 + 2 * t) {s : Nat} (hs : s < MR) (hx : (mag s * 2 ^ t) * (mag s * 2 ^ t) = c * 2 ^ (e + 2148 + 2 * t).toNat) (k : Nat) :
    numk k (rtD r c e).m (rtD r c e).e = s ∧ chg (rtD r c e).m (rtD r c e).e = false := by
  refine ⟨num_at (Nat.two_pow_pos t) (cut_root _) (fun k n => (root_law hc h ht k n).1) hs ?_ ?_ k, (root_law hc h ht 0 0).2.2 ⟨s, hs, hx⟩⟩
  · rw [Nat.mul_mul_mul_comm 2, hx]; exact Nat.le_refl _
  · rw [Nat.mul_mul_mul_comm 2, hx]; exact Nat.lt_irrefl _
end Go.Proofs.YtofdjfdnckmmmaaGreatDoor.Fm
