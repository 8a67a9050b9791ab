/-
  PLAIN: exact numbers cut at a place. No Go function here.
-/
import Derived.Test.YtmpdbmaokbhcjaaDoorBh
import Derived.Test.YtmpdbmaokbhcjaaDoorBe
set_option linter.unusedVariables false
set_option linter.unusedSimpArgs false
namespace Go.Proofs.YtmpdbmaokbhcjaaDoor
open Go.RowKit Nt Fm Fl

/-- what 'n is no more than V rounded to a multiple of U' says -/
def Ik (k V U n : Nat) : Prop :=
  match k with
  | 0 => n * U ≤ V
  | 1 => n = 0 ∨ (n - 1) * U < V
  | 2 => n = 0 ∨ (n - 1) * U + n * U < 2 * V ∨ ((n - 1) * U + n * U = 2 * V ∧ n % 2 = 0)
  | _ => n = 0 ∨ (n - 1) * U + n * U ≤ 2 * V
theorem Ik_mono {k V V' U n : Nat} (h : V ≤ V') (hp : Ik k V U n) : Ik k V' U n := by
  rcases k with _ | _ | _ | k <;> simp only [Ik] at * <;> omega
theorem Ik_scale {k V U n c : Nat} (hc : 0 < c) : Ik k (V * c) (U * c) n ↔ Ik k V U n := by
  have e1 : n * (U * c) = n * U * c := (Nat.mul_assoc _ _ _).symm
  have e2 : (n - 1) * (U * c) = (n - 1) * U * c := (Nat.mul_assoc _ _ _).symm
  have e3 : 2 * (V * c) = 2 * V * c := (Nat.mul_assoc _ _ _).symm
  have e4 : (n - 1) * U * c + n * U * c = ((n - 1) * U + n * U) * c := (Nat.add_mul _ _ _).symm
  rcases k with _ | _ | _ | k <;> simp only [Ik] <;> (try rw [e1]) <;> (try rw [e2]) <;> (try rw [e3]) <;> (try rw [e4])
  · exact ⟨fun h => Nat.le_of_mul_le_mul_right h hc, fun h => Nat.mul_le_mul_right _ h⟩
  · rw [Nat.mul_lt_mul_right hc]
  · rw [Nat.mul_lt_mul_right hc, Nat.mul_right_cancel_iff hc]
  · constructor
    · rintro (h | h)
      · exact Or.inl h
      · exact Or.inr (Nat.le_of_mul_le_mul_right h hc)
    · rintro (h | h)
      · exact Or.inl h
      · exact Or.inr (Nat.mul_le_mul_right _ h)
theorem Ik_exact {k I U n : Nat} (hU : 0 < U) : n ≤ I ↔ Ik k (I * U) U n := by
  have a : n ≤ I → n * U ≤ I * U := fun h => Nat.mul_le_mul_right _ h
  have b : I < n → I * U + U ≤ n * U := fun h => by
    have := Nat.mul_le_mul_right U (show I + 1 ≤ n from h); rw [Nat.add_mul, Nat.one_mul] at this; exact this
  have c : n ≠ 0 → (n - 1) * U + U = n * U := fun h => by
    rw [← Nat.succ_mul]; congr 1; omega
  rcases k with _ | _ | _ | k <;> simp only [Ik]
  · exact ⟨a, fun h => by
      rcases Nat.lt_or_ge I n with h1 | h1
      · have := b h1; omega
      · exact h1⟩
  · constructor
    · intro h; have := a h; by_cases hz : n = 0
      · exact Or.inl hz
      · have := c hz; right; omega
    · intro h
      rcases Nat.lt_or_ge I n with h1 | h1
      · have := b h1; have := c (by omega); omega
      · exact h1
  · constructor
    · intro h; have := a h; by_cases hz : n = 0
      · exact Or.inl hz
      · have := c hz; right; left; omega
    · intro h
      rcases Nat.lt_or_ge I n with h1 | h1
      · have := b h1; have := c (by omega); omega
      · exact h1
  · constructor
    · intro h; have := a h; by_cases hz : n = 0
      · exact Or.inl hz
      · have := c hz; right; omega
    · intro h
      rcases Nat.lt_or_ge I n with h1 | h1
      · have := b h1; have := c (by omega); omega
      · exact h1
theorem cutM_iff {neg : Bool} {m : Nat} {k mode : Int} (hk : 0 < k) (m0 : 0 ≤ mode) (m1 : mode ≤ 4) (n : Nat) : n ≤ cutM neg m k mode ↔ Ik (kd neg mode) m (2 ^ k.toNat) n := by
  unfold cutM
  rw [if_neg (by omega)]
  obtain ⟨h, hh⟩ : ∃ h, h = 2 ^ (k.toNat - 1) := ⟨_, rfl⟩
  have hP : 2 ^ k.toNat = 2 * h := by rw [hh, ← Nat.pow_succ']; congr 1; omega
  have hh0 : 0 < h := by rw [hh]; exact Nat.two_pow_pos _
  rw [← hh]
  generalize 2 ^ k.toNat = P at *
  have hd := Nat.div_add_mod m P
  have hr := Nat.mod_lt m (show P > 0 by omega)
  generalize m / P = q at *
  generalize m % P = r at *
  have c : n ≠ 0 → (n - 1) * P + P = n * P := fun h => by
    rw [← Nat.succ_mul]; congr 1; omega
  have e0 : P * q = q * P := Nat.mul_comm _ _
  have key : (n ≤ q ∧ n * P ≤ q * P) ∨ (n = q + 1 ∧ n * P = q * P + P ∧ (n - 1) * P = q * P) ∨ (q + 2 ≤ n ∧ q * P + 2 * P ≤ n * P) := by
    rcases Nat.lt_trichotomy n (q + 1) with h | h | h
    · exact Or.inl ⟨by omega, Nat.mul_le_mul_right _ (by omega)⟩
    · right; left; subst h; refine ⟨rfl, by rw [Nat.add_mul, Nat.one_mul], by rw [Nat.add_sub_cancel]⟩
    · right; right; refine ⟨by omega, ?_⟩
      have := Nat.mul_le_mul_right P (show q + 2 ≤ n by omega)
      rw [Nat.add_mul] at this; exact this
  have hm : mode = 0 ∨ mode = 1 ∨ mode = 2 ∨ mode = 3 ∨ mode = 4 := by omega
  have hs : sgn2 (r : Int) (h : Int) = if r < h then -1 else if r = h then 0 else 1 := by
    unfold sgn2; split <;> split <;> (try split) <;> (try split) <;> omega
  rw [hs]
  clear hs hh
  obtain ⟨A, hA⟩ : ∃ A, n * P = A := ⟨_, rfl⟩
  obtain ⟨B, hB⟩ : ∃ B, (n - 1) * P = B := ⟨_, rfl⟩
  rw [hA, hB] at key
  rw [hA, hB] at c
  rw [e0] at hd
  generalize q * P = X at *
  clear e0
  rcases hm with rfl | rfl | rfl | rfl | rfl <;> cases neg <;> simp only [kd, upB, Ik, Int.reduceEq, if_true, if_false, Bool.false_eq_true, Bool.not_true, Bool.not_false, Int.reduceNeg, Nat.add_zero, ite_self, reduceCtorEq] <;>
    (try simp only [Bool.or_eq_true, Bool.and_eq_true, decide_eq_true_eq]) <;>
    (try rw [hA]) <;> (try rw [hB]) <;> clear hA hB <;>
    (by_cases hz : r = 0) <;> (try simp only [hz, if_true, if_false]) <;> (repeat' split) <;> omega
/-- what is cut, counted -/
theorem mul_spec (d : D) (pl mode : Int) {T : Nat} (hn : d.Nf) (h1 : 0 ≤ d.e + T) (h2 : 0 ≤ pl + T) (m0 : 0 ≤ mode) (m1 : mode ≤ 4) :
    ∃ I : Nat, (∀ n, n ≤ I ↔ Ik (kd d.neg mode) (d.m * 2 ^ (d.e + T).toNat) (2 ^ (pl + T).toNat) n) ∧
      (mulD d pl mode).vl T = (if d.neg then -((I * 2 ^ (pl + T).toNat : Nat) : Int) else ((I * 2 ^ (pl + T).toNat : Nat) : Int)) ∧
      (mulC d pl = false ↔ d.m * 2 ^ (d.e + T).toNat = I * 2 ^ (pl + T).toNat) ∧ (mulD d pl mode).Nf ∧ (mulD d pl mode = nz ∨ pl ≤ (mulD d pl mode).e) := by
  have hU := Nat.two_pow_pos (pl + T).toNat
  by_cases hc : pl ≤ d.e ∨ d.m = 0
  · have e1 : mulD d pl mode = d := by unfold mulD; rw [if_pos hc, norm_self hn]
    have e2 : mulC d pl = false := by unfold mulC; rw [if_pos hc]
    have hI : d.m * 2 ^ (d.e + T).toNat = d.m * 2 ^ (d.e - pl).toNat * 2 ^ (pl + T).toNat := by
      rcases hc with hc | hc
      · rw [Nat.mul_assoc, ← Nat.pow_add]; congr 2; omega
      · rw [hc]; simp
    refine ⟨d.m * 2 ^ (d.e - pl).toNat, fun n => ?_, ?_, ?_, ?_, ?_⟩
    · rw [hI]; exact Ik_exact hU
    · rw [e1, ← hI]; unfold D.vl D.sm; cases d.neg <;> simp [Int.neg_mul]
    · rw [e2, hI]; simp
    · rw [e1]; exact hn
    · rw [e1]
      rcases hc with hc | hc
      · exact Or.inr hc
      · left
        rcases hn with h | h
        · exact h
        · omega
  · have e1 : mulD d pl mode = norm d.neg (cutM d.neg d.m (pl - d.e) mode) pl := by unfold mulD; rw [if_neg hc]
    have e2 : mulC d pl = cutC d.m (pl - d.e) := by unfold mulC; rw [if_neg hc]
    have hV : (d.e + T).toNat + (pl - d.e).toNat = (pl + T).toNat := by omega
    have hc0 := Nat.two_pow_pos (d.e + T).toNat
    have hU2 : 2 ^ (pl + T).toNat = 2 ^ (pl - d.e).toNat * 2 ^ (d.e + T).toNat := by rw [← Nat.pow_add]; congr 1; omega
    refine ⟨cutM d.neg d.m (pl - d.e) mode, fun n => ?_, ?_, ?_, ?_, ?_⟩
    · rw [cutM_iff (by omega) m0 m1, hU2, Ik_scale hc0]
    · rw [e1, norm_vl _ _ _ _ h2]; unfold D.vl D.sm; simp only; cases d.neg <;> simp [Int.neg_mul]
    · rw [e2, hU2, ← Nat.mul_assoc, Nat.mul_right_cancel_iff hc0]
      unfold cutC lostB cutM
      rw [if_neg (by omega)]
      have hd := Nat.div_add_mod d.m (2 ^ (pl - d.e).toNat)
      have hr := Nat.mod_lt d.m (Nat.two_pow_pos (pl - d.e).toNat)
      have hk : decide (0 < pl - d.e) = true := by simp; omega
      rw [hk, Bool.true_and]
      generalize 2 ^ (pl - d.e).toNat = P at *
      by_cases hz : d.m % P = 0
      · rw [if_pos hz]; simp [hz]
        rw [Nat.mul_comm]; omega
      · rw [if_neg hz]
        simp only [ne_eq, hz, not_false_eq_true, decide_true, Bool.true_eq_false, false_iff]
        intro h
        have : d.m % P = 0 := by rw [h]; exact Nat.mul_mod_left _ _
        exact hz this
    · rw [e1]; exact norm_nf _ _ _
    · rw [e1]; exact norm_e
theorem I_mono {k V V' U I I' : Nat} (h : V ≤ V') (hI : ∀ n, n ≤ I ↔ Ik k V U n) (hI' : ∀ n, n ≤ I' ↔ Ik k V' U n) : I ≤ I' := (hI' I).2 (Ik_mono h ((hI I).1 (Nat.le_refl _)))
theorem I_down {V U I : Nat} (hI : ∀ n, n ≤ I ↔ Ik 0 V U n) : I * U ≤ V := (hI I).1 (Nat.le_refl _)
theorem I_up {V U I : Nat} (hI : ∀ n, n ≤ I ↔ Ik 1 V U n) : V ≤ I * U := by
  have := mt (hI (I + 1)).2 (by omega)
  simp only [Ik, Nat.add_sub_cancel] at this; omega
theorem vl_abs (d : D) (T : Nat) : d.vl T = (if d.neg then -((d.m * 2 ^ (d.e + T).toNat : Nat) : Int) else ((d.m * 2 ^ (d.e + T).toNat : Nat) : Int)) := by
  unfold D.vl D.sm; cases d.neg <;> simp [Int.neg_mul]
/-- of what is more no less -/
theorem mul_mono {c d : D} {pl mode : Int} {T : Nat} (hc : c.Nf) (hd : d.Nf) (h1 : 0 ≤ c.e + T) (h2 : 0 ≤ d.e + T) (h3 : 0 ≤ pl + T) (m0 : 0 ≤ mode) (m1 : mode ≤ 4) (h : c.vl T ≤ d.vl T) : (mulD c pl mode).vl T ≤ (mulD d pl mode).vl T := by
  obtain ⟨I, i1, i2, -⟩ := mul_spec c pl mode hc h1 h3 m0 m1
  obtain ⟨J, j1, j2, -⟩ := mul_spec d pl mode hd h2 h3 m0 m1
  rw [i2, j2]
  rw [vl_abs c, vl_abs d] at h
  have hU := Nat.two_pow_pos (pl + T).toNat
  generalize 2 ^ (pl + T).toNat = U at *
  generalize c.m * 2 ^ (c.e + T).toNat = V at *
  generalize d.m * 2 ^ (d.e + T).toNat = W at *
  have zero : ∀ {k V I : Nat}, V = 0 → (∀ n, n ≤ I ↔ Ik k V U n) → I = 0 := by
    intro k V I hv hI
    have e : (0 : Nat) * U = 0 := Nat.zero_mul _
    have := @Ik_exact k 0 U I hU
    rw [e, ← hv, ← hI] at this
    have := this.2 (Nat.le_refl _); omega
  cases hcn : c.neg <;> cases hdn : d.neg <;> rw [hcn] at h i1 <;> rw [hdn] at h j1 <;> simp only [Bool.false_eq_true, if_false, if_true] at h ⊢
  · have := Nat.mul_le_mul_right U (I_mono (show V ≤ W by omega) i1 j1); omega
  · have a := zero (by omega) i1; have b := zero (by omega) j1; rw [a, b]; simp
  · omega
  · have := Nat.mul_le_mul_right U (I_mono (show W ≤ V by omega) j1 i1); omega
theorem mul_down {d : D} {pl : Int} {T : Nat} (hd : d.Nf) (h2 : 0 ≤ d.e + T) (h3 : 0 ≤ pl + T) : (mulD d pl 2).vl T ≤ d.vl T := by
  obtain ⟨J, j1, j2, -⟩ := mul_spec d pl 2 hd h2 h3 (by decide) (by decide)
  rw [j2, vl_abs d]
  cases hdn : d.neg <;> rw [hdn] at j1 <;> simp only [Bool.false_eq_true, if_false, if_true]
  · have := I_down j1; omega
  · have := I_up j1; omega
theorem mul_up {d : D} {pl : Int} {T : Nat} (hd : d.Nf) (h2 : 0 ≤ d.e + T) (h3 : 0 ≤ pl + T) : d.vl T ≤ (mulD d pl 1).vl T := by
  obtain ⟨J, j1, j2, -⟩ := mul_spec d pl 1 hd h2 h3 (by decide) (by decide)
  rw [j2, vl_abs d]
  cases hdn : d.neg <;> rw [hdn] at j1 <;> simp only [Bool.false_eq_true, if_false, if_true]
  · have := I_up j1; omega
  · have := I_down j1; omega
/-- nothing is lost: it is itself -/
theorem mul_same {d : D} {pl mode : Int} (hd : d.Nf) (m0 : 0 ≤ mode) (m1 : mode ≤ 4) : mulC d pl = false ↔ mulD d pl mode = d := by
  obtain ⟨T, h1, h2⟩ := exT d.e pl
  obtain ⟨J, j1, j2, j3, j4, j5⟩ := mul_spec d pl mode hd h1 h2 m0 m1
  rw [j3]
  have eT : 0 ≤ (mulD d pl mode).e + (T : Int) := by
    rcases j5 with h | h
    · rw [h]; unfold nz; simp only; omega
    · omega
  constructor
  · intro h
    refine nf_inj j4 hd eT h1 ?_
    rw [j2, vl_abs d, h]
  · intro h
    rw [h, vl_abs d] at j2
    cases hn : d.neg <;> rw [hn] at j2 <;> simp only [Bool.false_eq_true, if_false, if_true] at j2 <;> omega
/-- by as many places, or fewer, it is cut no more -/
theorem mul_again {d : D} {pl few mode : Int} (hd : d.Nf) (m0 : 0 ≤ mode) (m1 : mode ≤ 4) (hf : few ≤ pl) (mode' : Int) : mulD (mulD d pl mode) few mode' = mulD d pl mode ∧ mulC (mulD d pl mode) few = false := by
  obtain ⟨T, h1, h2⟩ := exT d.e pl
  obtain ⟨J, j1, j2, j3, j4, j5⟩ := mul_spec d pl mode hd h1 h2 m0 m1
  generalize mulD d pl mode = R at *
  have hc : few ≤ R.e ∨ R.m = 0 := by
    rcases j5 with h | h
    · right; rw [h]; rfl
    · left; omega
  refine ⟨?_, ?_⟩
  · unfold mulD; rw [if_pos hc, norm_self j4]
  · unfold mulC; rw [if_pos hc]
end Go.Proofs.YtmpdbmaokbhcjaaDoor
