/-
  PLAIN: expansions: numbers whose bits do not overlap, the least first (Shewchuk). No Go function here.
-/
import Derived.Test.YtapdjclhpcakeaaDoorGg
import Derived.Test.YtapdjclhpcakeaaDoorGw
set_option linter.unusedVariables false
set_option linter.unusedSimpArgs false
namespace Go.Proofs.YtapdjclhpcakeaaDoor
open Go.RowKit Nt Fm Fl

theorem nr_low {z s : Int} (h : Ep.Nr z s) (hne : z ≠ s) : ∃ i, 2 * (z - s).natAbs ≤ Ep.P i ∧ (Ep.P i : Int) ∣ s := by
  obtain ⟨i, i1, i2⟩ := Ep.grid z.natAbs
  have i3 : Ep.P (52 + i) < z.natAbs := by
    rcases i2 with i2 | i2
    · exfalso; apply hne
      subst i2
      exact (h.exact ⟨0, ⟨z, by simp [Ep.P]⟩, i1⟩).symm
    · exact i2
  have hs : Ep.P (52 + i) ≤ s.natAbs := by
    have hr := Ep.Rep.pow (52 + i)
    rcases Int.le_total 0 z with h0 | h0
    · have := h.ge hr (by omega); omega
    · have := h.le hr.neg (by omega); omega
  exact ⟨i, Ep.half h i1, h.1.dvd2 hs⟩
/-- all together, counted in the least number -/
def ssum (o : List Int) : Int := (o.map smag).sum
theorem ssum_snoc (o : List Int) (h : Int) : ssum (o ++ [h]) = ssum o + smag h := by unfold ssum; simp
theorem ssum_take {o : List Int} {k : Nat} (h : k < o.length) : ssum (o.take (k + 1)) = ssum (o.take k) + smag (o.getD k 0) := by
  rw [List.take_succ_eq_append_getElem h, ssum_snoc]; simp [List.getD, h]
theorem sumD_ss (l : List Int) (hu : ∀ x ∈ l, 0 ≤ x ∧ x ≤ 18446744073709551615) (hv : ∀ i, i < l.length → hasV (l.getD i 0) = true) : ∀ k, k ≤ l.length → (sumD (l.take k)).vl 1074 = ssum (l.take k) ∧ 0 ≤ (sumD (l.take k)).e + ((1074 : Nat) : Int)
  | 0, _ => ⟨by simp [sumD, ssum]; exact vl_zero (d := nz) rfl 1074, by simp [sumD]; decide⟩
  | k + 1, hk => by
    obtain ⟨a, b⟩ := sumD_ss l hu hv k (by omega)
    have c := getD_bd hu k
    have e := valD_e c.1 c.2
    rw [sumD_take (by omega), ssum_take (by omega), plus_vl _ _ _ b e, a, valD_sm c.1 c.2 (hasV_lt (hv k (by omega)))]
    exact ⟨rfl, plus_eT b e⟩
/-- no bits overlap, the least first; none is 0 -/
structure Nov (o : List Int) : Prop where
  val : ∀ i, i < o.length → hasV (o.getD i 0) = true ∧ smag (o.getD i 0) ≠ 0
  gap : ∀ i, i + 1 < o.length → ∃ u, (smag (o.getD i 0)).natAbs < Ep.P u ∧ (Ep.P u : Int) ∣ smag (o.getD (i + 1) 0)
theorem Nov.nil : Nov [] := ⟨fun i h => by simp at h, fun i h => by simp at h⟩
theorem getD_snoc_lt {o : List Int} {h : Int} {i : Nat} (hi : i < o.length) : (o ++ [h]).getD i 0 = o.getD i 0 := by
  simp [List.getD, List.getElem?_append_left hi]
theorem getD_snoc_eq {o : List Int} {h : Int} : (o ++ [h]).getD o.length 0 = h := by simp [List.getD]
theorem Nov.snoc {o : List Int} {h : Int} (ho : Nov o) (hv : hasV h = true) (h0 : smag h ≠ 0) (hg : ∀ i, i + 1 = o.length → ∃ u, (smag (o.getD i 0)).natAbs < Ep.P u ∧ (Ep.P u : Int) ∣ smag h) : Nov (o ++ [h]) := by
  refine ⟨fun i hi => ?_, fun i hi => ?_⟩
  · rw [List.length_append] at hi
    by_cases hl : i < o.length
    · rw [getD_snoc_lt hl]; exact ho.val i hl
    · have : i = o.length := by simp at hi; omega
      subst this; rw [getD_snoc_eq]; exact ⟨hv, h0⟩
  · rw [List.length_append] at hi
    by_cases hl : i + 1 < o.length
    · rw [getD_snoc_lt hl, getD_snoc_lt (by omega)]; exact ho.gap i hl
    · have e : i + 1 = o.length := by simp at hi; omega
      rw [getD_snoc_lt (by omega), e, getD_snoc_eq]; exact hg i e
theorem P_dvd_abs {u : Nat} {X : Int} (h : (Ep.P u : Int) ∣ X) : ∃ c, X.natAbs = Ep.P u * c := by
  obtain ⟨c, hc⟩ := h
  exact ⟨c.natAbs, by rw [hc, Int.natAbs_mul, Int.natAbs_natCast]⟩
theorem P_dvd_lt {u v : Nat} {X : Int} (h : (Ep.P u : Int) ∣ X) (h0 : X ≠ 0) (hl : X.natAbs < Ep.P v) : u < v ∧ X.natAbs + Ep.P u ≤ Ep.P v := by
  obtain ⟨c, hc⟩ := P_dvd_abs h
  have hc0 : 0 < c := by
    rcases Nat.eq_zero_or_pos c with h1 | h1
    · rw [h1] at hc; omega
    · exact h1
  have h1 : Ep.P u * 1 ≤ Ep.P u * c := Nat.mul_le_mul_left _ hc0
  have huv : u < v := Ep.P_lt (by omega)
  refine ⟨huv, ?_⟩
  have e : Ep.P v = Ep.P u * Ep.P (v - u) := by rw [← Ep.P_add]; congr 1; omega
  have hlt : Ep.P u * c < Ep.P u * Ep.P (v - u) := by rw [← e, ← hc]; exact hl
  have h2 := Nat.lt_of_mul_lt_mul_left hlt
  have h3 := Nat.mul_le_mul_left (Ep.P u) (show c + 1 ≤ Ep.P (v - u) by omega)
  rw [Nat.mul_add, ← e] at h3
  omega
/-- the sum of the lower ones is less than a place above them -/
theorem Nov.sum_lt {o : List Int} (ho : Nov o) : ∀ k, k ≤ o.length → ∀ u, (∀ i, i + 1 = k → (smag (o.getD i 0)).natAbs < Ep.P u) → (ssum (o.take k)).natAbs < Ep.P u
  | 0, _, u, _ => by simp [ssum]; exact Ep.P_pos u
  | k + 1, hk, u, h => by
    rw [ssum_take (by omega)]
    have hl := h k rfl
    have hv := (ho.val k (by omega)).2
    rcases Nat.eq_zero_or_pos k with h0 | h0
    · subst h0; simp [ssum]; simpa using hl
    · obtain ⟨j, rfl⟩ : ∃ j, k = j + 1 := ⟨k - 1, by omega⟩
      obtain ⟨v, v1, v2⟩ := ho.gap j (by omega)
      have ih := Nov.sum_lt ho (j + 1) (by omega) v (fun i hi => by rw [show i = j by omega]; exact v1)
      have := (P_dvd_lt v2 hv hl).2
      omega
/-- no expansion but the empty one is 0 -/
theorem Nov.ne_zero {o : List Int} (ho : Nov o) (h : 0 < o.length) : ssum o ≠ 0 := by
  obtain ⟨k, hk⟩ : ∃ k, o.length = k + 1 := ⟨o.length - 1, by omega⟩
  have e := ssum_take (o := o) (k := k) (by omega)
  rw [List.take_of_length_le (by omega)] at e
  have hv := (ho.val k (by omega)).2
  rcases Nat.eq_zero_or_pos k with h0 | h0
  · subst h0; simp [ssum] at e; rw [show ssum o = (o.map smag).sum from rfl, e]; simpa using hv
  · obtain ⟨j, rfl⟩ : ∃ j, k = j + 1 := ⟨k - 1, by omega⟩
    obtain ⟨v, v1, v2⟩ := ho.gap j (by omega)
    have ih := Nov.sum_lt ho (j + 1) (by omega) v (fun i hi => by rw [show i = j by omega]; exact v1)
    obtain ⟨c, hc⟩ := P_dvd_abs v2
    have hc0 : 0 < c := by
      rcases Nat.eq_zero_or_pos c with h1 | h1
      · rw [h1] at hc; omega
      · exact h1
    have h1 : Ep.P v * 1 ≤ Ep.P v * c := Nat.mul_le_mul_left _ hc0
    intro hz; rw [hz] at e
    omega
/-- .. and its sign is that of the last one -/
theorem smag_valD {x : Int} (x0 : 0 ≤ x) (x1 : x ≤ 18446744073709551615) (hv : hasV x = true) : (smag x).natAbs = (valD x).m * Ep.P ((valD x).e + ((1074 : Nat) : Int)).toNat ∧ (Ep.P ((valD x).e + ((1074 : Nat) : Int)).toNat : Int) ∣ smag x := by
  have h := valD_sm x0 x1 (hasV_lt hv)
  constructor
  · rw [← h, vl_natAbs]; rfl
  · rw [← h]; refine ⟨(valD x).sm, ?_⟩
    unfold D.vl Ep.P; rw [Int.natCast_pow, Int.mul_comm]; rfl
theorem nov_of_good {l : List Int} (hu : ∀ x ∈ l, 0 ≤ x ∧ x ≤ 18446744073709551615) (h : gcE l = 0) : Nov l := by
  have hl := gcE_len' h
  have hn : nonL l = false := by
    unfold gcE at h; rw [if_neg (by omega)] at h
    cases hn : nonL l
    · rfl
    · rw [hn, if_pos rfl] at h; omega
  have hg : goodN l l.length = true := by
    unfold gcE at h; rw [if_neg (by omega), hn, if_neg (by decide)] at h
    cases hg : goodN l l.length
    · rw [hg, if_neg (by decide)] at h; omega
    · rfl
  have hv : ∀ i, i < l.length → hasV (l.getD i 0) = true := fun i hi => by
    unfold nonL at hn
    rw [List.any_eq_false] at hn
    have := hn (l.getD i 0) (by simp [List.getD, hi])
    unfold noB at this; simpa using this
  have hok : ∀ i, i < l.length → okAt l i = true := fun i hi => by
    cases ho : okAt l i
    · have := goodN_not l i ho _ hi; rw [hg] at this; cases this
    · rfl
  refine ⟨fun i hi => ⟨hv i hi, ?_⟩, fun i hi => ?_⟩
  · intro hz
    have := hok i hi
    unfold okAt at this
    rw [decide_eq_false (not_not_intro (fcls_1 (smag_0 hz))), Bool.false_and] at this
    cases this
  · have h1 := hok (i + 1) hi
    unfold okAt at h1
    rw [show i + 1 - 1 = i by omega, decide_eq_false (show ¬ i + 1 = 0 by omega), Bool.false_or, Bool.and_eq_true] at h1
    have h2 := of_decide_eq_true h1.2
    have a := getD_bd hu i
    have b := getD_bd hu (i + 1)
    obtain ⟨s1, s2⟩ := smag_valD a.1 a.2 (hv i (by omega))
    obtain ⟨t1, t2⟩ := smag_valD b.1 b.2 (hv (i + 1) hi)
    refine ⟨_, ?_, t2⟩
    have ea := valD_e a.1 a.2
    rw [s1]
    have hbl := bl_lt (valD (l.getD i 0)).m
    have e1 : topE (l.getD i 0) = (bl (valD (l.getD i 0)).m : Int) + (valD (l.getD i 0)).e := rfl
    calc (valD (l.getD i 0)).m * Ep.P ((valD (l.getD i 0)).e + ((1074 : Nat) : Int)).toNat
        < 2 ^ bl (valD (l.getD i 0)).m * Ep.P ((valD (l.getD i 0)).e + ((1074 : Nat) : Int)).toNat := Nat.mul_lt_mul_of_pos_right hbl (Ep.P_pos _)
      _ = Ep.P (bl (valD (l.getD i 0)).m + ((valD (l.getD i 0)).e + ((1074 : Nat) : Int)).toNat) := (Ep.P_add _ _).symm
      _ ≤ _ := Ep.P_le (by omega)
theorem odd_P {m c a u : Nat} (hm : m % 2 = 1) (h : m * Ep.P a = Ep.P u * c) : u ≤ a := by
  rcases Nat.lt_or_ge a u with h1 | h1
  · exfalso
    obtain ⟨k, rfl⟩ : ∃ k, u = a + (k + 1) := ⟨u - a - 1, by omega⟩
    rw [Ep.P_add, Nat.mul_comm m, Nat.mul_assoc] at h
    have := Nat.eq_of_mul_eq_mul_left (Ep.P_pos a) h
    rw [Ep.P_succ, Nat.mul_assoc] at this
    omega
  · exact h1
theorem good_of_nov {l : List Int} (hu : ∀ x ∈ l, 0 ≤ x ∧ x ≤ 18446744073709551615) (h : Nov l) (hl : l.length ≤ 60) : gcE l = 0 := by
  have hn : nonL l = false := by
    unfold nonL
    rw [List.any_eq_false]
    intro x hx
    obtain ⟨i, hi, rfl⟩ := List.mem_iff_getElem.1 hx
    have := (h.val i hi).1
    rw [show l.getD i 0 = l[i] by simp [List.getD, hi]] at this
    unfold noB; rw [this]; simp
  have hok : ∀ i, i < l.length → okAt l i = true := fun i hi => by
    obtain ⟨v1, v2⟩ := h.val i hi
    have b := getD_bd hu i
    have hc : fcls (l.getD i 0) ≠ 1 := fun hc => v2 (smag_z (fcls_zero hc))
    rcases Nat.eq_zero_or_pos i with h0 | h0
    · subst h0; exact okAt_first rfl hc
    · obtain ⟨j, rfl⟩ : ∃ j, i = j + 1 := ⟨i - 1, by omega⟩
      refine okAt_next hc ?_
      obtain ⟨u, u1, u2⟩ := h.gap j hi
      obtain ⟨w1, w2⟩ := h.val j (by omega)
      have a := getD_bd hu j
      obtain ⟨s1, s2⟩ := smag_valD a.1 a.2 w1
      obtain ⟨t1, t2⟩ := smag_valD b.1 b.2 v1
      have ea := valD_e a.1 a.2
      have eb := valD_e b.1 b.2
      have m0 : (valD (l.getD j 0)).m ≠ 0 := fun hz => by rw [hz, Nat.zero_mul] at s1; omega
      have hm : (valD (l.getD (j + 1) 0)).m % 2 = 1 := by
        rcases valD_nf (l.getD (j + 1) 0) with hz | hz
        · exfalso
          have e0 : (valD (l.getD (j + 1) 0)).m = 0 := by rw [hz]; rfl
          rw [e0, Nat.zero_mul] at t1; omega
        · exact hz
      obtain ⟨c, hc2⟩ := P_dvd_abs u2
      rw [t1] at hc2
      have h1 := odd_P hm hc2
      have hbg := bl_le m0
      have hbp := bl_pos m0
      have h2 : Ep.P (bl (valD (l.getD j 0)).m - 1 + ((valD (l.getD j 0)).e + ((1074 : Nat) : Int)).toNat) < Ep.P u := by
        rw [Ep.P_add]
        exact Nat.lt_of_le_of_lt (Nat.mul_le_mul_right _ hbg) (by rw [← s1]; exact u1)
      have h3 := Ep.P_lt h2
      have e1 : topE (l.getD j 0) = (bl (valD (l.getD j 0)).m : Int) + (valD (l.getD j 0)).e := rfl
      rw [e1]; omega
  have hg : ∀ n, n ≤ l.length → goodN l n = true := by
    intro n
    induction n with
    | zero => intro _; rfl
    | succ n ih => intro hn; show (goodN l n && okAt l n) = true; rw [ih (by omega), hok n (by omega)]; rfl
  unfold gcE
  rw [if_neg (by omega), hn, if_neg (by decide), hg _ (Nat.le_refl _), if_pos rfl]
end Go.Proofs.YtapdjclhpcakeaaDoor
