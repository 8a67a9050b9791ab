/-
  PLAIN: an expansion with a number added is one again, and counts as both (Shewchuk). No Go function here.
-/
import Derived.Test.YtapdjclhpcakeaaDoorGx
set_option linter.unusedVariables false
set_option linter.unusedSimpArgs false
namespace Go.Proofs.YtapdjclhpcakeaaDoor.Ep
/-- Moller, Knuth: ahead of the last sum -/
theorem twoSumPQ {X Y s a b p q : Int} (hX : Rep X) (hY : Rep Y) (h1 : Nr (X + Y) s) (h2 : Nr (s - Y) a) (h3 : Nr (s - a) b) (h4 : Nr (X - a) p) (h5 : Nr (Y - b) q) : p + q = X + Y - s := by
  obtain ⟨e1, e2, e3⟩ := err hX hY h1
  by_cases hy : Rep (s - Y)
  · have ha := h2.exact hy
    subst ha
    have hb : b = Y := by have := h3.exact (z := s - (s - Y)) (by rw [show s - (s - Y) = Y by omega]; exact hY); omega
    subst hb
    have hq : q = 0 := by have := h5.exact (z := b - b) (by rw [show b - b = 0 by omega]; exact Rep.zero); omega
    subst hq
    have hp : p = X + b - s := by
      have := h4.exact (z := X - (s - b)) (by rw [show X - (s - b) = X + b - s by omega]; exact e1); omega
    subst hp
    omega
  · have hxy : Y.natAbs < X.natAbs := by
      rcases Nat.lt_or_ge Y.natAbs X.natAbs with h | h
      · exact h
      · exact absurd (fast hY hX h (by rw [Int.add_comm]; exact h1)) hy
    have hzn : ¬ Rep (X + Y) := by
      intro hz
      apply hy
      rw [h1.exact hz, show X + Y - Y = X by omega]; exact hX
    have hs : Y.natAbs ≤ s.natAbs := by
      rcases Nat.lt_or_ge s.natAbs Y.natAbs with h | h
      · exfalso; apply hzn
        have hz : (X + Y).natAbs ≤ Y.natAbs := by
          have g1 : ∀ f, Rep f → f ≤ X + Y → f ≤ s := fun f hf => h1.ge hf
          have g2 : ∀ f, Rep f → X + Y ≤ f → s ≤ f := fun f hf => h1.le hf
          have a1 := g1 Y hY; have a2 := g1 (-Y) hY.neg; have a3 := g2 Y hY; have a4 := g2 (-Y) hY.neg
          omega
        exact rep_small hX hY (by omega) hz
      · exact h
    -- the second step is a fast one
    have h2' : Nr (s + -Y) a := by rw [show s + -Y = s - Y by omega]; exact h2
    have f1 := fast h1.1 hY.neg (by omega) h2'
    obtain ⟨f2, -, -⟩ := err h1.1 hY.neg h2'
    have hb : b = s - a := h3.exact (by rw [show s - a = -(a - s) by omega]; exact f1.neg)
    subst hb
    have hq : q = Y - (s - a) := h5.exact (by rw [show Y - (s - a) = -(s + -Y - a) by omega]; exact f2.neg)
    subst hq
    have hbig : P 53 < (X + Y).natAbs := by
      rcases Nat.lt_or_ge (P 53) (X + Y).natAbs with h | h
      · exact h
      · exact absurd ⟨0, ⟨X + Y, by simp [P]⟩, h⟩ hzn
    have hXbig : P 52 < X.natAbs := by
      have : P 53 = 2 * P 52 := P_succ 52
      omega
    obtain ⟨k, k1, k2⟩ := grid X.natAbs
    have k3 : P (52 + k) < X.natAbs := by
      rcases k2 with k2 | k2
      · subst k2; exact hXbig
      · exact k2
    have p1 : P (53 + (k + 1)) = 2 * P (53 + k) := by rw [show 53 + (k + 1) = (53 + k) + 1 by omega, P_succ]
    have p2 : P (53 + (k + 2)) = 2 * P (53 + (k + 1)) := by rw [show 53 + (k + 2) = (53 + (k + 1)) + 1 by omega, P_succ]
    have p3 : P (k + 1) = 2 * P k := P_succ _
    have p4 : P (k + 2) = 2 * P (k + 1) := P_succ _
    have p5 : P (52 + k) = P 49 * (8 * P k) := by
      rw [show 52 + k = 49 + (3 + k) by omega, P_add 49, P_add 3]; rfl
    have p6 : 1 * (8 * P k) ≤ P 49 * (8 * P k) := Nat.mul_le_mul_right _ (P_pos 49)
    have u1 := half h1 (i := k + 1) (by omega)
    have hs2 : s.natAbs ≤ 2 * X.natAbs := by
      have r2 := hX.two
      have g1 : ∀ f, Rep f → f ≤ X + Y → f ≤ s := fun f hf => h1.ge hf
      have g2 : ∀ f, Rep f → X + Y ≤ f → s ≤ f := fun f hf => h1.le hf
      have a1 := g1 _ r2; have a2 := g1 _ r2.neg; have a3 := g2 _ r2; have a4 := g2 _ r2.neg
      omega
    have u2 := half h2 (i := k + 2) (by omega)
    have hp : p = X - a := h4.exact (by
      rw [show X - a = X + -a by omega]
      exact rep_small hX h2.1.neg (by omega) (by omega))
    subst hp
    omega
end Go.Proofs.YtapdjclhpcakeaaDoor.Ep
namespace Go.Proofs.YtapdjclhpcakeaaDoor
open Go.RowKit Nt Fm Fl

theorem two_lawB {x y : Int} (x0 : 0 ≤ x) (x1 : x ≤ 18446744073709551615) (y0 : 0 ≤ y) (y1 : y ≤ 18446744073709551615) (hx : fabs x < 9218868437227405312) (hy : fabs y < 9218868437227405312) {N : Nat} (n0 : 52 ≤ N) (n1 : N ≤ 2093)
    (bx : (smag x).natAbs ≤ Ep.P (N + 1)) (by' : (smag y).natAbs ≤ Ep.P (N + 1)) (bz : (smag x + smag y).natAbs ≤ Ep.P (N + 1)) :
    fabs (plV x y) < 9218868437227405312 ∧ fabs (plV (tsP x y) (tsQ x y)) < 9218868437227405312 ∧ smag (plV (tsP x y) (tsQ x y)) = smag x + smag y - smag (plV x y) ∧ Ep.Nr (smag x + smag y) (smag (plV x y)) := by
  have p2 : Ep.P (N + 2) = 2 * Ep.P (N + 1) := Ep.P_succ _
  have p3 : Ep.P (N + 3) = 2 * Ep.P (N + 2) := Ep.P_succ _
  have p4 : Ep.P (N + 4) = 2 * Ep.P (N + 3) := Ep.P_succ _
  obtain ⟨s1, s2, s3⟩ := sum_fin x0 x1 y0 y1 hx hy (n := N + 1) (by omega) (by omega) bz
  obtain ⟨sb0, sb1⟩ := plV_bd x0 x1 y0 y1
  obtain ⟨a1, a2, a3⟩ := diff_fin sb0 sb1 y0 y1 s1 hy (n := N + 2) (by omega) (by omega) (by omega)
  obtain ⟨ab0, ab1⟩ := miV_bd sb0 sb1 y0 y1
  obtain ⟨b1, b2, b3⟩ := diff_fin sb0 sb1 ab0 ab1 s1 a1 (n := N + 3) (by omega) (by omega) (by omega)
  obtain ⟨bb0, bb1⟩ := miV_bd sb0 sb1 ab0 ab1
  obtain ⟨c1, c2, c3⟩ := diff_fin x0 x1 ab0 ab1 hx a1 (n := N + 3) (by omega) (by omega) (by omega)
  obtain ⟨cb0, cb1⟩ := miV_bd x0 x1 ab0 ab1
  obtain ⟨d1, d2, d3⟩ := diff_fin y0 y1 bb0 bb1 hy b1 (n := N + 4) (by omega) (by omega) (by omega)
  obtain ⟨db0, db1⟩ := miV_bd y0 y1 bb0 bb1
  have hpq := Ep.twoSumPQ (rep_smag x) (rep_smag y) s3 a3 b3 c3 d3
  have her := (Ep.err (rep_smag x) (rep_smag y) s3).2.2
  obtain ⟨e1, e2, e3⟩ := sum_fin cb0 cb1 db0 db1 c1 d1 (n := N + 1) (by omega) (by omega) (by rw [show smag (miV x (miV (plV x y) y)) + smag (miV y (miV (plV x y) (miV (plV x y) y))) = smag x + smag y - smag (plV x y) from hpq]; omega)
  exact ⟨s1, e1, Ep.twoSum (rep_smag x) (rep_smag y) s3 a3 b3 c3 d3 e3, s3⟩
/-- a place above one is below all later ones -/
theorem Nov.later {o : List Int} (ho : Nov o) {k t : Nat} (h : (Ep.P t : Int) ∣ smag (o.getD k 0)) : ∀ d, k + d < o.length → (Ep.P t : Int) ∣ smag (o.getD (k + d) 0)
  | 0, _ => h
  | d + 1, hd => by
    have ih := Nov.later ho h d (by omega)
    obtain ⟨u, u1, u2⟩ := ho.gap (k + d) (by omega)
    have := (P_dvd_lt ih (ho.val (k + d) (by omega)).2 u1).1
    exact Int.dvd_trans (Ep.P_dvd (by omega)) u2
/-- what holds behind k of them -/
structure GInv (l : List Int) (x : Int) (n k : Nat) : Prop where
  ok : gaOk l x k = true
  q : hasV (gaQ l x k) = true
  qb : (smag (gaQ l x k)).natAbs ≤ Ep.P (n + 1)
  nov : Nov (gaO l x k)
  ob : ∀ i, i < (gaO l x k).length → (smag ((gaO l x k).getD i 0)).natAbs ≤ Ep.P (n + 1)
  gap : ∀ i, i + 1 = (gaO l x k).length → ∃ u, (smag ((gaO l x k).getD i 0)).natAbs < Ep.P u ∧ (Ep.P u : Int) ∣ smag (gaQ l x k) ∧ ∀ j, k ≤ j → j < l.length → (Ep.P u : Int) ∣ smag (l.getD j 0)
  sum : ssum (gaO l x k) + smag (gaQ l x k) = smag x + ssum (l.take k)
theorem ob_snoc {o : List Int} {h : Int} {B : Nat} (ho : ∀ i, i < o.length → (smag (o.getD i 0)).natAbs ≤ B) (hh : (smag h).natAbs ≤ B) : ∀ i, i < (o ++ [h]).length → (smag ((o ++ [h]).getD i 0)).natAbs ≤ B := by
  intro i hi
  rw [List.length_append] at hi
  by_cases hl : i < o.length
  · rw [getD_snoc_lt hl]; exact ho i hl
  · have : i = o.length := by simp at hi; omega
    subst this; rw [getD_snoc_eq]; exact hh
theorem GInv.step {l : List Int} {x : Int} {n k : Nat} (hu : ∀ d ∈ l, 0 ≤ d ∧ d ≤ 18446744073709551615) (x0 : 0 ≤ x) (x1 : x ≤ 18446744073709551615) (hl : Nov l) (n0 : 1975 ≤ n) (n1 : n ≤ 2093) (hb : ∀ i, i < l.length → (smag (l.getD i 0)).natAbs < Ep.P n) (xb : (smag x).natAbs ≤ Ep.P 1974)
    (hk : k < l.length) (I : GInv l x n k) : GInv l x n (k + 1) := by
  have qb := gaQ_bd hu x0 x1 k
  have yb := getD_bd hu k
  obtain ⟨yv, y0'⟩ := hl.val k hk
  have hyb := hb k hk
  -- the step's sum is no more than it may be
  have pn : Ep.P (n + 1) = 2 * Ep.P n := Ep.P_succ _
  have pn1 : Ep.P n = 2 * Ep.P (n - 1) := by rw [← Ep.P_succ]; congr 1; omega
  have px : Ep.P 1974 ≤ Ep.P (n - 1) := Ep.P_le (by omega)
  have hl1 : (ssum (l.take (k + 1))).natAbs < Ep.P n := hl.sum_lt (k + 1) (by omega) n (fun i hi => by rw [show i = k by omega]; exact hyb)
  have ho1 : (ssum (gaO l x k)).natAbs < Ep.P (n - 1) := by
    rcases Nat.eq_zero_or_pos (gaO l x k).length with h0 | h0
    · rw [List.length_eq_zero_iff.1 h0]; simp [ssum]; exact Ep.P_pos _
    · obtain ⟨u, u1, u2, u3⟩ := I.gap ((gaO l x k).length - 1) (by omega)
      have h1 := (P_dvd_lt (u3 k (Nat.le_refl _) hk) y0' hyb).1
      have h2 := I.nov.sum_lt (gaO l x k).length (Nat.le_refl _) u (fun i hi => by rw [show i = (gaO l x k).length - 1 by omega]; exact u1)
      rw [List.take_length] at h2
      exact Nat.lt_of_lt_of_le h2 (Ep.P_le (by omega))
  have hs := I.sum
  have hst := ssum_take (o := l) hk
  have bz : (smag (gaQ l x k) + smag (l.getD k 0)).natAbs ≤ Ep.P (n + 1) := by omega
  obtain ⟨h1, h2, h3, h4⟩ := two_lawB qb.1 qb.2 yb.1 yb.2 (hasV_lt I.q) (hasV_lt yv) (N := n) (by omega) n1 I.qb (by omega) bz
  obtain ⟨eE, eS, eR, -⟩ := ts_yes I.q yv (hasV_of h1)
  have eQ : gaQ l x (k + 1) = plV (gaQ l x k) (l.getD k 0) := eS
  have eO : gaO l x (k + 1) = addO (gaO l x k) (tsR (gaQ l x k) (l.getD k 0)) := rfl
  have hrb := tsR_bd qb.1 qb.2 yb.1 yb.2
  rw [← eR] at h2 h3
  obtain ⟨er1, er2, er3⟩ := Ep.err (rep_smag (gaQ l x k)) (rep_smag (l.getD k 0)) h4
  rw [← h3] at er2 er3
  have sb : (smag (plV (gaQ l x k) (l.getD k 0))).natAbs ≤ Ep.P (n + 1) := by
    have r := Ep.Rep.pow (n + 1)
    have a1 := h4.ge r.neg
    have a2 := h4.le r
    omega
  have hdz : ∀ u, (Ep.P u : Int) ∣ smag (gaQ l x k) → (Ep.P u : Int) ∣ smag (l.getD k 0) → (Ep.P u : Int) ∣ smag (plV (gaQ l x k) (l.getD k 0)) := fun u a b => h4.dvd (Int.dvd_add a b)
  have hok : gaOk l x (k + 1) = true := by
    show (gaOk l x k && _) = true
    rw [I.ok, decide_eq_true eE]; rfl
  by_cases hz : fcls (tsR (gaQ l x k) (l.getD k 0)) = 1
  · have hz0 := smag_z (fcls_zero hz)
    have e : gaO l x (k + 1) = gaO l x k := by rw [eO]; unfold addO; rw [if_pos hz]
    refine ⟨hok, by rw [eQ]; exact hasV_of h1, by rw [eQ]; exact sb, by rw [e]; exact I.nov, by rw [e]; exact I.ob, ?_, ?_⟩
    · rw [e, eQ]
      intro i hi
      obtain ⟨u, u1, u2, u3⟩ := I.gap i hi
      exact ⟨u, u1, hdz u u2 (u3 k (Nat.le_refl _) hk), fun j hj hj2 => u3 j (by omega) hj2⟩
    · rw [e, eQ]; omega
  · have hz0 : smag (tsR (gaQ l x k) (l.getD k 0)) ≠ 0 := fun h => hz (fcls_1 (smag_0 h))
    have e : gaO l x (k + 1) = gaO l x k ++ [tsR (gaQ l x k) (l.getD k 0)] := by rw [eO]; unfold addO; rw [if_neg hz]
    refine ⟨hok, by rw [eQ]; exact hasV_of h1, by rw [eQ]; exact sb, ?_, ?_, ?_, ?_⟩
    · rw [e]
      refine I.nov.snoc (hasV_of h2) hz0 (fun i hi => ?_)
      obtain ⟨u, u1, u2, u3⟩ := I.gap i hi
      have d1 := u3 k (Nat.le_refl _) hk
      exact ⟨u, u1, by rw [h3]; exact Int.dvd_sub (Int.dvd_add u2 d1) (hdz u u2 d1)⟩
    · rw [e]; exact ob_snoc I.ob (by omega)
    · rw [e, eQ]
      intro i hi
      have hi2 : i = (gaO l x k).length := by simp at hi; omega
      subst hi2
      rw [getD_snoc_eq]
      obtain ⟨κ, k1, k2⟩ := nr_low h4 (by intro he; apply hz0; rw [h3]; omega)
      rw [← h3] at k1
      have hh : (smag (tsR (gaQ l x k) (l.getD k 0))).natAbs < Ep.P κ := by have := Ep.P_pos κ; omega
      by_cases hlast : k + 1 < l.length
      · obtain ⟨t, t1, t2⟩ := hl.gap k hlast
        rcases Nat.le_total κ t with hkt | hkt
        · refine ⟨κ, hh, k2, fun j hj hj2 => ?_⟩
          have := hl.later t2 (j - (k + 1)) (by omega)
          rw [show k + 1 + (j - (k + 1)) = j by omega] at this
          exact Int.dvd_trans (Ep.P_dvd hkt) this
        · refine ⟨t, by omega, Int.dvd_trans (Ep.P_dvd hkt) k2, fun j hj hj2 => ?_⟩
          have := hl.later t2 (j - (k + 1)) (by omega)
          rw [show k + 1 + (j - (k + 1)) = j by omega] at this
          exact this
      · exact ⟨κ, hh, k2, fun j hj hj2 => by omega⟩
    · rw [e, eQ, ssum_snoc]; omega
theorem GInv.start {l : List Int} {x : Int} {n : Nat} (n0 : 1975 ≤ n) (hv : hasV x = true) (xb : (smag x).natAbs ≤ Ep.P 1974) : GInv l x n 0 := by
  refine ⟨rfl, hv, Nat.le_trans xb (Ep.P_le (by omega)), Nov.nil, fun i hi => by simp [gaO] at hi, fun i hi => by simp [gaO] at hi, ?_⟩
  simp [gaO, gaQ, ssum]
/-- THE LAW of growing -/
theorem grow_law {l : List Int} {x : Int} {n : Nat} (hu : ∀ d ∈ l, 0 ≤ d ∧ d ≤ 18446744073709551615) (x0 : 0 ≤ x) (x1 : x ≤ 18446744073709551615) (hg : gcE l = 0) (hv : hasV x = true) (n0 : 1975 ≤ n) (n1 : n ≤ 2093)
    (hb : ∀ i, i < l.length → (smag (l.getD i 0)).natAbs < Ep.P n) (xb : (smag x).natAbs ≤ Ep.P 1974) :
    gaE l x = 0 ∧ Nov (gaL l x) ∧ ssum (gaL l x) = smag x + ssum l ∧ (∀ i, i < (gaL l x).length → (smag ((gaL l x).getD i 0)).natAbs ≤ Ep.P (n + 1)) ∧ (gaL l x).length ≤ l.length + 1 := by
  have hl := nov_of_good hu hg
  have inv : ∀ k, k ≤ l.length → GInv l x n k := by
    intro k
    induction k with
    | zero => intro _; exact GInv.start n0 hv xb
    | succ k ih => intro hk; exact (ih (by omega)).step hu x0 x1 hl n0 n1 hb xb (by omega)
  have I := inv l.length (Nat.le_refl _)
  have eE : gaE l x = 0 := by unfold gaE; rw [if_pos hg, if_pos hv, if_pos I.ok]
  have eL : gaL l x = addO (gaO l x l.length) (gaQ l x l.length) := by unfold gaL; rw [if_pos eE]
  have hlen := gaO_len l x l.length
  have hlen2 := addO_len (gaO l x l.length) (gaQ l x l.length)
  have hs := I.sum
  rw [List.take_length] at hs
  refine ⟨eE, ?_, ?_, ?_, by rw [eL]; omega⟩
  all_goals rw [eL]; unfold addO; split
  · exact I.nov
  · rename_i hz
    refine I.nov.snoc I.q (fun h => hz (fcls_1 (smag_0 h))) (fun i hi => ?_)
    obtain ⟨u, u1, u2, -⟩ := I.gap i hi
    exact ⟨u, u1, u2⟩
  · rename_i hz
    have := smag_z (fcls_zero hz); omega
  · rw [ssum_snoc]; omega
  · exact I.ob
  · exact ob_snoc I.ob I.qb
end Go.Proofs.YtapdjclhpcakeaaDoor
