/-
  PLAIN: what the law SpanParts asks: sums and products of spans in whatever order; small whole numbers are exact.
-/
import Derived.Test.YtfnchcogdmpojaaDoorSg
import Derived.Test.YtfnchcogdmpojaaDoorSj
import Derived.Test.YtfnchcogdmpojaaDoorWx
set_option linter.unusedVariables false
set_option linter.unusedSimpArgs false
namespace Go.Proofs.YtfnchcogdmpojaaDoor
open Go.RowKit Nt Fm Fl

theorem spE2_swap (a b c d : Int) : spE2 a b c d = spE2 c d a b := by
  unfold spE2
  rcases spE_3 a b with h | h <;> rcases spE_3 c d with k | k <;> rw [h, k] <;> rfl
theorem adV_swap (x y m : Int) : adV x y m = adV y x m := by unfold adV; rw [(two_swap x y m).1]
theorem sa_swap (a b c d : Int) : saLo a b c d = saLo c d a b ∧ saHi a b c d = saHi c d a b := by
  unfold saLo saHi
  rw [spE2_swap a b c d, adV_swap a c, adV_swap b d]; exact ⟨rfl, rfl⟩
theorem same_end {x y : Int} (ux : U64 x) (uy : U64 y) (nx : frerr x = 0) (ny : frerr y = 0) (zx : x ≠ 9223372036854775808) (zy : y ≠ 9223372036854775808) (h : frank x = frank y) : x = y := by
  have := plV_eq ux.1 ux.2 uy.1 uy.2 nx ny h
  unfold plV at this
  rwa [if_neg zx, if_neg zy] at this
theorem ml_swap {a b c d : Int} (ua : U64 a) (ub : U64 b) (uc : U64 c) (ud : U64 d) : mlLo a b c d = mlLo c d a b ∧ mlHi a b c d = mlHi c d a b := by
  unfold mlLo mlHi
  rw [spE2_swap a b c d]
  by_cases e : spE2 c d a b = 0
  · rw [if_pos e, if_pos e, if_pos e, if_pos e]
    obtain ⟨e1, e2⟩ := spE2_zero.1 e
    have h := (spE_ok ua.1 ua.2 ub.1 ub.2).1 e2
    have k := (spE_ok uc.1 uc.2 ud.1 ud.2).1 e1
    have M := mul_spr ua ub uc ud h k
    have N := mul_spr uc ud ua ub k h
    have E : ∀ {a b x : Int}, U64 a → U64 b → SpOK a b → (x = a ∨ x = b) → En x ∧ frank a ≤ frank x ∧ frank x ≤ frank b := by
      intro a b x ua ub h hx
      have := h.le
      rcases hx with rfl | rfl
      · exact ⟨⟨ua.1, ua.2, h.na⟩, Int.le_refl _, h.le⟩
      · exact ⟨⟨ub.1, ub.2, h.nb⟩, h.le, Int.le_refl _⟩
    have L : ∀ {a b c d : Int}, U64 a → U64 b → U64 c → U64 d → SpOK a b → SpOK c d → frank (cnLo clOk clV a b c d) ≤ frank (cnLo clOk clV c d a b) ∧ frank (cnHi clOk clV c d a b) ≤ frank (cnHi clOk clV a b c d) := by
      intro a b c d ua ub uc ud h k
      have M := mul_spr ua ub uc ud h k
      have N := mul_spr uc ud ua ub k h
      obtain ⟨x, y, hx, hy, e⟩ := N.lc
      obtain ⟨x', y', hx', hy', e'⟩ := N.hc
      obtain ⟨p1, p2, p3⟩ := E uc ud k hx
      obtain ⟨q1, q2, q3⟩ := E ua ub h hy
      obtain ⟨p1', p2', p3'⟩ := E uc ud k hx'
      obtain ⟨q1', q2', q3'⟩ := E ua ub h hy'
      have A := M.L y x q1 p1 q2 q3 p2 p3
      have B := M.H y' x' q1' p1' q2' q3' p2' p3'
      rw [e, e', mu_swap x y, mu_swap x' y']; exact ⟨A, B⟩
    have A := L ua ub uc ud h k
    have B := L uc ud ua ub k h
    exact ⟨same_end M.ul N.ul M.ok.na N.ok.na M.ok.za N.ok.za (by omega), same_end M.uh N.uh M.ok.nb N.ok.nb M.ok.zb N.ok.zb (by omega)⟩
  · rw [if_neg e, if_neg e, if_neg e, if_neg e]; exact ⟨rfl, rfl⟩
/-- a number that is a whole one: n times so much -/
structure Wh (t : Nat) (x n : Int) : Prop where
  u : U64 x
  f : fabs x < 9218868437227405312
  v : smag x = n * ((2 ^ t : Nat) : Int)
theorem Wh.en {t : Nat} {x n : Int} (h : Wh t x n) : En x := ⟨h.u.1, h.u.2, by have := h.f; unfold frerr; rw [if_neg (by omega)]⟩
theorem smag_le {x y : Int} (ux : U64 x) (uy : U64 y) (fx : fabs x < 9218868437227405312) (fy : fabs y < 9218868437227405312) : frank x ≤ frank y ↔ smag x ≤ smag y := ⟨smag_mono fx fy, frank_of_smag fx fy⟩
theorem pw_le {t : Nat} {n m : Int} : n * ((2 ^ t : Nat) : Int) ≤ m * ((2 ^ t : Nat) : Int) ↔ n ≤ m := by
  have h : (0 : Int) < ((2 ^ t : Nat) : Int) := by exact_mod_cast Nat.two_pow_pos t
  exact ⟨fun k => Int.le_of_mul_le_mul_right k h, fun k => Int.mul_le_mul_of_nonneg_right k (Int.le_of_lt h)⟩
theorem Wh.le {t : Nat} {x y n m : Int} (h : Wh t x n) (k : Wh t y m) : frank x ≤ frank y ↔ n ≤ m := by
  rw [smag_le h.u k.u h.f k.f, h.v, k.v, pw_le]
theorem smag_pl (x : Int) : smag (plV x) = smag x ∧ (fabs (plV x) = fabs x) := by
  unfold plV; split <;> rename_i h
  · subst h; exact ⟨by unfold smag; simp [fng, fabs, mag_zero], by decide⟩
  · exact ⟨rfl, rfl⟩
theorem Wh.pl {t : Nat} {x n : Int} (h : Wh t x n) : Wh t (plV x) n := ⟨plV_u h.u, by rw [(smag_pl x).2]; exact h.f, by rw [(smag_pl x).1]; exact h.v⟩
theorem Wh.add {t : Nat} (ht : t = 1074) {x y n m : Int} (mode : Int) (h : Wh t x n) (k : Wh t y m) (hb : (n + m).natAbs ≤ 9007199254740992) : Wh t (allV [x, y] mode) (n + m) := by
  have hf : ∀ v ∈ [x, y], fabs v < 9218868437227405312 := by intro v hv; simp at hv; rcases hv with rfl | rfl; · exact h.f
                                                             · exact k.f
  obtain ⟨s1, s2⟩ := sumD_two_vl h.u.1 h.u.2 k.u.1 k.u.2 h.f k.f
  have hv : (sumD [x, y]).vl 1074 = (n + m) * ((2 ^ t : Nat) : Int) := by rw [s1, h.v, k.v, Int.add_mul]
  obtain ⟨r, r1, r2⟩ := int_float hb t ht
  have hc : allC [x, y] = false := by
    rw [(allV_fin [x, y] hf mode).2.2.1]
    refine chg_of2 0 s2 r1 ?_
    show ((sumD [x, y]).vl 1074).natAbs = _
    rw [hv, Int.natAbs_mul, r2, Nat.pow_zero, Nat.mul_one]; rfl
  obtain ⟨e1, e2⟩ := allV_exact hf mode hc
  have hu := allV_u (mode := mode) h.u k.u
  have hfin := hasV_fin e1
  exact ⟨hu, hfin, by rw [← valD_sm hu.1 hu.2 hfin, e2]; exact hv⟩
theorem Wh.mul {t : Nat} (ht : t = 1074) {x y n m : Int} (mode : Int) (h : Wh t x n) (k : Wh t y m) (hb : (n * m).natAbs ≤ 9007199254740992) : Wh t (muV0 x y mode) (n * m) := by
  obtain ⟨s1, s2⟩ := prD_vl' h.u.1 h.u.2 k.u.1 k.u.2 h.f k.f t ht
  have hv : (prD x y).vl (1074 + t) = n * m * ((2 ^ t : Nat) : Int) * ((2 ^ t : Nat) : Int) := by
    rw [s1, h.v, k.v]
    generalize ((2 ^ t : Nat) : Int) = T
    rw [Int.mul_assoc, Int.mul_left_comm T m T, ← Int.mul_assoc, ← Int.mul_assoc, Int.mul_assoc (n * m)]
  obtain ⟨r, r1, r2⟩ := int_float hb t ht
  have hc : muC0 x y = false := by
    rw [(mu_fin h.f k.f mode).2.1]
    refine chg_of2 t s2 r1 ?_
    rw [hv, Int.natAbs_mul, Int.natAbs_mul, r2]; rfl
  have hu := muV0_bd x y mode
  rcases mu_exact h.f k.f mode with ⟨-, e1, e2⟩ | ⟨e1, -⟩
  · have hfin := hasV_fin e1
    refine ⟨hu, hfin, ?_⟩
    have h5 := valD_vl (muV0 x y mode) hu.1 hu.2 hfin t
    rw [e2, hv] at h5
    have hp : (0 : Int) < ((2 ^ t : Nat) : Int) := by exact_mod_cast Nat.two_pow_pos t
    refine Int.eq_of_mul_eq_mul_right (Int.ne_of_gt hp) ?_
    rw [h5]
    unfold smag
    split
    · rw [Int.neg_mul]; push_cast; rfl
    · push_cast; rfl
  · rw [hc] at e1; exact absurd e1 (by decide)
/-- what is small is a whole one -/
theorem small_wh {t : Nat} (ht : t = 1074) {x : Int} (ux : U64 x) (h : smB x = true) : Wh t x (woN x) ∧ -1000 ≤ woN x ∧ woN x ≤ 1000 := by
  unfold smB woB at h
  simp only [Bool.and_eq_true, beq_iff_eq, decide_eq_true_eq] at h
  obtain ⟨⟨h1, h2⟩, h3, h4⟩ := h
  refine ⟨?_, h3, h4⟩
  have hv : woN x = inV x 0 := by unfold woN; rw [if_pos h1]
  unfold isW at h1
  simp only [Bool.and_eq_true, decide_eq_true_eq] at h1
  have hf := hasV_fin h1.1
  refine ⟨ux, hf, ?_⟩
  have hr : inR x 0 = valD x := by
    unfold inR
    have := (mul_same (d := valD x) (pl := 0) (mode := 0) (valD_nf x) (by decide) (by decide)).1
    apply this
    unfold mulC; rw [if_pos (Or.inl h1.2)]
  rw [hv]; unfold inV; rw [if_pos h2]; unfold inM; rw [hr]
  rw [← valD_sm ux.1 ux.2 hf, vl_abs]
  have e : (valD x).m * 2 ^ ((valD x).e + ((1074 : Nat) : Int)).toNat = (valD x).m * 2 ^ (valD x).e.toNat * 2 ^ t := by
    rw [Nat.mul_assoc, ← Nat.pow_add]; congr 2; omega
  rw [e]
  split
  · push_cast; rw [Int.neg_mul]
  · push_cast; rfl
/-- a span of whole numbers -/
structure WS (t : Nat) (a b p q : Int) : Prop where
  ok : SpOK a b
  lo : Wh t a p
  hi : Wh t b q
theorem WS.add {t : Nat} (ht : t = 1074) {a b c d p q r s : Int} (h : WS t a b p q) (k : WS t c d r s) (h1 : (p + r).natAbs ≤ 9007199254740992) (h2 : (q + s).natAbs ≤ 9007199254740992) :
    spE2 a b c d = 0 ∧ WS t (saLo a b c d) (saHi a b c d) (p + r) (q + s) := by
  obtain ⟨e1, e2, -, -⟩ := add_ok h.lo.u h.hi.u k.lo.u k.hi.u h.ok k.ok
  refine ⟨e2, e1, ?_, ?_⟩
  · unfold saLo; rw [if_pos e2, (adV_12 a c).2]; exact (Wh.add ht 2 h.lo k.lo h1).pl
  · unfold saHi; rw [if_pos e2, (adV_12 b d).1]; exact (Wh.add ht 1 h.hi k.hi h2).pl
theorem wh_of_rank {t : Nat} {x y n : Int} (ux : U64 x) (nx : frerr x = 0) (h : Wh t y n) (e : frank x = frank y) : Wh t x n := by
  have fx : fabs x < 9218868437227405312 := by
    have hy := h.en
    rcases fin_rank hy.2.2 with ⟨q, r1, r2⟩ | ⟨q, -⟩
    · rcases fin_rank nx with ⟨p, -⟩ | ⟨-, p⟩
      · exact p
      · omega
    · have := h.f; omega
  refine ⟨ux, fx, ?_⟩
  have a := (smag_le ux h.u fx h.f).1 (by omega)
  have b := (smag_le h.u ux h.f fx).1 (by omega)
  have := h.v
  omega
/-- of whole numbers the product: between the products of the ends, each of them one -/
theorem WS.mul {t : Nat} (ht : t = 1074) {a b c d p q r s : Int} (h : WS t a b p q) (k : WS t c d r s) (h1 : (p * r).natAbs ≤ 9007199254740992) (h2 : (p * s).natAbs ≤ 9007199254740992) (h3 : (q * r).natAbs ≤ 9007199254740992) (h4 : (q * s).natAbs ≤ 9007199254740992) :
    spE2 a b c d = 0 ∧ ∃ u v, WS t (mlLo a b c d) (mlHi a b c d) u v ∧ (∃ i j, (i = p ∨ i = q) ∧ (j = r ∧ i * r = u ∨ j = s ∧ i * s = u)) ∧ (∃ i j, (i = p ∨ i = q) ∧ (j = r ∧ i * r = v ∨ j = s ∧ i * s = v)) ∧
      (u ≤ p * r ∧ u ≤ p * s ∧ u ≤ q * r ∧ u ≤ q * s) ∧ (p * r ≤ v ∧ p * s ≤ v ∧ q * r ≤ v ∧ q * s ≤ v) := by
  have e2 := (add_ok h.lo.u h.hi.u k.lo.u k.hi.u h.ok k.ok).2.1
  obtain ⟨m1, m2⟩ := mul_e h.lo.u h.hi.u k.lo.u k.hi.u h.ok k.ok
  have M := mul_spr h.lo.u h.hi.u k.lo.u k.hi.u h.ok k.ok
  have W1 := fun m => Wh.mul ht m h.lo k.lo h1
  have W2 := fun m => Wh.mul ht m h.lo k.hi h2
  have W3 := fun m => Wh.mul ht m h.hi k.lo h3
  have W4 := fun m => Wh.mul ht m h.hi k.hi h4
  have hle := h.ok.le
  have kle := k.ok.le
  have ea := h.lo.en
  have eb := h.hi.en
  have ec := k.lo.en
  have ed := k.hi.en
  have lo : ∃ u, Wh t (cnLo clOk clV a b c d) u ∧ ∃ i j, (i = p ∨ i = q) ∧ (j = r ∧ i * r = u ∨ j = s ∧ i * s = u) := by
    obtain ⟨x, y, hx, hy, e⟩ := M.lc
    rcases hx with rfl | rfl <;> rcases hy with rfl | rfl
    · exact ⟨_, wh_of_rank M.ul M.ok.na (W1 2) e, p, r, Or.inl rfl, Or.inl ⟨rfl, rfl⟩⟩
    · exact ⟨_, wh_of_rank M.ul M.ok.na (W2 2) e, p, s, Or.inl rfl, Or.inr ⟨rfl, rfl⟩⟩
    · exact ⟨_, wh_of_rank M.ul M.ok.na (W3 2) e, q, r, Or.inr rfl, Or.inl ⟨rfl, rfl⟩⟩
    · exact ⟨_, wh_of_rank M.ul M.ok.na (W4 2) e, q, s, Or.inr rfl, Or.inr ⟨rfl, rfl⟩⟩
  have hi : ∃ u, Wh t (cnHi clOk clV a b c d) u ∧ ∃ i j, (i = p ∨ i = q) ∧ (j = r ∧ i * r = u ∨ j = s ∧ i * s = u) := by
    obtain ⟨x, y, hx, hy, e⟩ := M.hc
    rcases hx with rfl | rfl <;> rcases hy with rfl | rfl
    · exact ⟨_, wh_of_rank M.uh M.ok.nb (W1 1) e, p, r, Or.inl rfl, Or.inl ⟨rfl, rfl⟩⟩
    · exact ⟨_, wh_of_rank M.uh M.ok.nb (W2 1) e, p, s, Or.inl rfl, Or.inr ⟨rfl, rfl⟩⟩
    · exact ⟨_, wh_of_rank M.uh M.ok.nb (W3 1) e, q, r, Or.inr rfl, Or.inl ⟨rfl, rfl⟩⟩
    · exact ⟨_, wh_of_rank M.uh M.ok.nb (W4 1) e, q, s, Or.inr rfl, Or.inr ⟨rfl, rfl⟩⟩
  obtain ⟨u, hu, lu⟩ := lo
  obtain ⟨v, hv, lv⟩ := hi
  refine ⟨e2, u, v, ⟨by rw [m1, m2]; exact M.ok, by rw [m1]; exact hu, by rw [m2]; exact hv⟩, lu, lv, ?_, ?_⟩
  · exact ⟨(hu.le (W1 2)).1 (M.L a c ea ec (Int.le_refl _) hle (Int.le_refl _) kle), (hu.le (W2 2)).1 (M.L a d ea ed (Int.le_refl _) hle kle (Int.le_refl _)),
      (hu.le (W3 2)).1 (M.L b c eb ec hle (Int.le_refl _) (Int.le_refl _) kle), (hu.le (W4 2)).1 (M.L b d eb ed hle (Int.le_refl _) kle (Int.le_refl _))⟩
  · exact ⟨((W1 1).le hv).1 (M.H a c ea ec (Int.le_refl _) hle (Int.le_refl _) kle), ((W2 1).le hv).1 (M.H a d ea ed (Int.le_refl _) hle kle (Int.le_refl _)),
      ((W3 1).le hv).1 (M.H b c eb ec hle (Int.le_refl _) (Int.le_refl _) kle), ((W4 1).le hv).1 (M.H b d eb ed hle (Int.le_refl _) kle (Int.le_refl _))⟩
theorem prod_bd {n m B C : Int} (hn : -B ≤ n ∧ n ≤ B) (hm : -C ≤ m ∧ m ≤ C) : -(B * C) ≤ n * m ∧ n * m ≤ B * C := by
  have hB : 0 ≤ B := by omega
  have hC : 0 ≤ C := by omega
  have h : (n * m).natAbs ≤ (B * C).natAbs := by
    rw [Int.natAbs_mul, Int.natAbs_mul]
    exact Nat.mul_le_mul (by omega) (by omega)
  have h2 : 0 ≤ B * C := Int.mul_nonneg hB hC
  generalize n * m = z at *
  generalize B * C = k at *
  omega
theorem spanParts_b {a a' b b' c c' : Int} (ua : U64 a) (ua' : U64 a') (ub : U64 b) (ub' : U64 b') (uc : U64 c) (uc' : U64 c') (he : spE2 a a' b b' = 0) (hc : spE c c' = 0)
    (s1 : smB a = true) (s2 : smB a' = true) (s3 : smB b = true) (s4 : smB b' = true) (s5 : smB c = true) (s6 : smB c' = true) :
    spE2 b b' c c' = 0 ∧ spE2 a a' (saLo b b' c c') (saHi b b' c c') = 0 ∧ spE2 a a' c c' = 0 ∧ spE2 (mlLo a a' b b') (mlHi a a' b b') (mlLo a a' c c') (mlHi a a' c c') = 0 ∧
    spE2 (mlLo a a' (saLo b b' c c') (saHi b b' c c')) (mlHi a a' (saLo b b' c c') (saHi b b' c c')) (saLo (mlLo a a' b b') (mlHi a a' b b') (mlLo a a' c c') (mlHi a a' c c')) (saHi (mlLo a a' b b') (mlHi a a' b b') (mlLo a a' c c') (mlHi a a' c c')) = 0 ∧
    wiB (mlLo a a' (saLo b b' c c') (saHi b b' c c')) (mlHi a a' (saLo b b' c c') (saHi b b' c c')) (saLo (mlLo a a' b b') (mlHi a a' b b') (mlLo a a' c c') (mlHi a a' c c')) (saHi (mlLo a a' b b') (mlHi a a' b b') (mlLo a a' c c') (mlHi a a' c c')) = true := by
  obtain ⟨e1, e2⟩ := spE2_zero.1 he
  have h := (spE_ok ua.1 ua.2 ua'.1 ua'.2).1 e1
  have k := (spE_ok ub.1 ub.2 ub'.1 ub'.2).1 e2
  have m := (spE_ok uc.1 uc.2 uc'.1 uc'.2).1 hc
  obtain ⟨t, ht⟩ : ∃ t : Nat, t = 1074 := ⟨_, rfl⟩
  obtain ⟨w1, x1, y1⟩ := small_wh ht ua s1
  obtain ⟨w2, x2, y2⟩ := small_wh ht ua' s2
  obtain ⟨w3, x3, y3⟩ := small_wh ht ub s3
  obtain ⟨w4, x4, y4⟩ := small_wh ht ub' s4
  obtain ⟨w5, x5, y5⟩ := small_wh ht uc s5
  obtain ⟨w6, x6, y6⟩ := small_wh ht uc' s6
  generalize woN a = p at *
  generalize woN a' = p' at *
  generalize woN b = q at *
  generalize woN b' = q' at *
  generalize woN c = r at *
  generalize woN c' = r' at *
  have A : WS t a a' p p' := ⟨h, w1, w2⟩
  have B : WS t b b' q q' := ⟨k, w3, w4⟩
  have C : WS t c c' r r' := ⟨m, w5, w6⟩
  have P := fun {n m : Int} (B C : Int) => @prod_bd n m B C
  obtain ⟨f1, BC⟩ := B.add ht C (by omega) (by omega)
  have b1 := P (n := p) (m := q) 1000 1000 (by omega) (by omega)
  have b2 := P (n := p) (m := q') 1000 1000 (by omega) (by omega)
  have b3 := P (n := p') (m := q) 1000 1000 (by omega) (by omega)
  have b4 := P (n := p') (m := q') 1000 1000 (by omega) (by omega)
  have c1 := P (n := p) (m := r) 1000 1000 (by omega) (by omega)
  have c2 := P (n := p) (m := r') 1000 1000 (by omega) (by omega)
  have c3 := P (n := p') (m := r) 1000 1000 (by omega) (by omega)
  have c4 := P (n := p') (m := r') 1000 1000 (by omega) (by omega)
  have d1 : p * (q + r) = p * q + p * r := Int.mul_add _ _ _
  have d2 : p * (q' + r') = p * q' + p * r' := Int.mul_add _ _ _
  have d3 : p' * (q + r) = p' * q + p' * r := Int.mul_add _ _ _
  have d4 : p' * (q' + r') = p' * q' + p' * r' := Int.mul_add _ _ _
  obtain ⟨f2, u, v, AB, l1, l2, l3, l4⟩ := A.mul ht B (by omega) (by omega) (by omega) (by omega)
  obtain ⟨f3, u2, v2, AC, n1, n2, n3, n4⟩ := A.mul ht C (by omega) (by omega) (by omega) (by omega)
  obtain ⟨f4, u3, v3, X, o1, o2, o3, o4⟩ := A.mul ht BC (by omega) (by omega) (by omega) (by omega)
  have z1 : -1000000 ≤ u ∧ u ≤ 1000000 ∧ -1000000 ≤ v ∧ v ≤ 1000000 := by
    obtain ⟨i, j, hi, hj⟩ := l1
    obtain ⟨i', j', hi', hj'⟩ := l2
    rcases hi with rfl | rfl <;> rcases hj with ⟨-, e⟩ | ⟨-, e⟩ <;> rcases hi' with rfl | rfl <;> rcases hj' with ⟨-, e'⟩ | ⟨-, e'⟩ <;> omega
  have z2 : -1000000 ≤ u2 ∧ u2 ≤ 1000000 ∧ -1000000 ≤ v2 ∧ v2 ≤ 1000000 := by
    obtain ⟨i, j, hi, hj⟩ := n1
    obtain ⟨i', j', hi', hj'⟩ := n2
    rcases hi with rfl | rfl <;> rcases hj with ⟨-, e⟩ | ⟨-, e⟩ <;> rcases hi' with rfl | rfl <;> rcases hj' with ⟨-, e'⟩ | ⟨-, e'⟩ <;> omega
  obtain ⟨f5, Y⟩ := AB.add ht AC (by omega) (by omega)
  have W := wi_of X.lo.u X.hi.u Y.lo.u Y.hi.u X.ok Y.ok ((Y.lo.le X.lo).2 (by
    obtain ⟨i, j, hi, hj⟩ := o1
    rcases hi with rfl | rfl <;> rcases hj with ⟨-, e⟩ | ⟨-, e⟩ <;> omega)) ((X.hi.le Y.hi).2 (by
    obtain ⟨i, j, hi, hj⟩ := o2
    rcases hi with rfl | rfl <;> rcases hj with ⟨-, e⟩ | ⟨-, e⟩ <;> omega))
  exact ⟨f1, f4, f3, f5, W.1, W.2⟩
end Go.Proofs.YtfnchcogdmpojaaDoor
