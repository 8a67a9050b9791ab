/-
  PLAIN: what the law SpanHolds asks.
-/
import Derived.Test.YtfnchcogdmpojaaDoorMg
import Derived.Test.YtfnchcogdmpojaaDoorSu
import Derived.Test.YtfnchcogdmpojaaDoorSb
set_option linter.unusedVariables false
set_option linter.unusedSimpArgs false
namespace Go.Proofs.YtfnchcogdmpojaaDoor
open Go.RowKit Nt Fm Fl

theorem hasV_fin {x : Int} (h : hasV x = true) : fabs x < 9218868437227405312 := by unfold hasV at h; simpa using h
theorem HasB_iff {a b x : Int} (ua : U64 a) (ub : U64 b) (ux : U64 x) : HasB a b x = true ↔ SpOK a b ∧ En x ∧ fabs x < 9218868437227405312 ∧ frank a ≤ frank x ∧ frank x ≤ frank b := by
  unfold HasB hasB
  simp only [Bool.and_eq_true, decide_eq_true_eq]
  rw [spE_ok ua.1 ua.2 ub.1 ub.2, amB_iff, amB_iff]
  constructor
  · rintro ⟨h1, h2, h3, h4⟩
    exact ⟨h1, ⟨ux.1, ux.2, h3.2.1⟩, hasV_fin h2, h3.2.2, h4.2.2⟩
  · rintro ⟨h1, h2, h3, h4, h5⟩
    exact ⟨h1, by unfold hasV; simpa using h3, ⟨h1.na, h2.2.2, h4⟩, ⟨h2.2.2, h1.nb, h5⟩⟩
theorem allV_u {x y mode : Int} (ux : U64 x) (uy : U64 y) : U64 (allV [x, y] mode) := allV_bd _ (by simp; exact ⟨ux, uy⟩) _
theorem adV_u {x y mode : Int} (ux : U64 x) (uy : U64 y) : U64 (adV x y mode) := by
  have := allV_u (mode := mode) ux uy
  unfold adV; split
  · exact this
  · unfold U64; omega
theorem spanHolds_b {x y mode : Int} (ux : U64 x) (uy : U64 y) : U64 (adV x y mode) ∧ U64 (adV x (fneg y) mode) ∧ U64 (muV x y mode) ∧ U64 (dvV x y mode) :=
  ⟨adV_u ux uy, adV_u ux (fneg_in uy.1 uy.2), muV_bd x y mode, dvV_bd x y mode⟩
theorem cnS_bd {ok : Int → Int → Bool} {v : Int → Int → Int → Int} (hv : ∀ x y m, U64 (v x y m)) {s : Cn} (x y : Int) (h : U64 s.lo ∧ U64 s.hi) : U64 (cnS ok v s x y).lo ∧ U64 (cnS ok v s x y).hi := by
  unfold cnS; split
  · refine ⟨?_, ?_⟩
    · show U64 (if _ then _ else _); split
      · exact hv _ _ _
      · exact h.1
    · show U64 (if _ then _ else _); split
      · exact hv _ _ _
      · exact h.2
  · exact h
theorem cn_u {ok : Int → Int → Bool} {v : Int → Int → Int → Int} (hv : ∀ x y m, U64 (v x y m)) (a b c d : Int) : U64 (cnLo ok v a b c d) ∧ U64 (cnHi ok v a b c d) := by
  have h := cnS_bd hv (ok := ok) b d (cnS_bd hv (ok := ok) b c (cnS_bd hv (ok := ok) a d (cnS_bd hv (ok := ok) (s := ⟨true, 0, 0⟩) a c ⟨by unfold U64; decide, by unfold U64; decide⟩)))
  exact ⟨plV_u h.1, plV_u h.2⟩
theorem u_ite {p : Prop} [Decidable p] {x : Int} (h : U64 x) : U64 (if p then x else 0) := by
  split
  · exact h
  · exact ⟨by decide, by decide⟩
theorem sa_u {a b c d : Int} (ua : U64 a) (ub : U64 b) (uc : U64 c) (ud : U64 d) : U64 (saLo a b c d) ∧ U64 (saHi a b c d) :=
  ⟨u_ite (plV_u (adV_u ua uc)), u_ite (plV_u (adV_u ub ud))⟩
theorem ng_u {x : Int} (h : U64 x) : U64 (plV (fneg x)) := plV_u (fneg_in h.1 h.2)
theorem spanHolds_c {a b c d : Int} (ua : U64 a) (ub : U64 b) (uc : U64 c) (ud : U64 d) : (U64 (saLo a b c d) ∧ U64 (saHi a b c d)) ∧ (U64 (suLo a b c d) ∧ U64 (suHi a b c d)) ∧ (U64 (mlLo a b c d) ∧ U64 (mlHi a b c d)) ∧ (U64 (diLo a b c d) ∧ U64 (diHi a b c d)) := by
  have s := sa_u ua ub (ng_u ud) (ng_u uc)
  have m := cn_u (ok := clOk) clV_bd a b c d
  have q := cn_u (ok := dlOk) dlV_bd a b c d
  exact ⟨sa_u ua ub uc ud, ⟨u_ite s.1, u_ite s.2⟩, ⟨u_ite m.1, u_ite m.2⟩, ⟨u_ite q.1, u_ite q.2⟩⟩
theorem adV_12 (x y : Int) : adV x y 1 = allV [x, y] 1 ∧ adV x y 2 = allV [x, y] 2 := ⟨rfl, rfl⟩
theorem adV_k {mode : Int} (h : knownB mode = true) (x y : Int) : adV x y mode = allV [x, y] mode := by unfold adV; rw [h]; rfl
/-- sums -/
theorem add_ok {a b c d : Int} (ua : U64 a) (ub : U64 b) (uc : U64 c) (ud : U64 d) (h : SpOK a b) (k : SpOK c d) : SpOK (saLo a b c d) (saHi a b c d) ∧ spE2 a b c d = 0 ∧ frank (saLo a b c d) = frank (allV [a, c] 2) ∧ frank (saHi a b c d) = frank (allV [b, d] 1) := by
  have e : spE2 a b c d = 0 := spE2_zero.2 ⟨(spE_ok ua.1 ua.2 ub.1 ub.2).2 h, (spE_ok uc.1 uc.2 ud.1 ud.2).2 k⟩
  unfold saLo saHi
  rw [if_pos e, if_pos e, (adV_12 a c).2, (adV_12 b d).1]
  exact ⟨SpOK.sum ua.1 ua.2 ub.1 ub.2 uc.1 uc.2 ud.1 ud.2 h k, e, (plV_facts _).1, (plV_facts _).1⟩
theorem add_in {a b c d x y : Int} (mode : Int) (ua : U64 a) (ub : U64 b) (uc : U64 c) (ud : U64 d) (h : SpOK a b) (k : SpOK c d) (ex : En x) (fx : fabs x < 9218868437227405312) (ey : En y) (fy : fabs y < 9218868437227405312)
    (ax : frank a ≤ frank x) (xb : frank x ≤ frank b) (cy : frank c ≤ frank y) (yd : frank y ≤ frank d) : frerr (allV [x, y] mode) = 0 ∧ frank (saLo a b c d) ≤ frank (allV [x, y] mode) ∧ frank (allV [x, y] mode) ≤ frank (saHi a b c d) := by
  obtain ⟨-, -, e1, e2⟩ := add_ok ua ub uc ud h k
  rw [e1, e2]
  have rx : -9218868437227405312 < frank x ∧ frank x < 9218868437227405312 := by rcases fin_rank ex.2.2 with ⟨_, q⟩ | ⟨q, _⟩ <;> omega
  have ry : -9218868437227405312 < frank y ∧ frank y < 9218868437227405312 := by rcases fin_rank ey.2.2 with ⟨_, q⟩ | ⟨q, _⟩ <;> omega
  have S := sum_sides mode fx fy
  have l := sum_le 2 ua.1 ua.2 ex.1 ex.2.1 uc.1 uc.2 ey.1 ey.2.1 h.na ex.2.2 k.na ey.2.2 (Or.inl ⟨rx.2, ry.2⟩) ax cy
  have u := sum_le 1 ex.1 ex.2.1 ub.1 ub.2 ey.1 ey.2.1 ud.1 ud.2 ex.2.2 h.nb ey.2.2 k.nb (Or.inr ⟨rx.1, ry.1⟩) xb yd
  exact ⟨(sum_end mode ex.1 ex.2.1 ey.1 ey.2.1 ex.2.2 ey.2.2 (Or.inl ⟨rx.2, ry.2⟩)).1, by omega, by omega⟩
/-- turned -/
theorem SpOK.neg {a b : Int} (ua : U64 a) (ub : U64 b) (h : SpOK a b) : SpOK (plV (fneg b)) (plV (fneg a)) ∧ frank (plV (fneg a)) = -frank a ∧ frank (plV (fneg b)) = -frank b := by
  have fa := frank_fneg ua.1 ua.2
  have fb := frank_fneg ub.1 ub.2
  have a1 := h.na
  have b1 := h.nb
  have l := h.lo
  have u := h.hi
  have le := h.le
  refine ⟨sp_pl (by omega) (by omega) (by omega) (by omega) (by omega), ?_, ?_⟩
  · rw [(plV_facts _).1, fa.1]
  · rw [(plV_facts _).1, fb.1]
theorem sub_e {a b c d : Int} (ua : U64 a) (ub : U64 b) (uc : U64 c) (ud : U64 d) (h : SpOK a b) (k : SpOK c d) : suE a b c d = 0 ∧ suLo a b c d = saLo a b (plV (fneg d)) (plV (fneg c)) ∧ suHi a b c d = saHi a b (plV (fneg d)) (plV (fneg c)) := by
  have e := (add_ok ua ub uc ud h k).2.1
  have e2 := (add_ok ua ub (ng_u ud) (ng_u uc) h (k.neg uc ud).1).2.1
  unfold suE suLo suHi
  rw [if_pos e, if_pos e, if_pos e]
  exact ⟨e2, rfl, rfl⟩
theorem mul_e {a b c d : Int} (ua : U64 a) (ub : U64 b) (uc : U64 c) (ud : U64 d) (h : SpOK a b) (k : SpOK c d) : mlLo a b c d = cnLo clOk clV a b c d ∧ mlHi a b c d = cnHi clOk clV a b c d := by
  have e := (add_ok ua ub uc ud h k).2.1
  unfold mlLo mlHi
  rw [if_pos e, if_pos e]; exact ⟨rfl, rfl⟩
theorem rank0 : frank 0 = 0 ∧ frerr 0 = 0 ∧ fabs 0 = 0 := by decide
theorem div_e {a b c d : Int} (ua : U64 a) (ub : U64 b) (uc : U64 c) (ud : U64 d) (h : SpOK a b) (k : SpOK c d) : (diE a b c d = 1 ∧ HasB c d 0 = true ∧ ¬ (0 < frank c ∨ frank d < 0)) ∨ (diE a b c d = 0 ∧ (0 < frank c ∨ frank d < 0) ∧ diLo a b c d = cnLo dlOk dlV a b c d ∧ diHi a b c d = cnHi dlOk dlV a b c d) := by
  have e := (add_ok ua ub uc ud h k).2.1
  obtain ⟨z1, z2, z3⟩ := rank0
  by_cases hz : 0 < frank c ∨ frank d < 0
  · right
    have : hasB c d 0 = false := by
      unfold hasB
      cases h1 : amB c 0
      · rfl
      · cases h2 : amB 0 d
        · rfl
        · have a := (amB_iff.1 h1).2.2
          have b := (amB_iff.1 h2).2.2
          omega
    have d0 : diE a b c d = 0 := by unfold diE; rw [if_pos e, this]; rfl
    refine ⟨d0, hz, ?_, ?_⟩
    · unfold diLo; rw [if_pos d0]
    · unfold diHi; rw [if_pos d0]
  · left
    have : hasB c d 0 = true := by
      unfold hasB
      rw [amB_iff.2 ⟨k.na, z2, by omega⟩, amB_iff.2 ⟨z2, k.nb, by omega⟩]; rfl
    refine ⟨by unfold diE; rw [if_pos e, if_pos this], ?_, hz⟩
    exact (HasB_iff uc ud ⟨by decide, by decide⟩).2 ⟨k, ⟨by decide, by decide, z2⟩, by rw [z3]; decide, by omega, by omega⟩
/-- greater than all numbers, or in it -/
def inB (lo hi x : Int) : Bool := (fcls x == 4) || HasB lo hi x
theorem in_of {lo hi u : Int} (ul : U64 lo) (uh : U64 hi) (uu : U64 u) (ok : SpOK lo hi) (nu : frerr u = 0) (l : frank lo ≤ frank u) (h : frank u ≤ frank hi) : inB lo hi u = true := by
  unfold inB
  rcases fin_rank nu with ⟨f, -⟩ | ⟨f, -⟩
  · rw [(HasB_iff ul uh uu).2 ⟨ok, ⟨uu.1, uu.2, nu⟩, f, l, h⟩, Bool.or_true]
  · rw [fcls_4 f]; rfl
theorem spanHolds_a {a b c d x y mode : Int} (ua : U64 a) (ub : U64 b) (uc : U64 c) (ud : U64 d) (ux : U64 x) (uy : U64 y) (h1 : HasB a b x = true) (h2 : HasB c d y = true) (m0 : 0 ≤ mode) (m1 : mode ≤ 4) :
    spE2 a b c d = 0 ∧ suE a b c d = 0 ∧ adE mode = 0 ∧ inB (saLo a b c d) (saHi a b c d) (adV x y mode) = true ∧ inB (suLo a b c d) (suHi a b c d) (adV x (fneg y) mode) = true ∧ inB (mlLo a b c d) (mlHi a b c d) (muV x y mode) = true ∧
    ((diE a b c d = 0 ∧ inB (diLo a b c d) (diHi a b c d) (dvV x y mode) = true) ∨ (diE a b c d = 1 ∧ HasB c d 0 = true)) := by
  obtain ⟨h, ex, fx, ax, xb⟩ := (HasB_iff ua ub ux).1 h1
  obtain ⟨k, ey, fy, cy, yd⟩ := (HasB_iff uc ud uy).1 h2
  have hk : knownB mode = true := by unfold knownB; rw [decide_eq_true_eq]; exact ⟨m0, m1⟩
  have uny := fneg_in uy.1 uy.2
  have ny := ey.neg
  obtain ⟨kn, rn1, rn2⟩ := k.neg uc ud
  obtain ⟨A0, A1, -, -⟩ := add_ok ua ub uc ud h k
  obtain ⟨U1, U2, U3, U4⟩ := spanHolds_c ua ub uc ud
  obtain ⟨B0, B1, B2⟩ := sub_e ua ub uc ud h k
  have A2 := add_in mode ua ub uc ud h k ex fx ey fy ax xb cy yd
  have B3 := add_in mode ua ub (ng_u ud) (ng_u uc) h kn ex fx ny.1 (by rw [fabs_fneg]; exact fy) ax xb (by rw [rn2, ny.2]; omega) (by rw [rn1, ny.2]; omega)
  have B4 := (add_ok ua ub (ng_u ud) (ng_u uc) h kn).1
  obtain ⟨M1, M2⟩ := mul_e ua ub uc ud h k
  have M := mul_spr ua ub uc ud h k
  have M3 := mu_sides mode fx fy
  have M4 := M.L x y ex ey ax xb cy yd
  have M5 := M.H x y ex ey ax xb cy yd
  have M6 : frerr (muV0 x y mode) = 0 := by have := (mu_fin fx fy mode).2.2.2.2; unfold frerr; rw [if_neg (by omega)]
  have em : muV x y mode = muV0 x y mode := by unfold muV; rw [if_pos hk]
  refine ⟨A1, B0, by unfold adE; rw [hk]; rfl, ?_, ?_, ?_, ?_⟩
  · rw [adV_k hk]
    exact in_of U1.1 U1.2 (allV_u ux uy) A0 A2.1 A2.2.1 A2.2.2
  · rw [adV_k hk, B1, B2]
    exact in_of (by rw [← B1]; exact U2.1) (by rw [← B2]; exact U2.2) (allV_u ux uny) B4 B3.1 B3.2.1 B3.2.2
  · rw [em, M1, M2]
    exact in_of M.ul M.uh (muV0_bd x y mode) M.ok M6 (by omega) (by omega)
  · rcases div_e ua ub uc ud h k with ⟨q1, q2, -⟩ | ⟨q1, q2, q3, q4⟩
    · exact Or.inr ⟨q1, q2⟩
    · left
      have D := div_spr ua ub uc ud h k q2
      have ry : frank y ≠ 0 := by omega
      have nmy : Nm y := ⟨ey.1, ey.2.1, fy, fun q => ry ((fabs_rank ey.2.2).1.2 q)⟩
      have D3 := dv_sides mode ex fx nmy
      have D4 := D.L x y ex ey ax xb cy yd
      have D5 := D.H x y ex ey ax xb cy yd
      have ed : dvV x y mode = dvV0 x y mode := by unfold dvV; rw [if_pos hk]
      refine ⟨q1, ?_⟩
      rw [ed, q3, q4]
      exact in_of D.ul D.uh (dvV0_bd x y mode) D.ok (dv_nn mode ex ey ry (Or.inl fx)) (by omega) (by omega)
end Go.Proofs.YtfnchcogdmpojaaDoor
