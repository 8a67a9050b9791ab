/-
  THE WALKS of decimal.Log10, its closure.
-/
import Derived.Test.YtgbkaamgobnhbaaGreatDoorDo
import Derived.Test.YtgbkaamgobnhbaaGreatDoorFx
import Derived.Test.YtgbkaamgobnhbaaGreatDoorNy
set_option linter.unusedVariables false
set_option linter.unusedSimpArgs false
namespace Go.Proofs.YtgbkaamgobnhbaaGreatDoor
open Go.RowKit Nt Fm Fl

/-- is it 10^p or more? -/
def Ge10 (d : D) (p : Int) : Prop := dD d (-p) ≤ dN d (-p)
instance (d : D) (p : Int) : Decidable (Ge10 d p) := Nat.decLe _ _
theorem ge_anti {d : D} {p q : Int} (h : p ≤ q) (hq : Ge10 d q) : Ge10 d p := by
  obtain ⟨k, hk⟩ : ∃ k : Nat, -p = -q + k := ⟨(q - p).toNat, by omega⟩
  have h1 := d_shift d (-q) k
  have h2 := Nat.mul_le_mul_right (10 ^ k * dD d (-q + k)) hq
  rw [← Nat.mul_assoc (dN d (-q)), ← h1, Nat.mul_comm (dD d (-q))] at h2
  have h3 := Nat.le_of_mul_le_mul_right h2 (dD_pos d _)
  unfold Ge10
  rw [hk]
  have h4 : 1 * dD d (-q + k) ≤ 10 ^ k * dD d (-q + k) := Nat.mul_le_mul_right _ (Nat.pow_pos (by omega))
  omega
theorem isLg_iff {d : D} {p : Int} : IsLg d p ↔ Ge10 d p ∧ ¬ Ge10 d (p + 1) := by unfold IsLg Ge10; omega
theorem isLg_uniq {d : D} {p q : Int} (hp : IsLg d p) (hq : IsLg d q) : p = q := by
  rw [isLg_iff] at hp hq
  rcases Int.lt_trichotomy p q with h | h | h
  · exact absurd (ge_anti (show p + 1 ≤ q by omega) hq.1) hp.2
  · exact h
  · exact absurd (ge_anti (show q + 1 ≤ p by omega) hp.1) hq.2
/-- the p for which it is so -/
noncomputable def lgD (d : D) : Int := Classical.epsilon (IsLg d)
theorem lgD_eq {d : D} {p : Int} (h : IsLg d p) : lgD d = p := isLg_uniq (Classical.epsilon_spec ⟨p, h⟩) h
/-- a number of some size, not 0 -/
structure Mid (d : D) : Prop where
  m0 : d.m ≠ 0
  m1 : d.m < 2 ^ 64
  e0 : -1200 ≤ d.e
  e1 : d.e ≤ 1200
theorem ten_ge (a : Nat) : 2 ^ (3 * a) ≤ 10 ^ a := by rw [Nat.pow_mul]; exact Nat.pow_le_pow_left (by omega) a
theorem ten_six (a : Nat) : 2 ^ (19 * a) ≤ 10 ^ (6 * a) := by rw [Nat.pow_mul, Nat.pow_mul]; exact Nat.pow_le_pow_left (by decide) a
theorem mid_low {d : D} (h : Mid d) : Ge10 d (-400) := by
  obtain ⟨m0, m1, e0, e1⟩ := h
  unfold Ge10 dN dD
  obtain ⟨K, hK⟩ : ∃ K : Nat, K = 400 := ⟨_, rfl⟩
  rw [show (- -(400 : Int)).toNat = K by omega, show (-(- -400 : Int)).toNat = 0 by omega, Nat.pow_zero, Nat.one_mul]
  have h1 : 2 ^ (-d.e).toNat ≤ 2 ^ (3 * K) := Nat.pow_le_pow_right (by omega) (by omega)
  have h2 := ten_ge K
  have h3 : 1 * 10 ^ K * 1 ≤ d.m * 10 ^ K * 2 ^ d.e.toNat := Nat.mul_le_mul (Nat.mul_le_mul_right _ (by omega)) (Nat.two_pow_pos _)
  omega
theorem mid_high {d : D} (h : Mid d) : ¬ Ge10 d 400 := by
  obtain ⟨m0, m1, e0, e1⟩ := h
  unfold Ge10 dN dD
  obtain ⟨K, hK⟩ : ∃ K : Nat, K = 66 := ⟨_, rfl⟩
  obtain ⟨E, hE⟩ : ∃ E : Nat, E = 1200 := ⟨_, rfl⟩
  rw [show (-(400 : Int)).toNat = 0 by omega, show (-(-400 : Int)).toNat = 6 * K + 4 by omega, Nat.pow_zero, Nat.mul_one]
  have h1 : d.m * 2 ^ d.e.toNat < 2 ^ (64 + E) := by
    rw [Nat.pow_add]
    exact Nat.mul_lt_mul_of_lt_of_le m1 (Nat.pow_le_pow_right (by omega) (by omega)) (Nat.two_pow_pos _)
  have h2 : 2 ^ (64 + E) ≤ 2 ^ (19 * K + 12) := Nat.pow_le_pow_right (by omega) (by omega)
  have h3 : 2 ^ (19 * K + 12) ≤ 10 ^ (6 * K + 4) := by
    rw [Nat.pow_add, Nat.pow_add]
    exact Nat.mul_le_mul (ten_six K) (by decide)
  have h4 : 10 ^ (6 * K + 4) * 1 ≤ 10 ^ (6 * K + 4) * 2 ^ (-d.e).toNat := Nat.mul_le_mul_left _ (Nat.two_pow_pos _)
  omega
theorem blen_pos {n : Nat} (h : n ≠ 0) : 1 ≤ blen n := by unfold blen; rw [if_neg h]; omega
set_option maxHeartbeats 4000000 in
theorem less_any (b : Nat) (s : Value) (d : D) (p : Int) (w : World) (hb : Box w b 52 (.bool d.neg) s (.int .i64 d.e)) (hs : NV w s d.m) (hm : Mid d) (p0 : -1000 ≤ p) (p1 : p ≤ 1000) :
    Calls Tryz.prog 94 #[.int .i64 p, .pointer (some ⟨b, 0, none⟩)] w fun e w' => e = .returned (.bool (!decide (Ge10 d p))) ∧ Below w.heap.size w w' := by
  obtain ⟨as', ns, cs, rfl⟩ := hs.shape
  have HB := Lib.hid hb
  have HS := Lib.hid hs
  have SC := Lib.hid (fun v X w' (h : DV w' v d) (hX : X = -p) => scaled_any v d X 64 w' h hm.m1 (by omega) (by omega) (by omega) (by have := hm.e0; omega) (by have := hm.e1; omega))
  have CM := Lib.hid (fun va vb w' (ha : NV w' va (dN d (-p))) (hb : NV w' vb (dD d (-p))) => compare_any va vb _ _ w' ha hb)
  obtain ⟨c0, c1, c2, -, -, -⟩ := hb.cells
  have hsg : decide (sgn2 ((dN d (-p) : Nat) : Int) ((dD d (-p) : Nat) : Int) < 0) = (!decide (Ge10 d p)) := by
    unfold sgn2 Ge10
    by_cases h : dN d (-p) < dD d (-p)
    · rw [if_pos (by omega), decide_eq_false (by omega : ¬ dD d (-p) ≤ dN d (-p))]; rfl
    · rw [if_neg (by omega), decide_eq_true (by omega : dD d (-p) ≤ dN d (-p))]
      split <;> rfl
  obtain ⟨R, hR⟩ : ∃ R, R = (!decide (Ge10 d p)) := ⟨_, rfl⟩
  rw [← hR] at hsg
  rw [← hR]
  generalize sgn2 ((dN d (-p) : Nat) : Int) ((dD d (-p) : Nat) : Int) = sg at *
  have SG : Hid (decide (sg < 0) = R ∧ True) := Lib.hid ⟨hsg, trivial⟩
  have hpw : IntKind.i64.wrap (-p) = -p := IntWalk.i64_in _ (by omega)
  have B0 : Hid (Below w.heap.size w w) := Lib.hid (Below.refl _ _)
  clear hb hs hm hR hsg
  go_enter Tryz.func94, Tryz.ntmps94
  go_wp2_with (go_at_call 73; refine (SC.out _ _ _ ⟨_, rfl, HS.out⟩ (by first | rfl | omega)).mono ?_; rintro e w2 ⟨bb, rfl, -, hr2, hb2⟩; obtain ⟨s2, vn, vd, q1, q2, q3⟩ := hr2; obtain ⟨an, nn, cn, rfl⟩ := q2.shape; obtain ⟨ad, nd, cd, rfl⟩ := q3.shape; have R2 : Hid (Row5 w2 bb d.neg s2 d.e (.slice an nn cn) (.slice ad nd cd)) := Lib.hid q1; have N2 := Lib.hid q2; have D2 := Lib.hid q3; have B2 := Lib.hid (bl_thru B0.out (Nat.le_refl _) hb2); clear q1 q2 q3 hb2)
  replace N2 := Lib.hid N2.out.drew
  replace D2 := Lib.hid D2.out.drew
  obtain ⟨p0, p3, p4⟩ := R2.out.cells
  go_region_held3 (fun w' => w'.cell? ⟨bb, 3, none⟩ = some (.slice an nn cn) ∧ w'.cell? ⟨bb, 4, none⟩ = some (.slice ad nd cd))
    (first
      | exact ⟨p3, p4⟩
      | (go_keep; done))
    (first
      | (go_at_call 95; refine (CM.out _ _ _ N2.out D2.out).mono ?_; rintro rr w4 ⟨rfl, nw, rfl⟩))
  rw [SG.out.1]
  go_wp2
  go_ret
  exact ⟨rfl, below_to_drewN B2.out⟩
set_option maxHeartbeats 4000000 in
theorem log10_any (v : Value) (d : D) (w : World) (hd : DV w v d) (hm : Mid d) :
    Calls Tryz.prog 61 #[v] w fun e w' => e = .returned (.int .i64 (lgD d)) ∧ Below w.heap.size w w' := by
  obtain ⟨s, rfl, hs⟩ := hd
  obtain ⟨sa, sn, sc, rfl⟩ := hs.shape
  have HS := Lib.hid hs
  have LN := Lib.hid (fun w' (h : NV w' (.slice sa sn sc) d.m) => natLen_any _ d.m 64 w' h hm.m1 (by omega))
  have LS := Lib.hid (fun b p w' hb (h : NV w' (.slice sa sn sc) d.m) p0 p1 => less_any b _ d p w' hb h hm p0 p1)
  have hl := blen_le_of hm.m1
  have hl2 := blen_pos hm.m0
  have he0 := hm.e0
  have he1 := hm.e1
  have ML : Hid (∀ p, ¬ Ge10 d p → -400 < p) := Lib.hid (fun p h => by
    rcases Int.lt_or_le (-400) p with h1 | h1
    · exact h1
    · exact absurd (ge_anti h1 (mid_low hm)) h)
  have MH : Hid (∀ p, Ge10 d p → p < 400) := Lib.hid (fun p h => by
    rcases Int.lt_or_le p 400 with h1 | h1
    · exact h1
    · exact absurd (ge_anti h1 h) (mid_high hm))
  clear hs hm
  generalize blen d.m = ln at *
  have B : Hid (Below w.heap.size w w) := Lib.hid (Below.refl _ _)
  go_enter Tryz.func61, Tryz.ntmps61
  go_wp2_with fail
  obtain ⟨V, hV⟩ : ∃ V, V = w.alloc (.cells #[.bool d.neg, .slice sa sn sc, .int .i64 d.e] 52) := ⟨_, rfl⟩
  have XC : Hid (Box V w.heap.size 52 (.bool d.neg) (.slice sa sn sc) (.int .i64 d.e)) := Lib.hid (by rw [hV]; exact Box.new w (.bool d.neg) (.slice sa sn sc) (.int .i64 d.e) 52)
  replace B : Hid (Below w.heap.size w V) := Lib.hid (by rw [hV]; exact (Below.refl _ _).alloc (Nat.le_refl _) _)
  replace HS : Hid (NV V (.slice sa sn sc) d.m) := Lib.hid (by rw [hV]; exact HS.out.alloc _)
  rw [← hV]
  clear hV
  replace XC := Lib.hid XC.out.drew
  replace B := Lib.hid B.out.drew
  replace HS := Lib.hid HS.out.drew
  obtain ⟨p0, p1, p2, -, -, -⟩ := XC.out.cells
  go_region_held3 (fun w' => w'.cell? ⟨w.heap.size, 1, none⟩ = some (.slice sa sn sc) ∧ w'.cell? ⟨w.heap.size, 2, none⟩ = some (.int .i64 d.e))
    (first
      | exact ⟨p1, p2⟩
      | (go_keep; done))
    (first
      | (go_at_call 36; refine (LN.out _ HS.out).mono ?_; rintro e w' ⟨rfl, rfl⟩))
  go_wp2_with fail
  obtain ⟨P0, hP0, hP1, hP2⟩ : ∃ P0, IntKind.i64.wrap ((IntKind.i64.wrap (IntKind.i64.wrap (IntKind.i64.wrap ((ln : Int) + d.e) - 1) * 30103)).tdiv 100000) = P0 ∧ -400 ≤ P0 ∧ P0 ≤ 400 := by
    rw [IntWalk.i64_in ((ln : Int) + d.e) (by omega), IntWalk.i64_in ((ln : Int) + d.e - 1) (by omega), IntWalk.i64_in (((ln : Int) + d.e - 1) * 30103) (by omega)]
    have h1 : -362 * 100000 ≤ ((ln : Int) + d.e - 1) * 30103 := by omega
    have h2 : ((ln : Int) + d.e - 1) * 30103 ≤ 381 * 100000 := by omega
    generalize ((ln : Int) + d.e - 1) * 30103 = a at *
    have h3 := Int.tdiv_eq_ediv (a := a) (b := 100000)
    have h4 : -400 ≤ a.tdiv 100000 ∧ a.tdiv 100000 ≤ 400 := by
      rw [h3]; split
      · omega
      · rw [show Int.sign 100000 = 1 by rfl]; omega
    rw [IntWalk.i64_in _ (by omega)]
    exact ⟨_, rfl, h4.1, h4.2⟩
  simp only [hP0]
  clear hP0 hl hl2 p0 p1 p2 LN
  go_loopw [3] (fun pv wr => ∃ p : Int, pv = .int .i64 p ∧ -400 ≤ p ∧ p ≤ 400 ∧ Hid (Box wr w.heap.size 52 (.bool d.neg) (.slice sa sn sc) (.int .i64 d.e)) ∧ Hid (NV wr (.slice sa sn sc) d.m) ∧ Hid (Below w.heap.size w wr)) (fun pv _ => (intOf pv + 400).toNat)
  case atStart => exact ⟨P0, rfl, hP1, hP2, XC, HS, B⟩
  case round =>
    obtain ⟨p, rfl, q0, q1, XR, HR, BR⟩ := hrel
    clear XC HS B hP1 hP2
    by_cases hg : Ge10 d p
    · have LS1 := Lib.hid (LS.out _ p _ XR.out HR.out (by omega) (by omega))
      rw [show (!decide (Ge10 d p)) = false by rw [decide_eq_true hg]; rfl] at LS1
      have HG := Lib.hid hg
      clear hg
      go_wp2_with fail
      refine LS1.out.mono ?_
      rintro e w1 ⟨rfl, hb⟩
      have X1 := Lib.hid (XR.out.below hb)
      have H1 := Lib.hid (HR.out.below hb)
      have B1 := Lib.hid (bl_thru BR.out (Nat.le_refl _) hb)
      clear hb LS1 XR HR BR
      go_wp2_with fail
      go_loopw [3] (fun pv wr => ∃ p : Int, pv = .int .i64 p ∧ -400 ≤ p ∧ p ≤ 400 ∧ Hid (Ge10 d p ∧ True) ∧ Hid (Box wr w.heap.size 52 (.bool d.neg) (.slice sa sn sc) (.int .i64 d.e)) ∧ Hid (NV wr (.slice sa sn sc) d.m) ∧ Hid (Below w.heap.size w wr)) (fun pv _ => (400 - intOf pv).toNat)
      case atStart => exact ⟨p, rfl, q0, q1, Lib.hid ⟨HG.out, trivial⟩, X1, H1, B1⟩
      case round =>
        obtain ⟨p', rfl, r0, r1, HG2, XR, HR, BR⟩ := hrel
        clear X1 H1 B1 HG q0 q1
        by_cases hg : Ge10 d (p' + 1)
        · have hlt := MH.out _ hg
          have LS1 := Lib.hid (LS.out _ (p' + 1) _ XR.out HR.out (by omega) (by omega))
          rw [show (!decide (Ge10 d (p' + 1))) = false by rw [decide_eq_true hg]; rfl] at LS1
          have HG := Lib.hid hg
          clear hg
          go_wp2_with fail
          refine LS1.out.mono ?_
          rintro e w1 ⟨rfl, hb⟩
          have X1 := Lib.hid (XR.out.below hb)
          have H1 := Lib.hid (HR.out.below hb)
          have B1 := Lib.hid (bl_thru BR.out (Nat.le_refl _) hb)
          clear hb LS1 XR HR BR
          go_wp2
          go_roundw
          case rel => exact ⟨p' + 1, by go_num, by omega, by omega, Lib.hid ⟨HG.out, trivial⟩, X1, H1, B1⟩
          case measure => simp [intOf] <;> omega
        · have LS1 := Lib.hid (LS.out _ (p' + 1) _ XR.out HR.out (by omega) (by omega))
          rw [show (!decide (Ge10 d (p' + 1))) = true by rw [decide_eq_false hg]; rfl] at LS1
          have hlg : lgD d = p' := lgD_eq (isLg_iff.2 ⟨HG2.out.1, hg⟩)
          have HG := Lib.hid hlg
          clear hg hlg
          go_wp2_with fail
          refine LS1.out.mono ?_
          rintro e w1 ⟨rfl, hb⟩
          have B1 := Lib.hid (bl_thru BR.out (Nat.le_refl _) hb)
          clear hb LS1 XR HR BR
          go_wp2
          go_ret
          exact ⟨by rw [HG.out]; rfl, B1.out⟩
    · have hlt := ML.out _ hg
      have LS1 := Lib.hid (LS.out _ p _ XR.out HR.out (by omega) (by omega))
      rw [show (!decide (Ge10 d p)) = true by rw [decide_eq_false hg]; rfl] at LS1
      clear hg
      go_wp2_with fail
      refine LS1.out.mono ?_
      rintro e w1 ⟨rfl, hb⟩
      have X1 := Lib.hid (XR.out.below hb)
      have H1 := Lib.hid (HR.out.below hb)
      have B1 := Lib.hid (bl_thru BR.out (Nat.le_refl _) hb)
      clear hb LS1 XR HR BR
      go_wp2
      go_roundw
      case rel => exact ⟨p - 1, by go_num, by omega, by omega, X1, H1, B1⟩
      case measure => simp [intOf] <;> omega
end Go.Proofs.YtgbkaamgobnhbaaGreatDoor
