/-
  THE WALK of (*decimal.ratio).round.
-/
import Derived.Test.YtofdjfdnckmmmaaGreatDoorPsc
import Derived.Test.YtofdjfdnckmmmaaGreatDoorBe
import Derived.Deep.RegionHeld3
set_option linter.unusedVariables false
set_option linter.unusedSimpArgs false
namespace Go.Proofs.YtofdjfdnckmmmaaGreatDoor
open Go.RowKit Nt Fm Fl

/-- the five cells of a quotient -/
def Row5 (w : World) (B : Nat) (g : Bool) (s : Value) (e : Int) (vn vd : Value) : Prop := w.heap[B]? = some (.cells #[.bool g, s, .int .i64 e, vn, vd] 167 (0, 0))
theorem Row5.below {w w' : World} {B : Nat} {g : Bool} {s vn vd : Value} {e : Int} (h : Row5 w B g s e vn vd) (hb : Below w.heap.size w w') : Row5 w' B g s e vn vd := (hb.block B (Array.getElem?_eq_some_iff.1 h).1).trans h
theorem Row5.cells {w : World} {B : Nat} {g : Bool} {s vn vd : Value} {e : Int} (h : Row5 w B g s e vn vd) : w.cell? ⟨B, 0, none⟩ = some (.bool g) ∧ w.cell? ⟨B, 3, none⟩ = some vn ∧ w.cell? ⟨B, 4, none⟩ = some vd := by
  unfold Row5 at h
  refine ⟨?_, ?_, ?_⟩ <;> (rw [cell_of_row _ _ _ _ _ _ h]; rfl)
/-- what round tells -/
theorem rq_zero {neg : Bool} {N D : Nat} {mode : Int} (h : N % D = 0) : rq neg N D mode = N / D ∧ rc N D = false := by
  unfold rq rc; rw [if_pos h]; simp [h]
theorem rq_lost {neg : Bool} {N D : Nat} {mode : Int} (h : N % D ≠ 0) : rq neg N D mode = (if upB neg (decide (N / D % 2 = 1)) (sgn2 ((N % D * 2 : Nat) : Int) (D : Int)) mode = true then N / D + 1 else N / D) ∧ rc N D = true := by
  unfold rq rc; rw [if_neg h]; simp [h]
/-- a quotient's row, its parts as numbers -/
def RatN (w : World) (B : Nat) (g : Bool) (N D : Nat) : Prop := ∃ s e vn vd, Row5 w B g s e vn vd ∧ NV w vn N ∧ NV w vd D
set_option maxRecDepth 100000 in
set_option maxHeartbeats 8000000 in
theorem rround_any (B : Nat) (g : Bool) (N D k0 : Nat) (mode : Int) (w : World) (h : RatN w B g N D) (hN : N < 2 ^ k0) (hD : 0 < D) (hDk : D < 2 ^ k0) (hk0 : k0 ≤ 900000) (m0 : 0 ≤ mode) (m1 : mode ≤ 4) :
    Calls Tryz.prog 80 #[.pointer (some ⟨B, 0, none⟩), .int .i64 mode] w (RetNVB w (rq g N D mode) (rc N D)) := by
  obtain ⟨s, e, vn, vd, hr, hn, hd⟩ := h
  obtain ⟨an, nn, cn, rfl⟩ := hn.shape
  obtain ⟨ad, nd, cd, rfl⟩ := hd.shape
  have XR := Lib.hid hr
  have HN := Lib.hid hn
  have HD := Lib.hid hd
  obtain ⟨q, hq⟩ : ∃ q, q = N / D := ⟨_, rfl⟩
  obtain ⟨r, hrr⟩ : ∃ r, r = N % D := ⟨_, rfl⟩
  have OV := Lib.hid (fun w' (ha : NV w' (.slice an nn cn) N) (hb : NV w' (.slice ad nd cd) D) => over_any _ _ N D k0 w' ha hb hD hN (by omega))
  rw [← hq, ← hrr] at OV
  have hql : q < 2 ^ k0 := by rw [hq]; exact Nat.lt_of_le_of_lt (Nat.div_le_self _ _) hN
  have hrl : r < 2 ^ k0 := by rw [hrr]; exact Nat.lt_trans (Nat.mod_lt _ hD) hDk
  have LF := Lib.hid (fun va w' (ha : NV w' va r) => left_any va r 1 k0 1 w' ha rfl hrl (by omega) (by omega))
  have PL := Lib.hid (fun va vb w' (ha : NV w' va q) (hb : NV w' vb 1) => plus_any va vb q 1 (k0 + 1) w' ha hb (Nat.lt_of_lt_of_le hql (Nat.pow_le_pow_right (by omega) (by omega))) (by have := Nat.two_pow_pos k0; rw [Nat.pow_succ]; omega) (by omega))
  have O1 := Lib.hid (fun w' => natOf_any 1 (by omega) (by omega) w')
  have CM := Lib.hid (fun va w' (ha : NV w' va (r * 2 ^ 1)) (hb : NV w' (.slice ad nd cd) D) => compare_any va _ _ D w' ha hb)
  rw [show r * 2 ^ 1 = r * 2 by omega] at CM LF
  have hz : (r = 0 ∧ rq g N D mode = q ∧ rc N D = false) ∨ (r ≠ 0 ∧ rq g N D mode = (if upB g (decide (q % 2 = 1)) (sgn2 ((r * 2 : Nat) : Int) (D : Int)) mode = true then q + 1 else q) ∧ rc N D = true) := by
    rw [hq, hrr]
    by_cases h : N % D = 0
    · exact Or.inl ⟨h, rq_zero h⟩
    · exact Or.inr ⟨h, rq_lost h⟩
  obtain ⟨Q, hQ⟩ : ∃ Q, Q = rq g N D mode := ⟨_, rfl⟩
  obtain ⟨C, hC⟩ : ∃ C, C = rc N D := ⟨_, rfl⟩
  rw [← hQ, ← hC] at hz
  rw [← hQ, ← hC]
  generalize hhf : sgn2 ((r * 2 : Nat) : Int) (D : Int) = half at *
  have UP := Lib.hid (fun bo w' => up_any g bo half mode w' m0 m1)
  have HZ := Lib.hid hz
  clear hz hQ hC hhf hr hn hd hN hD hDk hql hrl hq hrr hk0
  go_enter Tryz.func80, Tryz.ntmps80
  go_wp2_with fail
  replace XR := Lib.hid (show Row5 w.drew B g s e (.slice an nn cn) (.slice ad nd cd) from XR.out)
  replace HN := Lib.hid HN.out.drew
  replace HD := Lib.hid HD.out.drew
  have BW : Hid (Below w.heap.size w w.drew) := Lib.hid (Below.refl _ _).drew
  obtain ⟨p0, p3, p4⟩ := XR.out.cells
  go_region_held3 (fun w' => w'.cell? ⟨B, 0, none⟩ = some (.bool g) ∧ w'.cell? ⟨B, 3, none⟩ = some (.slice an nn cn) ∧ w'.cell? ⟨B, 4, none⟩ = some (.slice ad nd cd))
    (first
      | with_reducible exact ⟨p0, p3, p4⟩
      | (obtain ⟨p0, p3, p4⟩ := XR.out.cells; with_reducible exact ⟨p0, p3, p4⟩)
      | (go_keep; done))
    (first
      | (go_at_call 107; refine (OV.out _ HN.out HD.out).mono ?_; rintro rr w2 ⟨v2, v3, rfl, hv2, hv3, hb2⟩; have N2 := Lib.hid hv2; have N3 := Lib.hid hv3; replace XR := Lib.hid (XR.out.below hb2); replace HD := Lib.hid (HD.out.below hb2); replace BW : Hid (Below w.heap.size w w2) := Lib.hid (bl_thru BW.out (Nat.le_refl _) hb2); clear hv2 hv3 hb2))
  clear p0 p3 p4
  obtain ⟨a3, n3, c3, rfl, hnc3, hc3, hcase⟩ := nv_len N3.out
  obtain ⟨aq, nq, cq, rfl, hnq1, hnq2, hodd⟩ := limb_odd N2.out
  unfold maxLen at hnq2
  rcases hcase with ⟨hr0, rfl⟩ | ⟨hr0, hn3⟩
  · rcases HZ.out with ⟨-, e1, e2⟩ | ⟨h, -⟩
    · subst e1 e2
      clear hodd
      go_wp2
      go_ret2
      exact ⟨_, rfl, N2.out, BW.out⟩
    · exact absurd hr0 h
  · have hz2 : Q = (if upB g (decide (q % 2 = 1)) half mode = true then q + 1 else q) ∧ C = true := by
      rcases HZ.out with ⟨h, -⟩ | ⟨-, h⟩
      · exact absurd h hr0
      · exact h
    obtain ⟨hQ, rfl⟩ := hz2
    clear HZ
    have hn3b : ((n3 : Int) == 0) = false := by rw [beq_eq_false_iff_ne]; omega
    have HODD := Lib.hid hodd
    clear hodd
    rcases HODD.out with ⟨o1, o2⟩ | ⟨o1, b, off, d, rfl, o3, o4, o5, o6⟩
    · obtain rfl : nq = 0 := by omega
      have eo : decide (q % 2 = 1) = false := by rw [o2]; rfl
      clear o2
      clear HODD
      go_wp2_with fail
      replace XR := Lib.hid (show Row5 w2.drew B g s e (.slice an nn cn) (.slice ad nd cd) from XR.out)
      replace N2 := Lib.hid N2.out.drew
      replace N3 := Lib.hid N3.out.drew
      replace HD := Lib.hid HD.out.drew
      replace BW : Hid (Below w.heap.size w w2.drew) := Lib.hid BW.out.drew
      obtain ⟨p0, p3, p4⟩ := XR.out.cells
      go_region_held3 (fun w' => w'.cell? ⟨B, 0, none⟩ = some (.bool g) ∧ w'.cell? ⟨B, 3, none⟩ = some (.slice an nn cn) ∧ w'.cell? ⟨B, 4, none⟩ = some (.slice ad nd cd))
        (first
          | with_reducible exact ⟨p0, p3, p4⟩
          | (obtain ⟨p0, p3, p4⟩ := XR.out.cells; with_reducible exact ⟨p0, p3, p4⟩)
          | (go_keep; done))
        (first
          | (go_at_call 98; refine (LF.out _ _ N3.out).mono ?_; rintro rr w3 ⟨v4, rfl, hv, hb⟩; have N4 := Lib.hid hv; replace XR := Lib.hid (XR.out.below hb); replace N2 := Lib.hid (N2.out.below hb); replace HD := Lib.hid (HD.out.below hb); replace BW : Hid (Below w.heap.size w w3) := Lib.hid (bl_thru BW.out (Nat.le_refl _) hb); clear hv hb)
          | (go_at_call 101; refine (CM.out _ _ N4.out HD.out).mono ?_; rintro rr w4 ⟨rfl, nw, rfl⟩; replace XR := Lib.hid (show Row5 (w3.drewN nw) B g s e (.slice an nn cn) (.slice ad nd cd) from XR.out); replace N2 := Lib.hid (N2.out.drewN nw); replace BW : Hid (Below w.heap.size w (w3.drewN nw)) := Lib.hid (below_to_drewN BW.out))
          | (go_at_call 102; refine (UP.out _ _).mono ?_; rintro rr w5 ⟨rfl, rfl⟩))
      clear p0 p3 p4
      obtain ⟨u, hu⟩ : ∃ u, u = upB g false half mode := ⟨_, rfl⟩
      rw [← hu]
      rw [eo, ← hu] at hQ
      clear eo hu 
      cases u
      · obtain rfl : Q = q := hQ
        go_wp2
        go_ret2
        exact ⟨_, rfl, N2.out, BW.out⟩
      · obtain rfl : Q = q + 1 := hQ
        go_wp2_with fail
        refine (O1.out _).mono ?_
        rintro rr w6 ⟨v6, rfl, hv, hb⟩
        have N6 := Lib.hid hv
        replace N2 := Lib.hid (N2.out.below hb)
        replace BW : Hid (Below w.heap.size w w6) := Lib.hid (bl_thru BW.out (Nat.le_refl _) hb)
        clear hv hb
        go_wp2_with fail
        refine (PL.out _ _ _ N2.out N6.out).mono ?_
        rintro rr w7 ⟨v7, rfl, hv, hb⟩
        have N7 := Lib.hid hv
        replace BW : Hid (Below w.heap.size w w7) := Lib.hid (bl_thru BW.out (Nat.le_refl _) hb)
        clear hv hb
        obtain ⟨a7, n7, c7, rfl⟩ := N7.out.shape
        go_wp2
        go_ret2
        exact ⟨_, rfl, N7.out, BW.out⟩
    · have hnq : (0 : Int) < (nq : Int) := by omega
      by_cases hd : d % 2 = 1
      · have eo : decide (q % 2 = 1) = true := by rw [← o6, decide_eq_true_eq]; exact hd
        have hd2 : ((d : Int) % 2 == 1) = true := by rw [beq_iff_eq]; omega
        clear o6 hd
        clear HODD
        go_wp2_with fail
        replace XR := Lib.hid (show Row5 w2.drew B g s e (.slice an nn cn) (.slice ad nd cd) from XR.out)
        replace N2 := Lib.hid N2.out.drew
        replace N3 := Lib.hid N3.out.drew
        replace HD := Lib.hid HD.out.drew
        replace BW : Hid (Below w.heap.size w w2.drew) := Lib.hid BW.out.drew
        obtain ⟨p0, p3, p4⟩ := XR.out.cells
        go_region_held3 (fun w' => w'.cell? ⟨B, 0, none⟩ = some (.bool g) ∧ w'.cell? ⟨B, 3, none⟩ = some (.slice an nn cn) ∧ w'.cell? ⟨B, 4, none⟩ = some (.slice ad nd cd))
          (first
            | with_reducible exact ⟨p0, p3, p4⟩
            | (obtain ⟨p0, p3, p4⟩ := XR.out.cells; with_reducible exact ⟨p0, p3, p4⟩)
            | (go_keep; done))
          (first
            | (go_at_call 98; refine (LF.out _ _ N3.out).mono ?_; rintro rr w3 ⟨v4, rfl, hv, hb⟩; have N4 := Lib.hid hv; replace XR := Lib.hid (XR.out.below hb); replace N2 := Lib.hid (N2.out.below hb); replace HD := Lib.hid (HD.out.below hb); replace BW : Hid (Below w.heap.size w w3) := Lib.hid (bl_thru BW.out (Nat.le_refl _) hb); clear hv hb)
            | (go_at_call 101; refine (CM.out _ _ N4.out HD.out).mono ?_; rintro rr w4 ⟨rfl, nw, rfl⟩; replace XR := Lib.hid (show Row5 (w3.drewN nw) B g s e (.slice an nn cn) (.slice ad nd cd) from XR.out); replace N2 := Lib.hid (N2.out.drewN nw); replace BW : Hid (Below w.heap.size w (w3.drewN nw)) := Lib.hid (below_to_drewN BW.out))
            | (go_at_call 102; refine (UP.out _ _).mono ?_; rintro rr w5 ⟨rfl, rfl⟩))
        clear p0 p3 p4
        obtain ⟨u, hu⟩ : ∃ u, u = upB g true half mode := ⟨_, rfl⟩
        rw [← hu]
        rw [eo, ← hu] at hQ
        clear eo hu hd2 o4 o5
        cases u
        · obtain rfl : Q = q := hQ
          go_wp2
          go_ret2
          exact ⟨_, rfl, N2.out, BW.out⟩
        · obtain rfl : Q = q + 1 := hQ
          go_wp2_with fail
          refine (O1.out _).mono ?_
          rintro rr w6 ⟨v6, rfl, hv, hb⟩
          have N6 := Lib.hid hv
          replace N2 := Lib.hid (N2.out.below hb)
          replace BW : Hid (Below w.heap.size w w6) := Lib.hid (bl_thru BW.out (Nat.le_refl _) hb)
          clear hv hb
          go_wp2_with fail
          refine (PL.out _ _ _ N2.out N6.out).mono ?_
          rintro rr w7 ⟨v7, rfl, hv, hb⟩
          have N7 := Lib.hid hv
          replace BW : Hid (Below w.heap.size w w7) := Lib.hid (bl_thru BW.out (Nat.le_refl _) hb)
          clear hv hb
          obtain ⟨a7, n7, c7, rfl⟩ := N7.out.shape
          go_wp2
          go_ret2
          exact ⟨_, rfl, N7.out, BW.out⟩
      · have eo : decide (q % 2 = 1) = false := by rw [← o6, decide_eq_false_iff_not]; exact hd
        have hd2 : ((d : Int) % 2 == 1) = false := by rw [beq_eq_false_iff_ne]; omega
        clear o6 hd
        clear HODD
        go_wp2_with fail
        replace XR := Lib.hid (show Row5 w2.drew B g s e (.slice an nn cn) (.slice ad nd cd) from XR.out)
        replace N2 := Lib.hid N2.out.drew
        replace N3 := Lib.hid N3.out.drew
        replace HD := Lib.hid HD.out.drew
        replace BW : Hid (Below w.heap.size w w2.drew) := Lib.hid BW.out.drew
        obtain ⟨p0, p3, p4⟩ := XR.out.cells
        go_region_held3 (fun w' => w'.cell? ⟨B, 0, none⟩ = some (.bool g) ∧ w'.cell? ⟨B, 3, none⟩ = some (.slice an nn cn) ∧ w'.cell? ⟨B, 4, none⟩ = some (.slice ad nd cd))
          (first
            | with_reducible exact ⟨p0, p3, p4⟩
            | (obtain ⟨p0, p3, p4⟩ := XR.out.cells; with_reducible exact ⟨p0, p3, p4⟩)
            | (go_keep; done))
          (first
            | (go_at_call 98; refine (LF.out _ _ N3.out).mono ?_; rintro rr w3 ⟨v4, rfl, hv, hb⟩; have N4 := Lib.hid hv; replace XR := Lib.hid (XR.out.below hb); replace N2 := Lib.hid (N2.out.below hb); replace HD := Lib.hid (HD.out.below hb); replace BW : Hid (Below w.heap.size w w3) := Lib.hid (bl_thru BW.out (Nat.le_refl _) hb); clear hv hb)
            | (go_at_call 101; refine (CM.out _ _ N4.out HD.out).mono ?_; rintro rr w4 ⟨rfl, nw, rfl⟩; replace XR := Lib.hid (show Row5 (w3.drewN nw) B g s e (.slice an nn cn) (.slice ad nd cd) from XR.out); replace N2 := Lib.hid (N2.out.drewN nw); replace BW : Hid (Below w.heap.size w (w3.drewN nw)) := Lib.hid (below_to_drewN BW.out))
            | (go_at_call 102; refine (UP.out _ _).mono ?_; rintro rr w5 ⟨rfl, rfl⟩))
        clear p0 p3 p4
        obtain ⟨u, hu⟩ : ∃ u, u = upB g false half mode := ⟨_, rfl⟩
        rw [← hu]
        rw [eo, ← hu] at hQ
        clear eo hu hd2 o4 o5
        cases u
        · obtain rfl : Q = q := hQ
          go_wp2
          go_ret2
          exact ⟨_, rfl, N2.out, BW.out⟩
        · obtain rfl : Q = q + 1 := hQ
          go_wp2_with fail
          refine (O1.out _).mono ?_
          rintro rr w6 ⟨v6, rfl, hv, hb⟩
          have N6 := Lib.hid hv
          replace N2 := Lib.hid (N2.out.below hb)
          replace BW : Hid (Below w.heap.size w w6) := Lib.hid (bl_thru BW.out (Nat.le_refl _) hb)
          clear hv hb
          go_wp2_with fail
          refine (PL.out _ _ _ N2.out N6.out).mono ?_
          rintro rr w7 ⟨v7, rfl, hv, hb⟩
          have N7 := Lib.hid hv
          replace BW : Hid (Below w.heap.size w w7) := Lib.hid (bl_thru BW.out (Nat.le_refl _) hb)
          clear hv hb
          obtain ⟨a7, n7, c7, rfl⟩ := N7.out.shape
          go_wp2
          go_ret2
          exact ⟨_, rfl, N7.out, BW.out⟩
end Go.Proofs.YtofdjfdnckmmmaaGreatDoor
