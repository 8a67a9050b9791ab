/-
  THE WALK of grow.Turn, with its own function; growLives.
-/
import Derived.Test.YtapdjclhpcakeaaDoorGg
import Derived.Test.YtapdjclhpcakeaaDoorGw
import Derived.Test.YtapdjclhpcakeaaDoorDt
import Derived.Test.YtapdjclhpcakeaaDoorOp
set_option linter.unusedVariables false
set_option linter.unusedSimpArgs false
namespace Go.Proofs.YtapdjclhpcakeaaDoor
open Go.RowKit Nt Fm Fl

def suD (x y : Int) : D := plus (valD x) (opp (valD y))
theorem suD_sml {x y : Int} (x0 : 0 ≤ x) (x1 : x ≤ 18446744073709551615) (y0 : 0 ≤ y) (y1 : y ≤ 18446744073709551615) : Sml 2 (suD x y) := by
  have hb := fneg_bd y0 y1
  have h := (valD_sml x x0 x1).plus (valD_sml (fneg y) hb.1 hb.2)
  rw [valD_fneg y0 y1] at h
  exact h
theorem times_smlP {j k : Nat} {c d : D} (hx : Sml j c) (hy : Sml k d) : SmlP (j * k) (times c d) := by
  have e1 : 0 ≤ c.e + ((1074 : Nat) : Int) := by have := hx.2.1; omega
  have e2 : 0 ≤ d.e + ((1074 : Nat) : Int) := by have := hy.2.1; omega
  have ht := times_eT e1 e2
  refine ⟨times_Nf _ _, ?_, ?_⟩
  · have : 0 ≤ (times c d).e + ((1074 + 1074 : Nat) : Int) := ht
    omega
  · have hv : (times c d).vl 2148 = c.vl 1074 * d.vl 1074 := times_vl c d 1074 1074 e1 e2
    rw [hv, Int.natAbs_mul]
    have a := hx.2.2
    have b := hy.2.2
    rw [show (4454 : Nat) = 2227 + 2227 from rfl, Pw_add, Nat.mul_mul_mul_comm]
    exact Nat.mul_le_mul a b
set_option maxHeartbeats 4000000 in
theorem gsub_any (x y : Int) (x0 : 0 ≤ x) (x1 : x ≤ 18446744073709551615) (y0 : 0 ≤ y) (y1 : y ≤ 18446744073709551615) (w : World) (hT : Tab w) :
    Calls Tryd.prog 88 #[.int .u64 x, .int .u64 y] w (RetD w (suD x y)) := by
  obtain ⟨f1, f2, f3, f4, -⟩ := valD_facts x x0 x1
  obtain ⟨g1, g2, g3, g4, -⟩ := valD_facts y y0 y1
  have hx := fun w' h => value_any x x0 x1 w' h
  have hy := fun w' h => value_any y y0 y1 w' h
  have ho := fun v w' h => opp_any v (valD y) 53 w' h g2 (by decide)
  have hp := fun v1 v2 w' h0 h1 h2 => dplus_any v1 v2 (valD x) (opp (valD y)) 53 w' h0 h1 h2 f2 g2 (by decide) (by omega) (by omega) (show -400000 ≤ (valD y).e by omega) (show (valD y).e ≤ 400000 by omega)
  unfold suD
  generalize plus (valD x) (opp (valD y)) = P at *
  generalize opp (valD y) = oy at *
  generalize valD x = vx at *
  generalize valD y = vy at *
  have HX := Lib.hid hx
  have HY := Lib.hid hy
  have HO := Lib.hid ho
  have HP := Lib.hid hp
  have HT := Lib.hid hT
  clear hx hy ho hp hT f1 f2 f3 f4 g1 g2 g3 g4
  go_enter Tryd.func88, Tryd.ntmps88
  go_wp2_with fail
  refine (HX.out _ (HT.out.alloc _)).mono ?_
  rintro r w1 ⟨v1, rfl, ⟨s1, rfl, h1⟩, hb⟩
  obtain ⟨a1, n1, c1, rfl⟩ := h1.shape
  have B1 : Hid (Below w.heap.size w w1) := Lib.hid (bl_thru ((Below.refl w.heap.size w).alloc (Nat.le_refl _) _) (Nat.le_refl _) hb)
  have Z1 := Lib.hid ((Box.new w _ _ _ _).below hb)
  have V1 := Lib.hid h1
  clear h1 hb
  go_wp2_with fail
  refine (HY.out _ (HT.out.below B1.out)).mono ?_
  rintro r w2 ⟨v2, rfl, ⟨s2, rfl, h2⟩, hb⟩
  obtain ⟨a2, n2, c2, rfl⟩ := h2.shape
  have B2 : Hid (Below w.heap.size w w2) := Lib.hid (bl_thru B1.out (Nat.le_refl _) hb)
  have Z2 := Lib.hid (Z1.out.below hb)
  have V2 := Lib.hid h2
  have V1' := Lib.hid (V1.out.below hb)
  clear h2 hb
  go_wp2_with fail
  refine (HO.out _ _ ⟨_, rfl, V2.out⟩).mono ?_
  rintro r w3 ⟨v3, rfl, ⟨s3, rfl, h3⟩, hb⟩
  obtain ⟨a3, n3, c3, rfl⟩ := h3.shape
  have B3 : Hid (Below w.heap.size w w3) := Lib.hid (bl_thru B2.out (Nat.le_refl _) hb)
  have Z3 := Lib.hid (Z2.out.below hb)
  have V3 := Lib.hid h3
  have V1'' := Lib.hid (V1'.out.below hb)
  clear h3 hb
  go_wp2_with fail
  refine (HP.out _ _ _ (HT.out.below B3.out) ⟨_, rfl, V1''.out⟩ ⟨_, rfl, V3.out⟩).mono ?_
  rintro r w4 ⟨v4, rfl, ⟨s4, rfl, h4⟩, hb⟩
  obtain ⟨a4, n4, c4, rfl⟩ := h4.shape
  have B4 : Hid (Below w.heap.size w w4) := Lib.hid (bl_thru B3.out (Nat.le_refl _) hb)
  have Z4 := Lib.hid (Z3.out.below hb)
  have V4 := Lib.hid h4
  obtain ⟨s0, s1, s2, t0, t1, t2⟩ := Z4.out.cells
  clear h4 hb
  go_wp2
  refine bodyPost_ret (v := .agg #[.bool P.neg, .slice a4 n4 c4, .int .i64 P.e]) (by simp [results, Tryd.results88, go_sem, s0, s1, s2]) rfl ?_
  exact ⟨_, rfl, ⟨_, rfl, V4.out.setD Z4.out⟩, bl_set3 B4.out (Nat.le_refl _) _ _ _⟩
/-- the two products -/
def tuP (ax ay bx cx cy by' : Int) : D := times (suD ax cx) (suD by' cy)
def tuQ (ax ay bx cx cy by' : Int) : D := times (suD ay cy) (suD bx cx)
def tuE (ax ay bx by' cx cy : Int) : Int := if nonL [ax, ay, bx, by', cx, cy] = true then 4 else if offL [ax, ay, bx, by', cx, cy] = true then 2 else 0
def tuV (ax ay bx by' cx cy : Int) : Int := if tuE ax ay bx by' cx cy = 0 then cmp (times (suD ax cx) (suD by' cy)) (times (suD ay cy) (suD bx cx)) else 0
theorem LU.alloc {w : World} {v : Value} {l : List Int} (h : LU w v l) (o : Obj) : LU (w.alloc o) v l := h.below ((Below.refl _ _).alloc (Nat.le_refl _) o)
theorem six_lu (w : World) (a b c d e f : Int) (T : TypeId) (h : ∀ x ∈ [a, b, c, d, e, f], 0 ≤ x ∧ x ≤ 18446744073709551615) : LU (w.alloc (.cells #[.int .u64 a, .int .u64 b, .int .u64 c, .int .u64 d, .int .u64 e, .int .u64 f] T)) (.slice (some ⟨w.heap.size, 0, none⟩) 6 6) [a, b, c, d, e, f] := by
  refine ⟨h, some ⟨w.heap.size, 0, none⟩, 6, rfl, Nat.le_refl 6, by unfold maxLen; omega, Or.inr ⟨w.heap.size, 0, rfl, by simp, ?_⟩⟩
  intro i hi
  match i, hi with
  | 0, _ => simp [go_sem]
  | 1, _ => simp [go_sem]
  | 2, _ => simp [go_sem]
  | 3, _ => simp [go_sem]
  | 4, _ => simp [go_sem]
  | 5, _ => simp [go_sem]
set_option maxRecDepth 100000 in
set_option maxHeartbeats 16000000 in
theorem turn_any (ax ay bx by' cx cy : Int) (h : ∀ x ∈ [ax, ay, bx, by', cx, cy], 0 ≤ x ∧ x ≤ 18446744073709551615) (w : World) (hT : Tab w) :
    Calls Tryd.prog 36 #[.int .u64 ax, .int .u64 ay, .int .u64 bx, .int .u64 by', .int .u64 cx, .int .u64 cy] w fun e w' => e = .returned (.tuple #[.int .i64 (tuV ax ay bx by' cx cy), .int .i64 (tuE ax ay bx by' cx cy)]) ∧ Below w.heap.size w w' := by
  have hlu := fun w T => six_lu w ax ay bx by' cx cy T h
  have hax := h ax (by simp)
  have hay := h ay (by simp)
  have hbx := h bx (by simp)
  have hby := h by' (by simp)
  have hcx := h cx (by simp)
  have hcy := h cy (by simp)
  have LU1 := Lib.hid hlu
  have HT := Lib.hid hT
  clear hlu hT h
  cases hn : nonL [ax, ay, bx, by', cx, cy]
  · have HC1 := Lib.hid (fun v w' h => by
      have := gtcontainsf_any v [ax, ay, bx, by', cx, cy] w' h
      rw [hn] at this; exact this)
    cases ho : offL [ax, ay, bx, by', cx, cy]
    · have e : tuE ax ay bx by' cx cy = 0 := by unfold tuE; rw [hn, ho]; rfl
      have e2 : tuV ax ay bx by' cx cy = cmp (times (suD ax cx) (suD by' cy)) (times (suD ay cy) (suD bx cx)) := by unfold tuV; rw [if_pos e]
      rw [e, e2]
      have HC2 := Lib.hid (fun v w' h b1 b2 c1 c2 => by
        have := gucontainsf_any v [ax, ay, bx, by', cx, cy] w' h b1 b2 c1 c2
        rw [ho] at this; exact this)
      have s1 := suD_sml hax.1 hax.2 hcx.1 hcx.2
      have s2 := suD_sml hby.1 hby.2 hcy.1 hcy.2
      have s3 := suD_sml hay.1 hay.2 hcy.1 hcy.2
      have s4 := suD_sml hbx.1 hbx.2 hcx.1 hcx.2
      have hS1 := fun w' h => gsub_any ax cx hax.1 hax.2 hcx.1 hcx.2 w' h
      have hS2 := fun w' h => gsub_any by' cy hby.1 hby.2 hcy.1 hcy.2 w' h
      have hS3 := fun w' h => gsub_any ay cy hay.1 hay.2 hcy.1 hcy.2 w' h
      have hS4 := fun w' h => gsub_any bx cx hbx.1 hbx.2 hcx.1 hcx.2 w' h
      have p1 := times_smlP s1 s2
      have p2 := times_smlP s3 s4
      obtain ⟨⟨k1, l1, m1⟩, e1, f1⟩ := s1.bds (by decide)
      obtain ⟨⟨k2, l2, m2⟩, e2', f2⟩ := s2.bds (by decide)
      obtain ⟨⟨k3, l3, m3⟩, e3, f3⟩ := s3.bds (by decide)
      obtain ⟨⟨k4, l4, m4⟩, e4, f4⟩ := s4.bds (by decide)
      obtain ⟨⟨k5, l5, m5⟩, e5, f5⟩ := p1.bds (by decide)
      obtain ⟨⟨k6, l6, m6⟩, e6, f6⟩ := p2.bds (by decide)
      have hP := fun v1 v2 w' h0 h1 h2 => dtimes_any v1 v2 (suD ax cx) (suD by' cy) (k1 + k2) w' h0 h1 h2 (lt_pow m1 (by omega)) (lt_pow m2 (by omega)) (by omega) (by omega) (by omega) (by omega) (by omega)
      have hQ := fun v1 v2 w' h0 h1 h2 => dtimes_any v1 v2 (suD ay cy) (suD bx cx) (k3 + k4) w' h0 h1 h2 (lt_pow m3 (by omega)) (lt_pow m4 (by omega)) (by omega) (by omega) (by omega) (by omega) (by omega)
      have hC := fun v1 v2 w' h0 h1 h2 => compareD_any v1 v2 (times (suD ax cx) (suD by' cy)) (times (suD ay cy) (suD bx cx)) (k5 + k6) w' h0 h1 h2 (lt_pow m5 (by omega)) (lt_pow m6 (by omega)) (by omega) (by omega) (by omega) (by omega) (by omega)
      generalize times (suD ax cx) (suD by' cy) = P at *
      generalize times (suD ay cy) (suD bx cx) = Q at *
      generalize cmp P Q = R at *
      generalize suD ax cx = D1 at *
      generalize suD by' cy = D2 at *
      generalize suD ay cy = D3 at *
      generalize suD bx cx = D4 at *
      have S1 := Lib.hid hS1
      have S2 := Lib.hid hS2
      have S3 := Lib.hid hS3
      have S4 := Lib.hid hS4
      have HP := Lib.hid hP
      have HQ := Lib.hid hQ
      have HC := Lib.hid hC
      clear e e2 hn ho hS1 hS2 hS3 hS4 hP hQ hC s1 s2 s3 s4 p1 p2 l1 m1 e1 f1 l2 m2 e2' f2 l3 m3 e3 f3 l4 m4 e4 f4 l5 m5 e5 f5 l6 m6 e6 f6
      go_enter Tryd.func36, Tryd.ntmps36
      go_wp2_with fail
      refine (HC1.out _ _ (LU1.out _ _)).mono ?_
      rintro e w' ⟨rfl, rfl⟩
      go_wp2_with fail
      refine (HC2.out _ _ (((LU1.out _ _).alloc _).alloc _) (w.heap.size + 1) (w.heap.size + 1 + 1) (by simp [go_sem]) (by simp [go_sem])).mono ?_
      rintro e w' ⟨rfl, rfl⟩
      have B0 := Lib.hid (bl_alloc3 w (.cells #[.int .u64 ax, .int .u64 ay, .int .u64 bx, .int .u64 by', .int .u64 cx, .int .u64 cy] 23) (.cells #[.int .u64 2805742567851819008] 23) (.cells #[.int .u64 6408622269748215808] 23))
      go_wp2_with fail
      refine (S1.out _ (HT.out.below B0.out)).mono ?_
      rintro r w1 ⟨v1, rfl, h1, hb⟩
      have B1 : Hid (Below w.heap.size w w1) := Lib.hid (bl_thru B0.out (Nat.le_refl _) hb)
      have V1 := Lib.hid h1
      clear h1 hb
      go_wp2_with fail
      refine (S2.out _ (HT.out.below B1.out)).mono ?_
      rintro r w2 ⟨v2, rfl, h2, hb⟩
      have B2 : Hid (Below w.heap.size w w2) := Lib.hid (bl_thru B1.out (Nat.le_refl _) hb)
      have V1' := Lib.hid (V1.out.below hb)
      have V2 := Lib.hid h2
      clear h2 hb
      go_wp2_with fail
      refine (HP.out _ _ _ (HT.out.below B2.out) V1'.out V2.out).mono ?_
      rintro r w3 ⟨v3, rfl, ⟨s3, rfl, h3⟩, hb⟩
      obtain ⟨a3, n3, c3, rfl⟩ := h3.shape
      have B3 : Hid (Below w.heap.size w w3) := Lib.hid (bl_thru B2.out (Nat.le_refl _) hb)
      have X3 := Lib.hid (Box.new w3 (.bool P.neg) (.slice a3 n3 c3) (.int .i64 P.e) 59)
      have N3 := Lib.hid (h3.alloc (.cells #[.bool P.neg, .slice a3 n3 c3, .int .i64 P.e] 59))
      have BA3 : Hid (Below w.heap.size w (w3.alloc (.cells #[.bool P.neg, .slice a3 n3 c3, .int .i64 P.e] 59))) := Lib.hid (B3.out.alloc B3.out.size _)
      clear h3 hb
      go_wp2_with fail
      refine (S3.out _ (HT.out.below BA3.out)).mono ?_
      rintro r w4 ⟨v4, rfl, h4, hb⟩
      have B4 : Hid (Below w.heap.size w w4) := Lib.hid (bl_thru BA3.out (Nat.le_refl _) hb)
      have X4 := Lib.hid (X3.out.below hb)
      have N4 := Lib.hid (N3.out.below hb)
      have V4 := Lib.hid h4
      clear h4 hb
      go_wp2_with fail
      refine (S4.out _ (HT.out.below B4.out)).mono ?_
      rintro r w5 ⟨v5, rfl, h5, hb⟩
      have B5 : Hid (Below w.heap.size w w5) := Lib.hid (bl_thru B4.out (Nat.le_refl _) hb)
      have X5 := Lib.hid (X4.out.below hb)
      have N5 := Lib.hid (N4.out.below hb)
      have V4' := Lib.hid (V4.out.below hb)
      have V5 := Lib.hid h5
      clear h5 hb
      go_wp2_with fail
      refine (HQ.out _ _ _ (HT.out.below B5.out) V4'.out V5.out).mono ?_
      rintro r w6 ⟨v6, rfl, ⟨s6, rfl, h6⟩, hb⟩
      obtain ⟨a6, n6, c6, rfl⟩ := h6.shape
      have B6 : Hid (Below w.heap.size w w6) := Lib.hid (bl_thru B5.out (Nat.le_refl _) hb)
      have X6 := Lib.hid (X5.out.below hb)
      have N6 := Lib.hid ((N5.out.below hb).alloc (.cells #[.bool Q.neg, .slice a6 n6 c6, .int .i64 Q.e] 59))
      have Y6 := Lib.hid (Box.new w6 (.bool Q.neg) (.slice a6 n6 c6) (.int .i64 Q.e) 59)
      have M6 := Lib.hid (h6.alloc (.cells #[.bool Q.neg, .slice a6 n6 c6, .int .i64 Q.e] 59))
      have BA6 : Hid (Below w.heap.size w (w6.alloc (.cells #[.bool Q.neg, .slice a6 n6 c6, .int .i64 Q.e] 59))) := Lib.hid (B6.out.alloc B6.out.size _)
      obtain ⟨q0, q1, q2, f0, f1, f2⟩ := X6.out.cells
      have l6 := X6.out.lt
      clear h6 hb
      go_wp2_with fail
      refine (HC.out _ _ _ (HT.out.below BA6.out) ⟨_, rfl, N6.out⟩ ⟨_, rfl, M6.out⟩).mono ?_
      rintro r w7 ⟨rfl, hb⟩
      have B7 : Hid (Below w.heap.size w w7) := Lib.hid (bl_thru BA6.out (Nat.le_refl _) hb)
      clear hb
      go_wp2
      go_ret2
      exact ⟨rfl, B7.out⟩
    · have e : tuE ax ay bx by' cx cy = 2 := by unfold tuE; rw [hn, ho]; rfl
      have e2 : tuV ax ay bx by' cx cy = 0 := by unfold tuV; rw [e]; rfl
      rw [e, e2]
      have HC2 := Lib.hid (fun v w' h b1 b2 c1 c2 => by
        have := gucontainsf_any v [ax, ay, bx, by', cx, cy] w' h b1 b2 c1 c2
        rw [ho] at this; exact this)
      clear e e2 hn ho
      go_enter Tryd.func36, Tryd.ntmps36
      go_wp2_with fail
      refine (HC1.out _ _ (LU1.out _ _)).mono ?_
      rintro e w' ⟨rfl, rfl⟩
      go_wp2_with fail
      refine (HC2.out _ _ (((LU1.out _ _).alloc _).alloc _) (w.heap.size + 1) (w.heap.size + 1 + 1) (by simp [go_sem]) (by simp [go_sem])).mono ?_
      rintro e w' ⟨rfl, rfl⟩
      go_wp2
      go_ret2
      exact ⟨rfl, bl_alloc3 _ _ _ _⟩
  · have HC1 := Lib.hid (fun v w' h => by
      have := gtcontainsf_any v [ax, ay, bx, by', cx, cy] w' h
      rw [hn] at this; exact this)
    have e : tuE ax ay bx by' cx cy = 4 := by unfold tuE; rw [if_pos hn]
    have e2 : tuV ax ay bx by' cx cy = 0 := by unfold tuV; rw [e]; rfl
    rw [e, e2]
    clear e e2 hn
    go_enter Tryd.func36, Tryd.ntmps36
    go_wp2_with fail
    refine (HC1.out _ _ (LU1.out _ _)).mono ?_
    rintro e w' ⟨rfl, rfl⟩
    go_wp2
    go_ret2
    exact ⟨rfl, (Below.refl _ _).alloc (Nat.le_refl _) _⟩

theorem glives_facts : (gaE [4607182418800017408] 4363988038922010624 = 0 ∧ gaL [4607182418800017408] 4363988038922010624 = [4363988038922010624, 4607182418800017408]) ∧ (gsV [4363988038922010624, 4607182418800017408] = 1 ∧ gcE [4363988038922010624, 4607182418800017408] = 0) ∧
    (tuV 0 0 4607182418800017408 0 0 4607182418800017408 = 1 ∧ tuE 0 0 4607182418800017408 0 0 4607182418800017408 = 0) :=
  ⟨⟨by kernel_rfl, by kernel_rfl⟩, ⟨by kernel_rfl, by kernel_rfl⟩, ⟨by kernel_rfl, by kernel_rfl⟩⟩
theorem one_lu (w : World) (x : Int) (T : TypeId) (h0 : 0 ≤ x) (h1 : x ≤ 18446744073709551615) : LU (w.alloc (.cells #[.int .u64 x] T)) (.slice (some ⟨w.heap.size, 0, none⟩) 1 1) [x] := by
  refine ⟨by intro d hd; simp at hd; subst hd; exact ⟨h0, h1⟩, some ⟨w.heap.size, 0, none⟩, 1, rfl, Nat.le_refl 1, by unfold maxLen; omega, Or.inr ⟨w.heap.size, 0, rfl, by simp, ?_⟩⟩
  intro i hi
  match i, hi with
  | 0, _ => simp [go_sem]
set_option maxRecDepth 100000 in
set_option maxHeartbeats 8000000 in
theorem growLives_any (w : World) (hT : Tab w) :
    Calls Tryd.prog 37 #[] w fun e w' => e = .returned (.bool true) ∧ Below w.heap.size w w' := by
  obtain ⟨⟨e1, e2⟩, ⟨e3, e4⟩, ⟨e5, e6⟩⟩ := glives_facts
  have h1 := fun v w' h h2 => gadd_any v [4607182418800017408] 4363988038922010624 w' h h2 (by decide) (by decide)
  have h2 := fun v w' h h2 => gSign_any v [4363988038922010624, 4607182418800017408] w' h h2
  have h3 := fun w' h => turn_any 0 0 4607182418800017408 0 0 4607182418800017408 (by decide) w' h
  rw [e1, e2] at h1
  rw [e3, e4] at h2
  rw [e5, e6] at h3
  have H1 := Lib.hid h1
  have H2 := Lib.hid h2
  have H3 := Lib.hid h3
  have HT := Lib.hid hT
  have L1 := Lib.hid (fun (w : World) T => one_lu w 4607182418800017408 T (by decide) (by decide))
  have k3 := ok3_mk
  clear h1 h2 h3 hT e1 e2 e3 e4 e5 e6
  go_enter Tryd.func37, Tryd.ntmps37
  go_wp2_with fail
  refine (H1.out _ _ (HT.out.alloc _) (L1.out _ _)).mono ?_
  rintro r w1 ⟨v1, rfl, hl, hb⟩
  have B1 : Hid (Below w.heap.size w w1) := Lib.hid (bl_thru ((Below.refl w.heap.size w).alloc (Nat.le_refl _) _) (Nat.le_refl _) hb)
  have HL := Lib.hid hl
  clear hl hb
  go_wp2_with fail
  refine (H2.out _ _ (HT.out.below B1.out) HL.out).mono ?_
  rintro r w2 ⟨rfl, hb⟩
  have B2 : Hid (Below w.heap.size w w2) := Lib.hid (bl_thru B1.out (Nat.le_refl _) hb)
  have HL2 := Lib.hid (HL.out.below hb)
  clear hb
  go_wp2_with fail
  refine (H3.out _ (HT.out.below B2.out)).mono ?_
  rintro r w3 ⟨rfl, hb⟩
  have B3 : Hid (Below w.heap.size w w3) := Lib.hid (bl_thru B2.out (Nat.le_refl _) hb)
  obtain ⟨-, ao, cap, rfl, hcap, hmx, hc⟩ := HL2.out.below hb
  unfold maxLen at hmx
  obtain ⟨b, off, rfl, hbw, hcell⟩ : ∃ b off, ao = some ⟨b, off, none⟩ ∧ b < w3.heap.size ∧ ∀ i, i < 2 → w3.cell? ⟨b, off + i, none⟩ = some (.int .u64 ([4363988038922010624, 4607182418800017408].getD i 0)) := by
    rcases hc with h | h
    · simp at h
    · exact h
  have c0 : w3.cell? ⟨b, off, none⟩ = some (.int .u64 4363988038922010624) := hcell 0 (by decide)
  have c1 : w3.cell? ⟨b, off + 1, none⟩ = some (.int .u64 4607182418800017408) := hcell 1 (by decide)
  simp only [List.length_cons, List.length_nil] at *
  clear hc hcell hb
  go_wp2_with (go_at_call 28; refine (ok_new3 _ _ _ _ _ rfl).mono ?_; rintro e w' ⟨rfl, rfl⟩)
  go_ret
  exact ⟨rfl, B3.out.alloc B3.out.size _⟩
end Go.Proofs.YtapdjclhpcakeaaDoor
