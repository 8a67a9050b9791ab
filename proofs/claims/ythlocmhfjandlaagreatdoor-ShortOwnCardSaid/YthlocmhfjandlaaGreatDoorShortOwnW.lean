/-
  THE WALK of the law ShortOwn.
-/
import Derived.Test.YthlocmhfjandlaaGreatDoorFloatB
import Derived.Test.YthlocmhfjandlaaGreatDoorYjk
set_option linter.unusedVariables false
set_option linter.unusedSimpArgs false
namespace Go.Proofs.YthlocmhfjandlaaGreatDoor
open Go.RowKit Nt Fm Fl

theorem so_abs (x : Int) : fabs (fneg x) = fabs x := by unfold fabs fneg; split <;> omega
theorem so_cls (x : Int) : fcls (fneg x) = fcls x := by unfold fcls; rw [so_abs]
theorem so_has (x : Int) : hasV (fneg x) = hasV x := by unfold hasV; rw [so_abs]
theorem so_exp (x : Int) : fexp (fneg x) = fexp x := by unfold fexp fneg; split <;> omega
theorem so_fr (x : Int) : ffr (fneg x) = ffr x := by unfold ffr fneg; split <;> omega
theorem so_M (x : Int) : lmM (fneg x) = lmM x := by unfold lmM; rw [so_exp, so_fr]
theorem so_E (x : Int) : lmE (fneg x) = lmE x := by unfold lmE; rw [so_exp]
theorem so_L (x : Int) : lmL (fneg x) = lmL x := by unfold lmL; rw [so_exp, so_fr, so_M]
theorem so_D (x : Int) : shD (fneg x) = shD x := by unfold shD; rw [so_M, so_E]
theorem so_K (x : Int) (n : Nat) : shK (fneg x) n = shK x n := by unfold shK; rw [so_D]
theorem so_Q (x : Int) (n : Nat) : shQ (fneg x) n = shQ x n := by unfold shQ; rw [so_D, so_K]
theorem so_Ev (x : Int) : shEv (fneg x) = shEv x := by unfold shEv; rw [so_fr]
theorem so_Fa (x : Int) (n : Nat) : shFa (fneg x) n = shFa x n := by unfold shFa; rw [so_Q, so_K, so_L, so_M, so_E, so_Ev]
theorem so_Fc (x : Int) (n : Nat) : shFc (fneg x) n = shFc x n := by unfold shFc; rw [so_Q, so_K, so_L, so_M, so_E, so_Ev]
theorem so_St (x : Int) : shSt (fneg x) = shSt x := by funext n; unfold shSt; rw [so_Fa, so_Fc]
theorem so_N (x : Int) : shN (fneg x) = shN x := by unfold shN; rw [so_St]
theorem so_Hf (x : Int) (n : Nat) : shHf (fneg x) n = shHf x n := by unfold shHf; rw [so_Q, so_K, so_M, so_E]
theorem so_C (x : Int) (n : Nat) : shC (fneg x) n = shC x n := by unfold shC; rw [so_Fa, so_Fc, so_Hf, so_Q]
theorem so_R (x : Int) : shRr (fneg x) = shRr x := by unfold shRr; rw [so_N, so_C, so_Q]
theorem so_S (x : Int) : shS (fneg x) = shS x := by unfold shS; rw [so_R]
theorem so_T (x : Int) : shT (fneg x) = shT x := by unfold shT; rw [so_S]
theorem so_X (x : Int) : shX (fneg x) = shX x := by unfold shX; rw [so_N, so_K, so_S, so_T]
theorem so_sd (x : Int) : sdT (fneg x) = sdT x ∧ sdX (fneg x) = sdX x ∧ sdE (fneg x) = sdE x := by
  unfold sdT sdX sdE
  rw [so_has, so_abs, so_T, so_X]
  exact ⟨rfl, rfl, rfl⟩
theorem so_sg {x : Int} (x0 : 0 ≤ x) (x1 : x ≤ 18446744073709551615) : (9223372036854775808 ≤ x → sgS x = [45] ++ sgS (fneg x)) ∧ (¬ 9223372036854775808 ≤ x → sgS (fneg x) = [45] ++ sgS x) := by
  unfold sgS
  constructor
  · intro hs
    have : ¬ 9223372036854775808 ≤ fneg x := by unfold fneg; rw [if_pos hs]; omega
    rw [if_pos hs, if_neg this]; rfl
  · intro hs
    have : 9223372036854775808 ≤ fneg x := by unfold fneg; rw [if_neg hs]; omega
    rw [if_pos this, if_neg hs]; rfl
theorem so_text {x : Int} (x0 : 0 ≤ x) (x1 : x ≤ 18446744073709551615) (hn : fcls x ≠ 5) : (9223372036854775808 ≤ x → stT x = [45] ++ stT (fneg x)) ∧ (¬ 9223372036854775808 ≤ x → stT (fneg x) = [45] ++ stT x) := by
  unfold stT
  rw [so_cls, if_neg hn, if_neg hn, so_T, so_X]
  obtain ⟨k1, k2⟩ := so_sg x0 x1
  exact ⟨fun h => by rw [k1 h, List.append_assoc], fun h => by rw [k2 h, List.append_assoc]⟩
theorem so_unlike {x y : Int} (x0 : 0 ≤ x) (x1 : x ≤ 18446744073709551615) (y0 : 0 ≤ y) (y1 : y ≤ 18446744073709551615) (hx : fcls x ≠ 5) (hy : fcls y ≠ 5) : (stT x == stT y) = (x == y) := by
  rw [Bool.eq_iff_iff, beq_iff_eq, beq_iff_eq]
  constructor
  · intro h
    rw [← (short_read x0 x1 hx).2.1, ← (short_read y0 y1 hy).2.1, h]
  · exact fun h => by rw [h]
theorem so_len (x : Int) (x0 : 0 ≤ x) (x1 : x ≤ 18446744073709551615) : (stT x).length ≤ 1000 := by
  by_cases hn : fcls x = 5
  · unfold stT; rw [if_pos hn]; decide
  · exact (short_read x0 x1 hn).2.2
theorem so_app {S N : ByteArray} {s n : List UInt8} (hS : S = ⟨s.toArray⟩) (hN : N = ⟨n.toArray⟩) (h : s = [45] ++ n) : S = ⟨#[45]⟩ ++ N := by
  subst hS hN h
  apply ByteArray.ext
  simp
theorem so_beq {S N : ByteArray} {s n : List UInt8} (hS : S = ⟨s.toArray⟩) (hN : N = ⟨n.toArray⟩) {b : Bool} (h : (s == n) = b) : (S.toList == N.toList) = b := by
  subst hS hN
  rw [← h]
  congr 1 <;> rw [ByteArray.toList_eq]
set_option maxRecDepth 100000 in
set_option maxHeartbeats 8000000 in
theorem so_nan (x y xn d : Int) (S T2 N2 : ByteArray) (D : ByteArray) (k er : Int)  (w : World) (hT : Tab w) (hT10 : Tab10 w)
    (CX : Hid (∀ w' : World, Calls Tryz.prog 24 #[.int .u64 x] w' fun e w2 => e = .returned (.int .i64 5) ∧ w' = w2))
    (CY : Hid (∀ w' : World, Calls Tryz.prog 24 #[.int .u64 y] w' fun e w2 => e = .returned (.int .i64 d) ∧ w' = w2))
    (NG : Hid (∀ w' : World, Calls Tryz.prog 31 #[.int .u64 x] w' fun e w2 => e = .returned (.int .u64 xn) ∧ w' = w2))
    (DG : Hid (∀ w' : World, Tab w' → Tab10 w' → Calls Tryz.prog 39 #[.int .u64 x] w' fun e w2 => e = .returned (.tuple #[.string D, .int .i64 k, .int .i64 er]) ∧ Below w'.heap.size w' w2))
    (DN : Hid (∀ w' : World, Tab w' → Tab10 w' → Calls Tryz.prog 39 #[.int .u64 xn] w' fun e w2 => e = .returned (.tuple #[.string D, .int .i64 k, .int .i64 er]) ∧ Below w'.heap.size w' w2))
    (TX : Hid (∀ w' : World, Tab w' → Tab10 w' → Calls Tryz.prog 40 #[.int .u64 x] w' fun e w2 => e = .returned (.string ⟨#[110, 97, 110]⟩) ∧ Below w'.heap.size w' w2))
    (TY : Hid (∀ w' : World, Tab w' → Tab10 w' → Calls Tryz.prog 40 #[.int .u64 y] w' fun e w2 => e = .returned (.string T2) ∧ Below w'.heap.size w' w2))
    (TN : Hid (∀ w' : World, Tab w' → Tab10 w' → Calls Tryz.prog 40 #[.int .u64 xn] w' fun e w2 => e = .returned (.string N2) ∧ Below w'.heap.size w' w2))
    (LV : Hid (∀ w' : World, Tab w' → Tab10 w' → Calls Tryz.prog 41 #[] w' fun e w2 => e = .returned (.bool true) ∧ Below w'.heap.size w' w2)) :
    Calls Tryz.prog 7 #[.int .u64 x, .int .u64 y] w fun e w' => e = .returned (.bool true) ∧ Below w.heap.size w w' := by
  have HT := Lib.hid hT
  have H10 := Lib.hid hT10
  have B : Hid (Below w.heap.size w w) := Lib.hid (Below.refl w.heap.size w)
  clear hT hT10
  go_enter Tryz.func7, Tryz.ntmps7
  go_wp2_with (first
    | (go_at_call 24; (with_reducible refine (CX.out _).mono ?_); rintro e w1 ⟨rfl, rfl⟩)
    | (go_at_call 24; (with_reducible refine (CY.out _).mono ?_); rintro e w1 ⟨rfl, rfl⟩)
    | (go_at_call 31; refine (NG.out _).mono ?_; rintro e w1 ⟨rfl, rfl⟩)
    | (go_at_call 39; (with_reducible refine (DG.out _ HT.out H10.out).mono ?_); rintro r w1 ⟨rfl, hb⟩; replace HT := Lib.hid (HT.out.below hb); replace H10 := Lib.hid (H10.out.below hb); replace B := Lib.hid (bl_thru B.out (Nat.le_refl _) hb); clear hb)
    | (go_at_call 39; (with_reducible refine (DN.out _ HT.out H10.out).mono ?_); rintro r w1 ⟨rfl, hb⟩; replace HT := Lib.hid (HT.out.below hb); replace H10 := Lib.hid (H10.out.below hb); replace B := Lib.hid (bl_thru B.out (Nat.le_refl _) hb); clear hb)
    | (go_at_call 40; (with_reducible refine (TX.out _ HT.out H10.out).mono ?_); rintro r w1 ⟨rfl, hb⟩; replace HT := Lib.hid (HT.out.below hb); replace H10 := Lib.hid (H10.out.below hb); replace B := Lib.hid (bl_thru B.out (Nat.le_refl _) hb); clear hb)
    | (go_at_call 40; (with_reducible refine (TY.out _ HT.out H10.out).mono ?_); rintro r w1 ⟨rfl, hb⟩; replace HT := Lib.hid (HT.out.below hb); replace H10 := Lib.hid (H10.out.below hb); replace B := Lib.hid (bl_thru B.out (Nat.le_refl _) hb); clear hb)
    | (go_at_call 40; (with_reducible refine (TN.out _ HT.out H10.out).mono ?_); rintro r w1 ⟨rfl, hb⟩; replace HT := Lib.hid (HT.out.below hb); replace H10 := Lib.hid (H10.out.below hb); replace B := Lib.hid (bl_thru B.out (Nat.le_refl _) hb); clear hb)
    | (go_at_call 41; (with_reducible refine (LV.out _ HT.out H10.out).mono ?_); rintro r w1 ⟨rfl, hb⟩; replace HT := Lib.hid (HT.out.below hb); replace H10 := Lib.hid (H10.out.below hb); replace B := Lib.hid (bl_thru B.out (Nat.le_refl _) hb); clear hb))
  all_goals first
    | (go_ret; exact ⟨rfl, B.out⟩; done)
    | (go_ret; refine ⟨?_, B.out⟩; simp_all; done)
    | (exfalso; simp_all; done)
    | trace_state
set_option maxRecDepth 100000 in
set_option maxHeartbeats 8000000 in
theorem so_ynan (x y xn : Int) (S T2 N2 : ByteArray) (D : ByteArray) (k er : Int) (zS : S.size ≤ 100000) (zN : N2.size ≤ 100000) (c : Int) (b5 : (c == 5) = false) (b5' : (c != 5) = true) (w : World) (hT : Tab w) (hT10 : Tab10 w)
    (CX : Hid (∀ w' : World, Calls Tryz.prog 24 #[.int .u64 x] w' fun e w2 => e = .returned (.int .i64 c) ∧ w' = w2))
    (CY : Hid (∀ w' : World, Calls Tryz.prog 24 #[.int .u64 y] w' fun e w2 => e = .returned (.int .i64 5) ∧ w' = w2))
    (NG : Hid (∀ w' : World, Calls Tryz.prog 31 #[.int .u64 x] w' fun e w2 => e = .returned (.int .u64 xn) ∧ w' = w2))
    (DG : Hid (∀ w' : World, Tab w' → Tab10 w' → Calls Tryz.prog 39 #[.int .u64 x] w' fun e w2 => e = .returned (.tuple #[.string D, .int .i64 k, .int .i64 er]) ∧ Below w'.heap.size w' w2))
    (DN : Hid (∀ w' : World, Tab w' → Tab10 w' → Calls Tryz.prog 39 #[.int .u64 xn] w' fun e w2 => e = .returned (.tuple #[.string D, .int .i64 k, .int .i64 er]) ∧ Below w'.heap.size w' w2))
    (TX : Hid (∀ w' : World, Tab w' → Tab10 w' → Calls Tryz.prog 40 #[.int .u64 x] w' fun e w2 => e = .returned (.string S) ∧ Below w'.heap.size w' w2))
    (TY : Hid (∀ w' : World, Tab w' → Tab10 w' → Calls Tryz.prog 40 #[.int .u64 y] w' fun e w2 => e = .returned (.string T2) ∧ Below w'.heap.size w' w2))
    (TN : Hid (∀ w' : World, Tab w' → Tab10 w' → Calls Tryz.prog 40 #[.int .u64 xn] w' fun e w2 => e = .returned (.string N2) ∧ Below w'.heap.size w' w2))
    (LV : Hid (∀ w' : World, Tab w' → Tab10 w' → Calls Tryz.prog 41 #[] w' fun e w2 => e = .returned (.bool true) ∧ Below w'.heap.size w' w2)) :
    Calls Tryz.prog 7 #[.int .u64 x, .int .u64 y] w fun e w' => e = .returned (.bool true) ∧ Below w.heap.size w w' := by
  have HT := Lib.hid hT
  have H10 := Lib.hid hT10
  have B : Hid (Below w.heap.size w w) := Lib.hid (Below.refl w.heap.size w)
  clear hT hT10
  go_enter Tryz.func7, Tryz.ntmps7
  go_wp2_with (first
    | (go_at_call 24; (with_reducible refine (CX.out _).mono ?_); rintro e w1 ⟨rfl, rfl⟩)
    | (go_at_call 24; (with_reducible refine (CY.out _).mono ?_); rintro e w1 ⟨rfl, rfl⟩)
    | (go_at_call 31; refine (NG.out _).mono ?_; rintro e w1 ⟨rfl, rfl⟩)
    | (go_at_call 39; (with_reducible refine (DG.out _ HT.out H10.out).mono ?_); rintro r w1 ⟨rfl, hb⟩; replace HT := Lib.hid (HT.out.below hb); replace H10 := Lib.hid (H10.out.below hb); replace B := Lib.hid (bl_thru B.out (Nat.le_refl _) hb); clear hb)
    | (go_at_call 39; (with_reducible refine (DN.out _ HT.out H10.out).mono ?_); rintro r w1 ⟨rfl, hb⟩; replace HT := Lib.hid (HT.out.below hb); replace H10 := Lib.hid (H10.out.below hb); replace B := Lib.hid (bl_thru B.out (Nat.le_refl _) hb); clear hb)
    | (go_at_call 40; (with_reducible refine (TX.out _ HT.out H10.out).mono ?_); rintro r w1 ⟨rfl, hb⟩; replace HT := Lib.hid (HT.out.below hb); replace H10 := Lib.hid (H10.out.below hb); replace B := Lib.hid (bl_thru B.out (Nat.le_refl _) hb); clear hb)
    | (go_at_call 40; (with_reducible refine (TY.out _ HT.out H10.out).mono ?_); rintro r w1 ⟨rfl, hb⟩; replace HT := Lib.hid (HT.out.below hb); replace H10 := Lib.hid (H10.out.below hb); replace B := Lib.hid (bl_thru B.out (Nat.le_refl _) hb); clear hb)
    | (go_at_call 40; (with_reducible refine (TN.out _ HT.out H10.out).mono ?_); rintro r w1 ⟨rfl, hb⟩; replace HT := Lib.hid (HT.out.below hb); replace H10 := Lib.hid (H10.out.below hb); replace B := Lib.hid (bl_thru B.out (Nat.le_refl _) hb); clear hb)
    | (go_at_call 41; (with_reducible refine (LV.out _ HT.out H10.out).mono ?_); rintro r w1 ⟨rfl, hb⟩; replace HT := Lib.hid (HT.out.below hb); replace H10 := Lib.hid (H10.out.below hb); replace B := Lib.hid (bl_thru B.out (Nat.le_refl _) hb); clear hb))
  all_goals first
    | (go_ret; exact ⟨rfl, B.out⟩; done)
    | (go_ret; refine ⟨?_, B.out⟩; simp_all; done)
    | (exfalso; simp_all; done)
    | trace_state
set_option maxRecDepth 100000 in
set_option maxHeartbeats 8000000 in
theorem so_a_true (x y xn : Int) (S T2 N2 : ByteArray) (D : ByteArray) (k er : Int) (zS : S.size ≤ 100000) (zN : N2.size ≤ 100000) (c d : Int) (b5 : (c == 5) = false) (b5' : (c != 5) = true) (d5 : (d == 5) = false) (q1 : (S.toList == T2.toList) = true) (q2 : (x == y) = true) (h : (S.toList == (⟨#[45]⟩ ++ N2).toList) = true) (w : World) (hT : Tab w) (hT10 : Tab10 w)
    (CX : Hid (∀ w' : World, Calls Tryz.prog 24 #[.int .u64 x] w' fun e w2 => e = .returned (.int .i64 c) ∧ w' = w2))
    (CY : Hid (∀ w' : World, Calls Tryz.prog 24 #[.int .u64 y] w' fun e w2 => e = .returned (.int .i64 d) ∧ w' = w2))
    (NG : Hid (∀ w' : World, Calls Tryz.prog 31 #[.int .u64 x] w' fun e w2 => e = .returned (.int .u64 xn) ∧ w' = w2))
    (DG : Hid (∀ w' : World, Tab w' → Tab10 w' → Calls Tryz.prog 39 #[.int .u64 x] w' fun e w2 => e = .returned (.tuple #[.string D, .int .i64 k, .int .i64 er]) ∧ Below w'.heap.size w' w2))
    (DN : Hid (∀ w' : World, Tab w' → Tab10 w' → Calls Tryz.prog 39 #[.int .u64 xn] w' fun e w2 => e = .returned (.tuple #[.string D, .int .i64 k, .int .i64 er]) ∧ Below w'.heap.size w' w2))
    (TX : Hid (∀ w' : World, Tab w' → Tab10 w' → Calls Tryz.prog 40 #[.int .u64 x] w' fun e w2 => e = .returned (.string S) ∧ Below w'.heap.size w' w2))
    (TY : Hid (∀ w' : World, Tab w' → Tab10 w' → Calls Tryz.prog 40 #[.int .u64 y] w' fun e w2 => e = .returned (.string T2) ∧ Below w'.heap.size w' w2))
    (TN : Hid (∀ w' : World, Tab w' → Tab10 w' → Calls Tryz.prog 40 #[.int .u64 xn] w' fun e w2 => e = .returned (.string N2) ∧ Below w'.heap.size w' w2))
    (LV : Hid (∀ w' : World, Tab w' → Tab10 w' → Calls Tryz.prog 41 #[] w' fun e w2 => e = .returned (.bool true) ∧ Below w'.heap.size w' w2)) :
    Calls Tryz.prog 7 #[.int .u64 x, .int .u64 y] w fun e w' => e = .returned (.bool true) ∧ Below w.heap.size w w' := by
  have HT := Lib.hid hT
  have H10 := Lib.hid hT10
  have B : Hid (Below w.heap.size w w) := Lib.hid (Below.refl w.heap.size w)
  clear hT hT10
  go_enter Tryz.func7, Tryz.ntmps7
  go_wp2_with (first
    | (go_at_call 24; (with_reducible refine (CX.out _).mono ?_); rintro e w1 ⟨rfl, rfl⟩)
    | (go_at_call 24; (with_reducible refine (CY.out _).mono ?_); rintro e w1 ⟨rfl, rfl⟩)
    | (go_at_call 31; refine (NG.out _).mono ?_; rintro e w1 ⟨rfl, rfl⟩)
    | (go_at_call 39; (with_reducible refine (DG.out _ HT.out H10.out).mono ?_); rintro r w1 ⟨rfl, hb⟩; replace HT := Lib.hid (HT.out.below hb); replace H10 := Lib.hid (H10.out.below hb); replace B := Lib.hid (bl_thru B.out (Nat.le_refl _) hb); clear hb)
    | (go_at_call 39; (with_reducible refine (DN.out _ HT.out H10.out).mono ?_); rintro r w1 ⟨rfl, hb⟩; replace HT := Lib.hid (HT.out.below hb); replace H10 := Lib.hid (H10.out.below hb); replace B := Lib.hid (bl_thru B.out (Nat.le_refl _) hb); clear hb)
    | (go_at_call 40; (with_reducible refine (TX.out _ HT.out H10.out).mono ?_); rintro r w1 ⟨rfl, hb⟩; replace HT := Lib.hid (HT.out.below hb); replace H10 := Lib.hid (H10.out.below hb); replace B := Lib.hid (bl_thru B.out (Nat.le_refl _) hb); clear hb)
    | (go_at_call 40; (with_reducible refine (TY.out _ HT.out H10.out).mono ?_); rintro r w1 ⟨rfl, hb⟩; replace HT := Lib.hid (HT.out.below hb); replace H10 := Lib.hid (H10.out.below hb); replace B := Lib.hid (bl_thru B.out (Nat.le_refl _) hb); clear hb)
    | (go_at_call 40; (with_reducible refine (TN.out _ HT.out H10.out).mono ?_); rintro r w1 ⟨rfl, hb⟩; replace HT := Lib.hid (HT.out.below hb); replace H10 := Lib.hid (H10.out.below hb); replace B := Lib.hid (bl_thru B.out (Nat.le_refl _) hb); clear hb)
    | (go_at_call 41; (with_reducible refine (LV.out _ HT.out H10.out).mono ?_); rintro r w1 ⟨rfl, hb⟩; replace HT := Lib.hid (HT.out.below hb); replace H10 := Lib.hid (H10.out.below hb); replace B := Lib.hid (bl_thru B.out (Nat.le_refl _) hb); clear hb))
  all_goals first
    | (go_ret; exact ⟨rfl, B.out⟩; done)
    | (go_ret; refine ⟨?_, B.out⟩; simp_all; done)
    | (exfalso; simp_all; done)
    | trace_state
set_option maxRecDepth 100000 in
set_option maxHeartbeats 8000000 in
theorem so_b_true (x y xn : Int) (S T2 N2 : ByteArray) (D : ByteArray) (k er : Int) (zS : S.size ≤ 100000) (zN : N2.size ≤ 100000) (c d : Int) (b5 : (c == 5) = false) (b5' : (c != 5) = true) (d5 : (d == 5) = false) (q1 : (S.toList == T2.toList) = true) (q2 : (x == y) = true) (h : (N2.toList == (⟨#[45]⟩ ++ S).toList) = true) (w : World) (hT : Tab w) (hT10 : Tab10 w)
    (CX : Hid (∀ w' : World, Calls Tryz.prog 24 #[.int .u64 x] w' fun e w2 => e = .returned (.int .i64 c) ∧ w' = w2))
    (CY : Hid (∀ w' : World, Calls Tryz.prog 24 #[.int .u64 y] w' fun e w2 => e = .returned (.int .i64 d) ∧ w' = w2))
    (NG : Hid (∀ w' : World, Calls Tryz.prog 31 #[.int .u64 x] w' fun e w2 => e = .returned (.int .u64 xn) ∧ w' = w2))
    (DG : Hid (∀ w' : World, Tab w' → Tab10 w' → Calls Tryz.prog 39 #[.int .u64 x] w' fun e w2 => e = .returned (.tuple #[.string D, .int .i64 k, .int .i64 er]) ∧ Below w'.heap.size w' w2))
    (DN : Hid (∀ w' : World, Tab w' → Tab10 w' → Calls Tryz.prog 39 #[.int .u64 xn] w' fun e w2 => e = .returned (.tuple #[.string D, .int .i64 k, .int .i64 er]) ∧ Below w'.heap.size w' w2))
    (TX : Hid (∀ w' : World, Tab w' → Tab10 w' → Calls Tryz.prog 40 #[.int .u64 x] w' fun e w2 => e = .returned (.string S) ∧ Below w'.heap.size w' w2))
    (TY : Hid (∀ w' : World, Tab w' → Tab10 w' → Calls Tryz.prog 40 #[.int .u64 y] w' fun e w2 => e = .returned (.string T2) ∧ Below w'.heap.size w' w2))
    (TN : Hid (∀ w' : World, Tab w' → Tab10 w' → Calls Tryz.prog 40 #[.int .u64 xn] w' fun e w2 => e = .returned (.string N2) ∧ Below w'.heap.size w' w2))
    (LV : Hid (∀ w' : World, Tab w' → Tab10 w' → Calls Tryz.prog 41 #[] w' fun e w2 => e = .returned (.bool true) ∧ Below w'.heap.size w' w2)) :
    Calls Tryz.prog 7 #[.int .u64 x, .int .u64 y] w fun e w' => e = .returned (.bool true) ∧ Below w.heap.size w w' := by
  have HT := Lib.hid hT
  have H10 := Lib.hid hT10
  have B : Hid (Below w.heap.size w w) := Lib.hid (Below.refl w.heap.size w)
  clear hT hT10
  go_enter Tryz.func7, Tryz.ntmps7
  go_wp2_with (first
    | (go_at_call 24; (with_reducible refine (CX.out _).mono ?_); rintro e w1 ⟨rfl, rfl⟩)
    | (go_at_call 24; (with_reducible refine (CY.out _).mono ?_); rintro e w1 ⟨rfl, rfl⟩)
    | (go_at_call 31; refine (NG.out _).mono ?_; rintro e w1 ⟨rfl, rfl⟩)
    | (go_at_call 39; (with_reducible refine (DG.out _ HT.out H10.out).mono ?_); rintro r w1 ⟨rfl, hb⟩; replace HT := Lib.hid (HT.out.below hb); replace H10 := Lib.hid (H10.out.below hb); replace B := Lib.hid (bl_thru B.out (Nat.le_refl _) hb); clear hb)
    | (go_at_call 39; (with_reducible refine (DN.out _ HT.out H10.out).mono ?_); rintro r w1 ⟨rfl, hb⟩; replace HT := Lib.hid (HT.out.below hb); replace H10 := Lib.hid (H10.out.below hb); replace B := Lib.hid (bl_thru B.out (Nat.le_refl _) hb); clear hb)
    | (go_at_call 40; (with_reducible refine (TX.out _ HT.out H10.out).mono ?_); rintro r w1 ⟨rfl, hb⟩; replace HT := Lib.hid (HT.out.below hb); replace H10 := Lib.hid (H10.out.below hb); replace B := Lib.hid (bl_thru B.out (Nat.le_refl _) hb); clear hb)
    | (go_at_call 40; (with_reducible refine (TY.out _ HT.out H10.out).mono ?_); rintro r w1 ⟨rfl, hb⟩; replace HT := Lib.hid (HT.out.below hb); replace H10 := Lib.hid (H10.out.below hb); replace B := Lib.hid (bl_thru B.out (Nat.le_refl _) hb); clear hb)
    | (go_at_call 40; (with_reducible refine (TN.out _ HT.out H10.out).mono ?_); rintro r w1 ⟨rfl, hb⟩; replace HT := Lib.hid (HT.out.below hb); replace H10 := Lib.hid (H10.out.below hb); replace B := Lib.hid (bl_thru B.out (Nat.le_refl _) hb); clear hb)
    | (go_at_call 41; (with_reducible refine (LV.out _ HT.out H10.out).mono ?_); rintro r w1 ⟨rfl, hb⟩; replace HT := Lib.hid (HT.out.below hb); replace H10 := Lib.hid (H10.out.below hb); replace B := Lib.hid (bl_thru B.out (Nat.le_refl _) hb); clear hb))
  all_goals first
    | (go_ret; exact ⟨rfl, B.out⟩; done)
    | (go_ret; refine ⟨?_, B.out⟩; simp_all; done)
    | (exfalso; simp_all; done)
    | trace_state
set_option maxRecDepth 100000 in
set_option maxHeartbeats 8000000 in
theorem so_a_false (x y xn : Int) (S T2 N2 : ByteArray) (D : ByteArray) (k er : Int) (zS : S.size ≤ 100000) (zN : N2.size ≤ 100000) (c d : Int) (b5 : (c == 5) = false) (b5' : (c != 5) = true) (d5 : (d == 5) = false) (q1 : (S.toList == T2.toList) = false) (q2 : (x == y) = false) (h : (S.toList == (⟨#[45]⟩ ++ N2).toList) = true) (w : World) (hT : Tab w) (hT10 : Tab10 w)
    (CX : Hid (∀ w' : World, Calls Tryz.prog 24 #[.int .u64 x] w' fun e w2 => e = .returned (.int .i64 c) ∧ w' = w2))
    (CY : Hid (∀ w' : World, Calls Tryz.prog 24 #[.int .u64 y] w' fun e w2 => e = .returned (.int .i64 d) ∧ w' = w2))
    (NG : Hid (∀ w' : World, Calls Tryz.prog 31 #[.int .u64 x] w' fun e w2 => e = .returned (.int .u64 xn) ∧ w' = w2))
    (DG : Hid (∀ w' : World, Tab w' → Tab10 w' → Calls Tryz.prog 39 #[.int .u64 x] w' fun e w2 => e = .returned (.tuple #[.string D, .int .i64 k, .int .i64 er]) ∧ Below w'.heap.size w' w2))
    (DN : Hid (∀ w' : World, Tab w' → Tab10 w' → Calls Tryz.prog 39 #[.int .u64 xn] w' fun e w2 => e = .returned (.tuple #[.string D, .int .i64 k, .int .i64 er]) ∧ Below w'.heap.size w' w2))
    (TX : Hid (∀ w' : World, Tab w' → Tab10 w' → Calls Tryz.prog 40 #[.int .u64 x] w' fun e w2 => e = .returned (.string S) ∧ Below w'.heap.size w' w2))
    (TY : Hid (∀ w' : World, Tab w' → Tab10 w' → Calls Tryz.prog 40 #[.int .u64 y] w' fun e w2 => e = .returned (.string T2) ∧ Below w'.heap.size w' w2))
    (TN : Hid (∀ w' : World, Tab w' → Tab10 w' → Calls Tryz.prog 40 #[.int .u64 xn] w' fun e w2 => e = .returned (.string N2) ∧ Below w'.heap.size w' w2))
    (LV : Hid (∀ w' : World, Tab w' → Tab10 w' → Calls Tryz.prog 41 #[] w' fun e w2 => e = .returned (.bool true) ∧ Below w'.heap.size w' w2)) :
    Calls Tryz.prog 7 #[.int .u64 x, .int .u64 y] w fun e w' => e = .returned (.bool true) ∧ Below w.heap.size w w' := by
  have HT := Lib.hid hT
  have H10 := Lib.hid hT10
  have B : Hid (Below w.heap.size w w) := Lib.hid (Below.refl w.heap.size w)
  clear hT hT10
  go_enter Tryz.func7, Tryz.ntmps7
  go_wp2_with (first
    | (go_at_call 24; (with_reducible refine (CX.out _).mono ?_); rintro e w1 ⟨rfl, rfl⟩)
    | (go_at_call 24; (with_reducible refine (CY.out _).mono ?_); rintro e w1 ⟨rfl, rfl⟩)
    | (go_at_call 31; refine (NG.out _).mono ?_; rintro e w1 ⟨rfl, rfl⟩)
    | (go_at_call 39; (with_reducible refine (DG.out _ HT.out H10.out).mono ?_); rintro r w1 ⟨rfl, hb⟩; replace HT := Lib.hid (HT.out.below hb); replace H10 := Lib.hid (H10.out.below hb); replace B := Lib.hid (bl_thru B.out (Nat.le_refl _) hb); clear hb)
    | (go_at_call 39; (with_reducible refine (DN.out _ HT.out H10.out).mono ?_); rintro r w1 ⟨rfl, hb⟩; replace HT := Lib.hid (HT.out.below hb); replace H10 := Lib.hid (H10.out.below hb); replace B := Lib.hid (bl_thru B.out (Nat.le_refl _) hb); clear hb)
    | (go_at_call 40; (with_reducible refine (TX.out _ HT.out H10.out).mono ?_); rintro r w1 ⟨rfl, hb⟩; replace HT := Lib.hid (HT.out.below hb); replace H10 := Lib.hid (H10.out.below hb); replace B := Lib.hid (bl_thru B.out (Nat.le_refl _) hb); clear hb)
    | (go_at_call 40; (with_reducible refine (TY.out _ HT.out H10.out).mono ?_); rintro r w1 ⟨rfl, hb⟩; replace HT := Lib.hid (HT.out.below hb); replace H10 := Lib.hid (H10.out.below hb); replace B := Lib.hid (bl_thru B.out (Nat.le_refl _) hb); clear hb)
    | (go_at_call 40; (with_reducible refine (TN.out _ HT.out H10.out).mono ?_); rintro r w1 ⟨rfl, hb⟩; replace HT := Lib.hid (HT.out.below hb); replace H10 := Lib.hid (H10.out.below hb); replace B := Lib.hid (bl_thru B.out (Nat.le_refl _) hb); clear hb)
    | (go_at_call 41; (with_reducible refine (LV.out _ HT.out H10.out).mono ?_); rintro r w1 ⟨rfl, hb⟩; replace HT := Lib.hid (HT.out.below hb); replace H10 := Lib.hid (H10.out.below hb); replace B := Lib.hid (bl_thru B.out (Nat.le_refl _) hb); clear hb))
  all_goals first
    | (go_ret; exact ⟨rfl, B.out⟩; done)
    | (go_ret; refine ⟨?_, B.out⟩; simp_all; done)
    | (exfalso; simp_all; done)
    | trace_state
set_option maxRecDepth 100000 in
set_option maxHeartbeats 8000000 in
theorem so_b_false (x y xn : Int) (S T2 N2 : ByteArray) (D : ByteArray) (k er : Int) (zS : S.size ≤ 100000) (zN : N2.size ≤ 100000) (c d : Int) (b5 : (c == 5) = false) (b5' : (c != 5) = true) (d5 : (d == 5) = false) (q1 : (S.toList == T2.toList) = false) (q2 : (x == y) = false) (h : (N2.toList == (⟨#[45]⟩ ++ S).toList) = true) (w : World) (hT : Tab w) (hT10 : Tab10 w)
    (CX : Hid (∀ w' : World, Calls Tryz.prog 24 #[.int .u64 x] w' fun e w2 => e = .returned (.int .i64 c) ∧ w' = w2))
    (CY : Hid (∀ w' : World, Calls Tryz.prog 24 #[.int .u64 y] w' fun e w2 => e = .returned (.int .i64 d) ∧ w' = w2))
    (NG : Hid (∀ w' : World, Calls Tryz.prog 31 #[.int .u64 x] w' fun e w2 => e = .returned (.int .u64 xn) ∧ w' = w2))
    (DG : Hid (∀ w' : World, Tab w' → Tab10 w' → Calls Tryz.prog 39 #[.int .u64 x] w' fun e w2 => e = .returned (.tuple #[.string D, .int .i64 k, .int .i64 er]) ∧ Below w'.heap.size w' w2))
    (DN : Hid (∀ w' : World, Tab w' → Tab10 w' → Calls Tryz.prog 39 #[.int .u64 xn] w' fun e w2 => e = .returned (.tuple #[.string D, .int .i64 k, .int .i64 er]) ∧ Below w'.heap.size w' w2))
    (TX : Hid (∀ w' : World, Tab w' → Tab10 w' → Calls Tryz.prog 40 #[.int .u64 x] w' fun e w2 => e = .returned (.string S) ∧ Below w'.heap.size w' w2))
    (TY : Hid (∀ w' : World, Tab w' → Tab10 w' → Calls Tryz.prog 40 #[.int .u64 y] w' fun e w2 => e = .returned (.string T2) ∧ Below w'.heap.size w' w2))
    (TN : Hid (∀ w' : World, Tab w' → Tab10 w' → Calls Tryz.prog 40 #[.int .u64 xn] w' fun e w2 => e = .returned (.string N2) ∧ Below w'.heap.size w' w2))
    (LV : Hid (∀ w' : World, Tab w' → Tab10 w' → Calls Tryz.prog 41 #[] w' fun e w2 => e = .returned (.bool true) ∧ Below w'.heap.size w' w2)) :
    Calls Tryz.prog 7 #[.int .u64 x, .int .u64 y] w fun e w' => e = .returned (.bool true) ∧ Below w.heap.size w w' := by
  have HT := Lib.hid hT
  have H10 := Lib.hid hT10
  have B : Hid (Below w.heap.size w w) := Lib.hid (Below.refl w.heap.size w)
  clear hT hT10
  go_enter Tryz.func7, Tryz.ntmps7
  go_wp2_with (first
    | (go_at_call 24; (with_reducible refine (CX.out _).mono ?_); rintro e w1 ⟨rfl, rfl⟩)
    | (go_at_call 24; (with_reducible refine (CY.out _).mono ?_); rintro e w1 ⟨rfl, rfl⟩)
    | (go_at_call 31; refine (NG.out _).mono ?_; rintro e w1 ⟨rfl, rfl⟩)
    | (go_at_call 39; (with_reducible refine (DG.out _ HT.out H10.out).mono ?_); rintro r w1 ⟨rfl, hb⟩; replace HT := Lib.hid (HT.out.below hb); replace H10 := Lib.hid (H10.out.below hb); replace B := Lib.hid (bl_thru B.out (Nat.le_refl _) hb); clear hb)
    | (go_at_call 39; (with_reducible refine (DN.out _ HT.out H10.out).mono ?_); rintro r w1 ⟨rfl, hb⟩; replace HT := Lib.hid (HT.out.below hb); replace H10 := Lib.hid (H10.out.below hb); replace B := Lib.hid (bl_thru B.out (Nat.le_refl _) hb); clear hb)
    | (go_at_call 40; (with_reducible refine (TX.out _ HT.out H10.out).mono ?_); rintro r w1 ⟨rfl, hb⟩; replace HT := Lib.hid (HT.out.below hb); replace H10 := Lib.hid (H10.out.below hb); replace B := Lib.hid (bl_thru B.out (Nat.le_refl _) hb); clear hb)
    | (go_at_call 40; (with_reducible refine (TY.out _ HT.out H10.out).mono ?_); rintro r w1 ⟨rfl, hb⟩; replace HT := Lib.hid (HT.out.below hb); replace H10 := Lib.hid (H10.out.below hb); replace B := Lib.hid (bl_thru B.out (Nat.le_refl _) hb); clear hb)
    | (go_at_call 40; (with_reducible refine (TN.out _ HT.out H10.out).mono ?_); rintro r w1 ⟨rfl, hb⟩; replace HT := Lib.hid (HT.out.below hb); replace H10 := Lib.hid (H10.out.below hb); replace B := Lib.hid (bl_thru B.out (Nat.le_refl _) hb); clear hb)
    | (go_at_call 41; (with_reducible refine (LV.out _ HT.out H10.out).mono ?_); rintro r w1 ⟨rfl, hb⟩; replace HT := Lib.hid (HT.out.below hb); replace H10 := Lib.hid (H10.out.below hb); replace B := Lib.hid (bl_thru B.out (Nat.le_refl _) hb); clear hb))
  all_goals first
    | (go_ret; exact ⟨rfl, B.out⟩; done)
    | (go_ret; refine ⟨?_, B.out⟩; simp_all; done)
    | (exfalso; simp_all; done)
    | trace_state
theorem walkShortOwn (x : Int) (x0 : 0 ≤ x) (x1 : x ≤ 18446744073709551615) (y : Int) (y0 : 0 ≤ y) (y1 : y ≤ 18446744073709551615) (w : World) (hT : Tab w) (hT10 : Tab10 w) :
    Calls Tryz.prog 7 #[.int .u64 x, .int .u64 y] w fun e w' => e = .returned (.bool true) ∧ Below w.heap.size w w' := by
  obtain ⟨n0, n1⟩ := fneg_bd x0 x1
  have CX := Lib.hid (fun w' => class_any x x0 x1 w')
  have CY := Lib.hid (fun w' => class_any y y0 y1 w')
  have NG := Lib.hid (fun w' => neg_any x x0 x1 w')
  have DG := Lib.hid (fun w' h1 h2 => sdigits_any x x0 x1 w' h1 h2)
  have DN := Lib.hid (fun w' h1 h2 => sdigits_any (fneg x) n0 n1 w' h1 h2)
  have TX := Lib.hid (fun w' h1 h2 => stext_any x x0 x1 w' h1 h2)
  have TY := Lib.hid (fun w' h1 h2 => stext_any y y0 y1 w' h1 h2)
  have TN := Lib.hid (fun w' h1 h2 => stext_any (fneg x) n0 n1 w' h1 h2)
  have LV := Lib.hid (fun w' h1 h2 => shortLives_any w' h1 h2)
  rw [(so_sd x).1, (so_sd x).2.1, (so_sd x).2.2] at DN
  unfold RetSIE at DG DN
  obtain ⟨S, hS⟩ : ∃ T : ByteArray, T = ⟨(stT x).toArray⟩ := ⟨_, rfl⟩
  obtain ⟨T2, hT2⟩ : ∃ T : ByteArray, T = ⟨(stT y).toArray⟩ := ⟨_, rfl⟩
  obtain ⟨N2, hN2⟩ : ∃ T : ByteArray, T = ⟨(stT (fneg x)).toArray⟩ := ⟨_, rfl⟩
  have zS : S.size ≤ 100000 := by
    have : S.size = (stT x).length := by rw [hS]; rfl
    have := so_len x x0 x1
    omega
  have zN : N2.size ≤ 100000 := by
    have : N2.size = (stT (fneg x)).length := by rw [hN2]; rfl
    have := so_len _ n0 n1
    omega
  rw [← hT2] at TY
  rw [← hN2] at TN
  by_cases hc : fcls x = 5
  · rw [hc] at CX
    rw [show stT x = [110, 97, 110] by unfold stT; rw [if_pos hc]] at TX
    exact so_nan x y (fneg x) _ S T2 N2 _ _ _ w hT hT10 CX CY NG DG DN TX TY TN LV
  · rw [← hS] at TX
    have b5 : (fcls x == 5) = false := by rw [beq_eq_false_iff_ne]; exact hc
    have b5' : (fcls x != 5) = true := by rw [bne_iff_ne]; exact hc
    by_cases hd : fcls y = 5
    · rw [hd] at CY
      exact so_ynan x y (fneg x) S T2 N2 _ _ _ zS zN _ b5 b5' w hT hT10 CX CY NG DG DN TX TY TN LV
    · have d5 : (fcls y == 5) = false := by rw [beq_eq_false_iff_ne]; exact hd
      have hq := so_beq hS hT2 (so_unlike x0 x1 y0 y1 hc hd)
      obtain ⟨t1, t2⟩ := so_text x0 x1 hc
      by_cases hs : 9223372036854775808 ≤ x
      · have h : (S.toList == (⟨#[45]⟩ ++ N2).toList) = true := by rw [so_app hS hN2 (t1 hs)]; simp
        cases q : (x == y)
        · rw [q] at hq
          exact so_a_false x y (fneg x) S T2 N2 _ _ _ zS zN _ _ b5 b5' d5 hq q h w hT hT10 CX CY NG DG DN TX TY TN LV
        · rw [q] at hq
          exact so_a_true x y (fneg x) S T2 N2 _ _ _ zS zN _ _ b5 b5' d5 hq q h w hT hT10 CX CY NG DG DN TX TY TN LV
      · have h : (N2.toList == (⟨#[45]⟩ ++ S).toList) = true := by rw [so_app hN2 hS (t2 hs)]; simp
        cases q : (x == y)
        · rw [q] at hq
          exact so_b_false x y (fneg x) S T2 N2 _ _ _ zS zN _ _ b5 b5' d5 hq q h w hT hT10 CX CY NG DG DN TX TY TN LV
        · rw [q] at hq
          exact so_b_true x y (fneg x) S T2 N2 _ _ _ zS zN _ _ b5 b5' d5 hq q h w hT hT10 CX CY NG DG DN TX TY TN LV
end Go.Proofs.YthlocmhfjandlaaGreatDoor
