/-
  THE WALKS of wanted.short, sign, general, value.
-/
import Derived.Test.YtofdjfdnckmmmaaGreatDoorWfd
import Derived.BigQuiet
import Derived.Deep.QuietTactic
set_option linter.unusedVariables false
set_option linter.unusedSimpArgs false
namespace Go.Proofs.YtofdjfdnckmmmaaGreatDoor
open Go.RowKit Nt Fm Fl

theorem w_left {s : List UInt8} {S : ByteArray} (hS : S = ⟨s.toArray⟩) (c : UInt8) : S.extract 0 (wA c s).length = ⟨(wA c s).toArray⟩ := by
  subst hS
  have h := wAB c s
  generalize wA c s = a at *
  generalize wB c s = b at *
  rw [← h]
  exact ba_left a b _ rfl
theorem w_right {s : List UInt8} {S : ByteArray} (hS : S = ⟨s.toArray⟩) (c : UInt8) : S.extract (wA c s).length s.length = ⟨(wB c s).toArray⟩ := by
  subst hS
  have h := wAB c s
  generalize wA c s = a at *
  generalize wB c s = b at *
  rw [← h]
  exact ba_right a b _ _ rfl rfl
theorem w_le (c : UInt8) (s : List UInt8) : (wA c s).length ≤ s.length := by
  have := congrArg List.length (wAB c s)
  rw [List.length_append] at this
  omega
set_option maxRecDepth 100000 in
set_option maxHeartbeats 4000000 in
theorem wshort_00 (S M U V : ByteArray) (k n : Nat) (hk : k = n) (zn : n ≤ 10000) (zS : S.size = n) (w : World)
    (HM : Hid (S.extract 0 k = M ∧ True)) (zM : M.size = k) (zV : V.size ≤ 10000)
    (IX : Hid (∀ w' : World, Calls Tryz.prog 47 #[.string S, .int .u8 101] w' fun e w2 => e = .returned (.int .i64 (-1)) ∧ w2 = w'))
    (CT : Hid (∀ w' : World, Calls Tryz.prog 53 #[.string (S.extract 0 k), .string ⟨#[46]⟩] w' fun e w2 => e = .returned (.bool false) ∧ w2 = w'))
    (TR : Hid (∀ w' : World, Calls Tryz.prog 131 #[.string (S.extract 0 k), .string ⟨#[48]⟩] w' fun e w2 => e = .returned (.string U) ∧ w2 = w'))
    (TS : Hid (∀ w' : World, Calls Tryz.prog 130 #[.string U, .string ⟨#[46]⟩] w' fun e w2 => e = .returned (.string V) ∧ w2 = w')) :
    Calls Tryz.prog 86 #[.string S] w fun e w' => e = .returned (.string (S.extract 0 k)) ∧ Below w.heap.size w w' := by
  subst hk
  have HM2 : (S.extract 0 k).size = k := by rw [HM.out.1]; exact zM
  have HR2 : (S.extract k k).size ≤ 10000 := by rw [ByteArray.size_extract]; omega
  go_enter Tryz.func86, Tryz.ntmps86
  go_wp2_with (first
    | (go_at_call 47; refine (IX.out _).mono ?_; rintro e w1 ⟨rfl, rfl⟩)
    | (go_at_call 53; refine (CT.out _).mono ?_; rintro e w1 ⟨rfl, rfl⟩)
    | (go_at_call 131; refine (TR.out _).mono ?_; rintro e w1 ⟨rfl, rfl⟩)
    | (go_at_call 130; refine (TS.out _).mono ?_; rintro e w1 ⟨rfl, rfl⟩))
  all_goals first
    | (go_ret; exact ⟨rfl, Below.refl _ _⟩; done)
    | (go_ret; exact ⟨rfl, by go_grown⟩; done)
    | trace_state
set_option maxRecDepth 100000 in
set_option maxHeartbeats 4000000 in
theorem wshort_01 (S M U V : ByteArray) (k n : Nat) (hk : k = n) (zn : n ≤ 10000) (zS : S.size = n) (w : World)
    (HM : Hid (S.extract 0 k = M ∧ True)) (zM : M.size = k) (zV : V.size ≤ 10000)
    (IX : Hid (∀ w' : World, Calls Tryz.prog 47 #[.string S, .int .u8 101] w' fun e w2 => e = .returned (.int .i64 (-1)) ∧ w2 = w'))
    (CT : Hid (∀ w' : World, Calls Tryz.prog 53 #[.string (S.extract 0 k), .string ⟨#[46]⟩] w' fun e w2 => e = .returned (.bool true) ∧ w2 = w'))
    (TR : Hid (∀ w' : World, Calls Tryz.prog 131 #[.string (S.extract 0 k), .string ⟨#[48]⟩] w' fun e w2 => e = .returned (.string U) ∧ w2 = w'))
    (TS : Hid (∀ w' : World, Calls Tryz.prog 130 #[.string U, .string ⟨#[46]⟩] w' fun e w2 => e = .returned (.string V) ∧ w2 = w')) :
    Calls Tryz.prog 86 #[.string S] w fun e w' => e = .returned (.string (V)) ∧ Below w.heap.size w w' := by
  subst hk
  have HM2 : (S.extract 0 k).size = k := by rw [HM.out.1]; exact zM
  have HR2 : (S.extract k k).size ≤ 10000 := by rw [ByteArray.size_extract]; omega
  go_enter Tryz.func86, Tryz.ntmps86
  go_wp2_with (first
    | (go_at_call 47; refine (IX.out _).mono ?_; rintro e w1 ⟨rfl, rfl⟩)
    | (go_at_call 53; refine (CT.out _).mono ?_; rintro e w1 ⟨rfl, rfl⟩)
    | (go_at_call 131; refine (TR.out _).mono ?_; rintro e w1 ⟨rfl, rfl⟩)
    | (go_at_call 130; refine (TS.out _).mono ?_; rintro e w1 ⟨rfl, rfl⟩))
  all_goals first
    | (go_ret; exact ⟨rfl, Below.refl _ _⟩; done)
    | (go_ret; exact ⟨rfl, by go_grown⟩; done)
    | trace_state
set_option maxRecDepth 100000 in
set_option maxHeartbeats 4000000 in
theorem wshort_10 (S M U V : ByteArray) (k n : Nat) (hk : k < n) (zn : n ≤ 10000) (zS : S.size = n) (w : World)
    (HM : Hid (S.extract 0 k = M ∧ True)) (zM : M.size = k) (zV : V.size ≤ 10000)
    (IX : Hid (∀ w' : World, Calls Tryz.prog 47 #[.string S, .int .u8 101] w' fun e w2 => e = .returned (.int .i64 ((k : Nat) : Int)) ∧ w2 = w'))
    (CT : Hid (∀ w' : World, Calls Tryz.prog 53 #[.string (S.extract 0 k), .string ⟨#[46]⟩] w' fun e w2 => e = .returned (.bool false) ∧ w2 = w'))
    (TR : Hid (∀ w' : World, Calls Tryz.prog 131 #[.string (S.extract 0 k), .string ⟨#[48]⟩] w' fun e w2 => e = .returned (.string U) ∧ w2 = w'))
    (TS : Hid (∀ w' : World, Calls Tryz.prog 130 #[.string U, .string ⟨#[46]⟩] w' fun e w2 => e = .returned (.string V) ∧ w2 = w')) :
    Calls Tryz.prog 86 #[.string S] w fun e w' => e = .returned (.string (S.extract 0 (max k n))) ∧ Below w.heap.size w w' := by
  skip
  have HM2 : (S.extract 0 k).size = k := by rw [HM.out.1]; exact zM
  have HR2 : (S.extract k n).size ≤ 10000 := by rw [ByteArray.size_extract]; omega
  go_enter Tryz.func86, Tryz.ntmps86
  go_wp2_with (first
    | (go_at_call 47; refine (IX.out _).mono ?_; rintro e w1 ⟨rfl, rfl⟩)
    | (go_at_call 53; refine (CT.out _).mono ?_; rintro e w1 ⟨rfl, rfl⟩)
    | (go_at_call 131; refine (TR.out _).mono ?_; rintro e w1 ⟨rfl, rfl⟩)
    | (go_at_call 130; refine (TS.out _).mono ?_; rintro e w1 ⟨rfl, rfl⟩))
  all_goals first
    | (go_ret; exact ⟨rfl, Below.refl _ _⟩; done)
    | (go_ret; exact ⟨rfl, by go_grown⟩; done)
    | trace_state
set_option maxRecDepth 100000 in
set_option maxHeartbeats 4000000 in
theorem wshort_11 (S M U V : ByteArray) (k n : Nat) (hk : k < n) (zn : n ≤ 10000) (zS : S.size = n) (w : World)
    (HM : Hid (S.extract 0 k = M ∧ True)) (zM : M.size = k) (zV : V.size ≤ 10000)
    (IX : Hid (∀ w' : World, Calls Tryz.prog 47 #[.string S, .int .u8 101] w' fun e w2 => e = .returned (.int .i64 ((k : Nat) : Int)) ∧ w2 = w'))
    (CT : Hid (∀ w' : World, Calls Tryz.prog 53 #[.string (S.extract 0 k), .string ⟨#[46]⟩] w' fun e w2 => e = .returned (.bool true) ∧ w2 = w'))
    (TR : Hid (∀ w' : World, Calls Tryz.prog 131 #[.string (S.extract 0 k), .string ⟨#[48]⟩] w' fun e w2 => e = .returned (.string U) ∧ w2 = w'))
    (TS : Hid (∀ w' : World, Calls Tryz.prog 130 #[.string U, .string ⟨#[46]⟩] w' fun e w2 => e = .returned (.string V) ∧ w2 = w')) :
    Calls Tryz.prog 86 #[.string S] w fun e w' => e = .returned (.string (V ++ S.extract k n)) ∧ Below w.heap.size w w' := by
  skip
  have HM2 : (S.extract 0 k).size = k := by rw [HM.out.1]; exact zM
  have HR2 : (S.extract k n).size ≤ 10000 := by rw [ByteArray.size_extract]; omega
  go_enter Tryz.func86, Tryz.ntmps86
  go_wp2_with (first
    | (go_at_call 47; refine (IX.out _).mono ?_; rintro e w1 ⟨rfl, rfl⟩)
    | (go_at_call 53; refine (CT.out _).mono ?_; rintro e w1 ⟨rfl, rfl⟩)
    | (go_at_call 131; refine (TR.out _).mono ?_; rintro e w1 ⟨rfl, rfl⟩)
    | (go_at_call 130; refine (TS.out _).mono ?_; rintro e w1 ⟨rfl, rfl⟩))
  all_goals first
    | (go_ret; exact ⟨rfl, Below.refl _ _⟩; done)
    | (go_ret; exact ⟨rfl, by go_grown⟩; done)
    | trace_state
theorem wshort_any (s : List UInt8) (S : ByteArray) (hS : S = ⟨s.toArray⟩) (hl : s.length ≤ 10000) (w : World) :
    Calls Tryz.prog 86 #[.string S] w fun e w' => e = .returned (.string ⟨(wCut s).toArray⟩) ∧ Below w.heap.size w w' := by
  have zS : S.size = s.length := by rw [hS]; rfl
  have el := w_left hS 101
  have er := w_right hS 101
  have hle := w_le 101 s
  have hds : S.data.toList = s := by rw [hS]
  have IX := Lib.hid (fun w' => indexByteS_any S 101 w')
  rw [hds, show Int.toNat 101 = 101 from rfl, show Nat.toUInt8 101 = 101 from rfl] at IX
  have CT := Lib.hid (fun w' => contains_any (S.extract 0 (wA 101 s).length) 46 w')
  rw [w_has] at CT
  have hM : (S.extract 0 (wA 101 s).length).data.toList = wA 101 s := by rw [el]
  rw [hM] at CT
  have zM : (⟨(wA 101 s).toArray⟩ : ByteArray).size = (wA 101 s).length := rfl
  have TR := Lib.hid (fun w' => trimRightW_any (S.extract 0 (wA 101 s).length) (by rw [el, zM]; omega) w')
  rw [hM] at TR
  have hU : (Lib.trimRightB (wA 101 s) 48).length ≤ (wA 101 s).length := by
    unfold Lib.trimRightB
    rw [List.length_reverse]
    have := (List.dropWhile_sublist (· == 48) (l := (wA 101 s).reverse)).length_le
    rw [List.length_reverse] at this
    exact this
  have TS := Lib.hid (fun w' => trimSuffix_any ⟨(Lib.trimRightB (wA 101 s) 48).toArray⟩ ⟨#[46]⟩ w' (by show (Lib.trimRightB (wA 101 s) 48).toArray.size ≤ _; simp; omega))
  have hV := wCutM_len (wA 101 s)
  have fin0 : ∀ A : List UInt8, wB 101 s = [] → A = wCutM (wA 101 s) → (⟨A.toArray⟩ : ByteArray) = ⟨(wCut s).toArray⟩ := by
    rintro A h rfl
    unfold wCut
    rw [h, List.append_nil]
  have fin : ∀ A : List UInt8, A = wCutM (wA 101 s) → (⟨A.toArray⟩ : ByteArray) ++ S.extract (wA 101 s).length s.length = ⟨(wCut s).toArray⟩ := by
    rintro A rfl
    rw [er]
    unfold wCut
    exact ba_app _ _ rfl rfl
  by_cases hd : (46 : UInt8) ∈ wA 101 s
  · rw [decide_eq_true hd] at CT
    have hc : wCutM (wA 101 s) = Lib.trimSuffix (Lib.trimRightB (wA 101 s) 48) [46] := by unfold wCutM; rw [if_pos hd]
    rw [hc] at hV
    have zV : (⟨(Lib.trimSuffix (Lib.trimRightB (wA 101 s) 48) [46]).toArray⟩ : ByteArray).size ≤ 10000 := by
      show (Lib.trimSuffix (Lib.trimRightB (wA 101 s) 48) [46]).toArray.size ≤ _
      simp; omega
    rcases w_index 101 s with ⟨g1, g2, g3⟩ | ⟨g1, g2, g3⟩
    · rw [g3] at IX
      have := wshort_01 S _ _ _ (wA 101 s).length s.length (by rw [g2]) hl zS w (Lib.hid ⟨el, trivial⟩) zM zV IX CT TR TS
      rw [fin0 _ g1 hc.symm] at this
      exact this
    · rw [g3] at IX
      have := wshort_11 S _ _ _ (wA 101 s).length s.length g2 hl zS w (Lib.hid ⟨el, trivial⟩) zM zV IX CT TR TS
      rw [fin _ hc.symm] at this
      exact this
  · rw [decide_eq_false hd] at CT
    have hc : wCutM (wA 101 s) = wA 101 s := by unfold wCutM; rw [if_neg hd]
    have zV : (⟨(Lib.trimSuffix (Lib.trimRightB (wA 101 s) 48) [46]).toArray⟩ : ByteArray).size ≤ 10000 := by
      show (Lib.trimSuffix (Lib.trimRightB (wA 101 s) 48) [46]).toArray.size ≤ _
      unfold Lib.trimSuffix
      split
      · rw [List.size_toArray, List.length_take]; omega
      · rw [List.size_toArray]; omega
    rcases w_index 101 s with ⟨g1, g2, g3⟩ | ⟨g1, g2, g3⟩
    · rw [g3] at IX
      have := wshort_00 S _ _ _ (wA 101 s).length s.length (by rw [g2]) hl zS w (Lib.hid ⟨el, trivial⟩) zM zV IX CT TR TS
      rw [el, fin0 _ g1 hc.symm] at this
      exact this
    · rw [g3] at IX
      have := wshort_10 S _ _ _ (wA 101 s).length s.length g2 hl zS w (Lib.hid ⟨el, trivial⟩) zM zV IX CT TR TS
      have e2 : S.extract 0 (max (wA 101 s).length s.length) = ⟨(wCut s).toArray⟩ := by
        rw [Nat.max_eq_right hle, ← zS, ByteArray.extract_zero_size, hS]
        unfold wCut
        rw [hc, wAB]
      rw [e2] at this
      exact this
set_option maxRecDepth 100000 in
set_option maxHeartbeats 4000000 in
theorem wsign_any (v : Int) (mi pl bl ze al : Bool) (wd pr : Int) (x : Int) (x0 : 0 ≤ x) (x1 : x ≤ 18446744073709551615) (w : World) :
    Calls Tryz.prog 23 #[.agg #[.int .i64 v, .bool mi, .bool pl, .bool bl, .bool ze, .bool al, .int .i64 wd, .int .i64 pr], .int .u64 x] w fun e w' => e = .returned (.string ⟨(wHead ⟨v, mi, pl, bl, ze, al, wd, pr⟩ x).toArray⟩) ∧ Below w.heap.size w w' := by
  have CL := Lib.hid (fun w' => class_any x x0 x1 w')
  have hcase : ((x / 9223372036854775808 == 1) = true ∧ (((fcls x != 5) = true ∧ wHead ⟨v, mi, pl, bl, ze, al, wd, pr⟩ x = [45]) ∨ ((fcls x != 5) = false ∧ wHead ⟨v, mi, pl, bl, ze, al, wd, pr⟩ x = if pl = true then [43] else if bl = true then [32] else []))) ∨
      ((x / 9223372036854775808 == 1) = false ∧ wHead ⟨v, mi, pl, bl, ze, al, wd, pr⟩ x = if pl = true then [43] else if bl = true then [32] else []) := by
    unfold wHead
    by_cases h : 9223372036854775808 ≤ x
    · left
      refine ⟨by rw [beq_iff_eq]; omega, ?_⟩
      by_cases h5 : fcls x = 5
      · right; simp [h5]
      · left; simp [h, h5]
    · right
      refine ⟨by rw [beq_eq_false_iff_ne]; omega, ?_⟩
      simp [h]
  generalize wHead ⟨v, mi, pl, bl, ze, al, wd, pr⟩ x = H at *
  generalize fcls x = c at *
  rcases hcase with ⟨k1, ⟨k2, rfl⟩ | ⟨k2, rfl⟩⟩ | ⟨k1, rfl⟩ <;> cases pl <;> cases bl
  all_goals
    go_enter Tryz.func23, Tryz.ntmps23
    go_wp2_with (go_at_call 8; refine (CL.out _).mono ?_; rintro e w1 ⟨rfl, rfl⟩)
    all_goals first
      | (go_ret; exact ⟨rfl, by go_grown⟩; done)
      | (exfalso; simp_all; done)
      | trace_state
set_option maxRecDepth 100000 in
set_option maxHeartbeats 4000000 in
theorem wgen_00 (v : Int) (mi pl bl ze : Bool) (wd pr : Int) (x : Int) (q : Int) (g : Nat) (hq : max q 1 = (g : Int)) (g0 : 1 ≤ g) (g1 : g ≤ 200) (q1 : q ≤ 200) (q0 : 0 ≤ q) (k : Int) (k0 : -1000 ≤ k) (k1 : k ≤ 1000) (hk : Hid (¬ (-4 ≤ k ∧ k < (g : Int)) ∧ True)) (S R D : ByteArray) (c1 c2 : Bool) (e1 : Int) (w : World) (hT : Tab w) (hT10 : Tab10 w)
    (VL : Hid (∀ w' : World, Tab w' → Calls Tryz.prog 79 #[.int .u64 x] w' fun e w2 => ∃ vd, e = .returned vd ∧ Hid (DV w2 vd (valD x)) ∧ Below w'.heap.size w' w2))
    (DG : Hid (∀ vd (w' : World), DV w' vd (valD x) → Tab10 w' → Calls Tryz.prog 84 #[vd, .int .i64 (g : Int), .int .i64 0] w' fun e w2 => e = .returned (.tuple #[.string D, .int .i64 k, .bool c1]) ∧ Below w'.heap.size w' w2))
    (BD : Hid (∀ w' : World, Tab w' → Tab10 w' → Calls Tryz.prog 49 #[.int .u64 x, .int .i64 (g : Int), .int .i64 0] w' fun e w2 => e = .returned (.tuple #[.string S, .bool c2, .int .i64 e1]) ∧ Below w'.heap.size w' w2))
    (SH : Hid (∀ w' : World, Calls Tryz.prog 86 #[.string S] w' fun e w2 => e = .returned (.string R) ∧ Below w'.heap.size w' w2)) :
    Calls Tryz.prog 50 #[.agg #[.int .i64 v, .bool mi, .bool pl, .bool bl, .bool ze, .bool false, .int .i64 wd, .int .i64 pr], .int .u64 x, .int .i64 q] w fun e w' => e = .returned (.string R) ∧ Below w.heap.size w w' := by
  have HT := Lib.hid hT
  have H10 := Lib.hid hT10
  skip
  clear hT hT10
  go_enter Tryz.func50, Tryz.ntmps50
  go_wp2_with fail
  refine (VL.out _ (HT.out.alloc _)).mono ?_
  rintro e w1 ⟨vd, rfl, hv, hb⟩
  have X := Lib.hid ((Bx8.new w _ _ _ _ _ _ _ _ _).below hb)
  have B : Hid (Below w.heap.size w w1) := Lib.hid (bl_thru ((Below.refl w.heap.size w).alloc (Nat.le_refl _) _) (Nat.le_refl _) hb)
  replace HT := Lib.hid (HT.out.below B.out)
  replace H10 := Lib.hid (H10.out.below B.out)
  clear hb
  go_wp2_with fail
  refine (DG.out _ _ hv.out H10.out).mono ?_
  rintro e w2 ⟨rfl, hb⟩
  replace X := Lib.hid (X.out.below hb)
  replace B := Lib.hid (bl_thru B.out (Nat.le_refl _) hb)
  replace HT := Lib.hid (HT.out.below hb); replace H10 := Lib.hid (H10.out.below hb)
  clear hb hv
  go_wp2_with (first
    | (go_at_call 49; refine (BD.out _ HT.out H10.out).mono ?_; rintro e w3 ⟨rfl, hb⟩; replace X := Lib.hid (X.out.below hb); replace B := Lib.hid (bl_thru B.out (Nat.le_refl _) hb); clear hb; obtain ⟨z0, z1, z2, z3, z4, z5, z6, z7⟩ := X.out.cells; clear z0 z1 z2 z3 z4 z6 z7)
    | (go_at_call 86; refine (SH.out _).mono ?_; rintro e w4 ⟨rfl, hb⟩; replace B := Lib.hid (bl_thru B.out (Nat.le_refl _) hb); clear hb))
  all_goals first
    | (go_ret; exact ⟨rfl, B.out⟩; done)
    | (exfalso; omega)
    | (exfalso; exact hk.out.1 ⟨by omega, by omega⟩; done)
    | trace_state
set_option maxRecDepth 100000 in
set_option maxHeartbeats 4000000 in
theorem wgen_01 (v : Int) (mi pl bl ze : Bool) (wd pr : Int) (x : Int) (q : Int) (g : Nat) (hq : max q 1 = (g : Int)) (g0 : 1 ≤ g) (g1 : g ≤ 200) (q1 : q ≤ 200) (q0 : 0 ≤ q) (k : Int) (k0 : -1000 ≤ k) (k1 : k ≤ 1000) (hk : Hid (¬ (-4 ≤ k ∧ k < (g : Int)) ∧ True)) (S R D : ByteArray) (c1 c2 : Bool) (e1 : Int) (w : World) (hT : Tab w) (hT10 : Tab10 w)
    (VL : Hid (∀ w' : World, Tab w' → Calls Tryz.prog 79 #[.int .u64 x] w' fun e w2 => ∃ vd, e = .returned vd ∧ Hid (DV w2 vd (valD x)) ∧ Below w'.heap.size w' w2))
    (DG : Hid (∀ vd (w' : World), DV w' vd (valD x) → Tab10 w' → Calls Tryz.prog 84 #[vd, .int .i64 (g : Int), .int .i64 0] w' fun e w2 => e = .returned (.tuple #[.string D, .int .i64 k, .bool c1]) ∧ Below w'.heap.size w' w2))
    (BD : Hid (∀ w' : World, Tab w' → Tab10 w' → Calls Tryz.prog 49 #[.int .u64 x, .int .i64 (g : Int), .int .i64 0] w' fun e w2 => e = .returned (.tuple #[.string S, .bool c2, .int .i64 e1]) ∧ Below w'.heap.size w' w2))
    (SH : Hid (∀ w' : World, Calls Tryz.prog 86 #[.string S] w' fun e w2 => e = .returned (.string R) ∧ Below w'.heap.size w' w2)) :
    Calls Tryz.prog 50 #[.agg #[.int .i64 v, .bool mi, .bool pl, .bool bl, .bool ze, .bool true, .int .i64 wd, .int .i64 pr], .int .u64 x, .int .i64 q] w fun e w' => e = .returned (.string S) ∧ Below w.heap.size w w' := by
  have HT := Lib.hid hT
  have H10 := Lib.hid hT10
  skip
  clear hT hT10
  go_enter Tryz.func50, Tryz.ntmps50
  go_wp2_with fail
  refine (VL.out _ (HT.out.alloc _)).mono ?_
  rintro e w1 ⟨vd, rfl, hv, hb⟩
  have X := Lib.hid ((Bx8.new w _ _ _ _ _ _ _ _ _).below hb)
  have B : Hid (Below w.heap.size w w1) := Lib.hid (bl_thru ((Below.refl w.heap.size w).alloc (Nat.le_refl _) _) (Nat.le_refl _) hb)
  replace HT := Lib.hid (HT.out.below B.out)
  replace H10 := Lib.hid (H10.out.below B.out)
  clear hb
  go_wp2_with fail
  refine (DG.out _ _ hv.out H10.out).mono ?_
  rintro e w2 ⟨rfl, hb⟩
  replace X := Lib.hid (X.out.below hb)
  replace B := Lib.hid (bl_thru B.out (Nat.le_refl _) hb)
  replace HT := Lib.hid (HT.out.below hb); replace H10 := Lib.hid (H10.out.below hb)
  clear hb hv
  go_wp2_with (first
    | (go_at_call 49; refine (BD.out _ HT.out H10.out).mono ?_; rintro e w3 ⟨rfl, hb⟩; replace X := Lib.hid (X.out.below hb); replace B := Lib.hid (bl_thru B.out (Nat.le_refl _) hb); clear hb; obtain ⟨z0, z1, z2, z3, z4, z5, z6, z7⟩ := X.out.cells; clear z0 z1 z2 z3 z4 z6 z7)
    | (go_at_call 86; refine (SH.out _).mono ?_; rintro e w4 ⟨rfl, hb⟩; replace B := Lib.hid (bl_thru B.out (Nat.le_refl _) hb); clear hb))
  all_goals first
    | (go_ret; exact ⟨rfl, B.out⟩; done)
    | (exfalso; omega)
    | (exfalso; exact hk.out.1 ⟨by omega, by omega⟩; done)
    | trace_state
set_option maxRecDepth 100000 in
set_option maxHeartbeats 4000000 in
theorem wgen_10 (v : Int) (mi pl bl ze : Bool) (wd pr : Int) (x : Int) (q : Int) (g : Nat) (hq : max q 1 = (g : Int)) (g0 : 1 ≤ g) (g1 : g ≤ 200) (q1 : q ≤ 200) (q0 : 0 ≤ q) (k : Int) (k0 : -1000 ≤ k) (k1 : k ≤ 1000) (hk : Hid ((-4 ≤ k ∧ k < (g : Int)) ∧ True)) (S R D : ByteArray) (c1 c2 : Bool) (e1 : Int) (w : World) (hT : Tab w) (hT10 : Tab10 w)
    (VL : Hid (∀ w' : World, Tab w' → Calls Tryz.prog 79 #[.int .u64 x] w' fun e w2 => ∃ vd, e = .returned vd ∧ Hid (DV w2 vd (valD x)) ∧ Below w'.heap.size w' w2))
    (DG : Hid (∀ vd (w' : World), DV w' vd (valD x) → Tab10 w' → Calls Tryz.prog 84 #[vd, .int .i64 (g : Int), .int .i64 0] w' fun e w2 => e = .returned (.tuple #[.string D, .int .i64 k, .bool c1]) ∧ Below w'.heap.size w' w2))
    (BD : Hid (∀ w' : World, Tab w' → Tab10 w' → Calls Tryz.prog 48 #[.int .u64 x, .int .i64 ((g : Int) - 1 - k), .int .i64 0] w' fun e w2 => e = .returned (.tuple #[.string S, .bool c2, .int .i64 e1]) ∧ Below w'.heap.size w' w2))
    (SH : Hid (∀ w' : World, Calls Tryz.prog 86 #[.string S] w' fun e w2 => e = .returned (.string R) ∧ Below w'.heap.size w' w2)) :
    Calls Tryz.prog 50 #[.agg #[.int .i64 v, .bool mi, .bool pl, .bool bl, .bool ze, .bool false, .int .i64 wd, .int .i64 pr], .int .u64 x, .int .i64 q] w fun e w' => e = .returned (.string R) ∧ Below w.heap.size w w' := by
  have HT := Lib.hid hT
  have H10 := Lib.hid hT10
  obtain ⟨hk0, hk1⟩ := hk.out.1
  clear hT hT10
  go_enter Tryz.func50, Tryz.ntmps50
  go_wp2_with fail
  refine (VL.out _ (HT.out.alloc _)).mono ?_
  rintro e w1 ⟨vd, rfl, hv, hb⟩
  have X := Lib.hid ((Bx8.new w _ _ _ _ _ _ _ _ _).below hb)
  have B : Hid (Below w.heap.size w w1) := Lib.hid (bl_thru ((Below.refl w.heap.size w).alloc (Nat.le_refl _) _) (Nat.le_refl _) hb)
  replace HT := Lib.hid (HT.out.below B.out)
  replace H10 := Lib.hid (H10.out.below B.out)
  clear hb
  go_wp2_with fail
  refine (DG.out _ _ hv.out H10.out).mono ?_
  rintro e w2 ⟨rfl, hb⟩
  replace X := Lib.hid (X.out.below hb)
  replace B := Lib.hid (bl_thru B.out (Nat.le_refl _) hb)
  replace HT := Lib.hid (HT.out.below hb); replace H10 := Lib.hid (H10.out.below hb)
  clear hb hv
  go_wp2_with (first
    | (go_at_call 48; refine (BD.out _ HT.out H10.out).mono ?_; rintro e w3 ⟨rfl, hb⟩; replace X := Lib.hid (X.out.below hb); replace B := Lib.hid (bl_thru B.out (Nat.le_refl _) hb); clear hb; obtain ⟨z0, z1, z2, z3, z4, z5, z6, z7⟩ := X.out.cells; clear z0 z1 z2 z3 z4 z6 z7)
    | (go_at_call 86; refine (SH.out _).mono ?_; rintro e w4 ⟨rfl, hb⟩; replace B := Lib.hid (bl_thru B.out (Nat.le_refl _) hb); clear hb))
  all_goals first
    | (go_ret; exact ⟨rfl, B.out⟩; done)
    | (exfalso; omega)
    | (exfalso; simp_all; done)
    | trace_state
set_option maxRecDepth 100000 in
set_option maxHeartbeats 4000000 in
theorem wgen_11 (v : Int) (mi pl bl ze : Bool) (wd pr : Int) (x : Int) (q : Int) (g : Nat) (hq : max q 1 = (g : Int)) (g0 : 1 ≤ g) (g1 : g ≤ 200) (q1 : q ≤ 200) (q0 : 0 ≤ q) (k : Int) (k0 : -1000 ≤ k) (k1 : k ≤ 1000) (hk : Hid ((-4 ≤ k ∧ k < (g : Int)) ∧ True)) (S R D : ByteArray) (c1 c2 : Bool) (e1 : Int) (w : World) (hT : Tab w) (hT10 : Tab10 w)
    (VL : Hid (∀ w' : World, Tab w' → Calls Tryz.prog 79 #[.int .u64 x] w' fun e w2 => ∃ vd, e = .returned vd ∧ Hid (DV w2 vd (valD x)) ∧ Below w'.heap.size w' w2))
    (DG : Hid (∀ vd (w' : World), DV w' vd (valD x) → Tab10 w' → Calls Tryz.prog 84 #[vd, .int .i64 (g : Int), .int .i64 0] w' fun e w2 => e = .returned (.tuple #[.string D, .int .i64 k, .bool c1]) ∧ Below w'.heap.size w' w2))
    (BD : Hid (∀ w' : World, Tab w' → Tab10 w' → Calls Tryz.prog 48 #[.int .u64 x, .int .i64 ((g : Int) - 1 - k), .int .i64 0] w' fun e w2 => e = .returned (.tuple #[.string S, .bool c2, .int .i64 e1]) ∧ Below w'.heap.size w' w2))
    (SH : Hid (∀ w' : World, Calls Tryz.prog 86 #[.string S] w' fun e w2 => e = .returned (.string R) ∧ Below w'.heap.size w' w2)) :
    Calls Tryz.prog 50 #[.agg #[.int .i64 v, .bool mi, .bool pl, .bool bl, .bool ze, .bool true, .int .i64 wd, .int .i64 pr], .int .u64 x, .int .i64 q] w fun e w' => e = .returned (.string S) ∧ Below w.heap.size w w' := by
  have HT := Lib.hid hT
  have H10 := Lib.hid hT10
  obtain ⟨hk0, hk1⟩ := hk.out.1
  clear hT hT10
  go_enter Tryz.func50, Tryz.ntmps50
  go_wp2_with fail
  refine (VL.out _ (HT.out.alloc _)).mono ?_
  rintro e w1 ⟨vd, rfl, hv, hb⟩
  have X := Lib.hid ((Bx8.new w _ _ _ _ _ _ _ _ _).below hb)
  have B : Hid (Below w.heap.size w w1) := Lib.hid (bl_thru ((Below.refl w.heap.size w).alloc (Nat.le_refl _) _) (Nat.le_refl _) hb)
  replace HT := Lib.hid (HT.out.below B.out)
  replace H10 := Lib.hid (H10.out.below B.out)
  clear hb
  go_wp2_with fail
  refine (DG.out _ _ hv.out H10.out).mono ?_
  rintro e w2 ⟨rfl, hb⟩
  replace X := Lib.hid (X.out.below hb)
  replace B := Lib.hid (bl_thru B.out (Nat.le_refl _) hb)
  replace HT := Lib.hid (HT.out.below hb); replace H10 := Lib.hid (H10.out.below hb)
  clear hb hv
  go_wp2_with (first
    | (go_at_call 48; refine (BD.out _ HT.out H10.out).mono ?_; rintro e w3 ⟨rfl, hb⟩; replace X := Lib.hid (X.out.below hb); replace B := Lib.hid (bl_thru B.out (Nat.le_refl _) hb); clear hb; obtain ⟨z0, z1, z2, z3, z4, z5, z6, z7⟩ := X.out.cells; clear z0 z1 z2 z3 z4 z6 z7)
    | (go_at_call 86; refine (SH.out _).mono ?_; rintro e w4 ⟨rfl, hb⟩; replace B := Lib.hid (bl_thru B.out (Nat.le_refl _) hb); clear hb))
  all_goals first
    | (go_ret; exact ⟨rfl, B.out⟩; done)
    | (exfalso; omega)
    | (exfalso; simp_all; done)
    | trace_state
end Go.Proofs.YtofdjfdnckmmmaaGreatDoor
