/-
  THE WALK of wanted.Format, a theorem a way.
-/
import Derived.Test.YtofdjfdnckmmmaaGreatDoorWfk
set_option linter.unusedVariables false
set_option linter.unusedSimpArgs false
namespace Go.Proofs.YtofdjfdnckmmmaaGreatDoor
open Go.Shelf Go.RowKit Go.Lib Nt Fm Fl

set_option maxRecDepth 100000 in
set_option maxHeartbeats 8000000 in
theorem wf_err (v : Int) (mi pl bl ze al : Bool) (wd pr : Int) (x : Int) (w : World)
    (hb : Hid (True ∧ ((v ≠ 101 ∧ v ≠ 102 ∧ v ≠ 103 ∧ v ≠ 97) ∨ wd < 0 ∨ 200 < wd ∨ pr < -1 ∨ (v = 97 ∧ 30 < pr) ∨ 100 < pr))) :
    Calls Tryz.prog 9 #[.agg #[.int .i64 v, .bool mi, .bool pl, .bool bl, .bool ze, .bool al, .int .i64 wd, .int .i64 pr], .int .u64 x] w fun e w' => e = .returned (.tuple #[.string ⟨#[]⟩, .int .i64 1]) ∧ Below w.heap.size w w' := by
  have HB := hb
  clear hb
  by_cases hv : v = 97
  · subst hv
    go_enter Tryz.func9, Tryz.ntmps9
    go_wp2_with fail
    all_goals first
      | (go_ret2; exact ⟨rfl, by go_grown⟩; done)
      | (exfalso; have h := HB.out.2; omega)
      | (exfalso; simp_all; done)
      | trace_state
  · go_enter Tryz.func9, Tryz.ntmps9
    go_wp2_with fail
    all_goals first
      | (go_ret2; exact ⟨rfl, by go_grown⟩; done)
      | (exfalso; have h := HB.out.2; omega)
      | (exfalso; simp_all; done)
      | trace_state
set_option maxRecDepth 100000 in
set_option maxHeartbeats 8000000 in
theorem wf_nan_mi (v : Int) (pl bl ze al : Bool) (wd pr : Int) (hv : (v = 97 ∧ pr ≤ 30) ∨ ((v = 101 ∨ v = 102 ∨ v = 103) ∧ pr ≤ 100)) (w0 : 0 ≤ wd) (w1 : wd ≤ 200) (p0 : -1 ≤ pr) (x : Int) (HD PA : ByteArray) (hs n : Nat) (zH : HD.size = hs) (s1 : hs ≤ 1) (hn : Hid (max (wd - (hs : Int) - 3) 0 = (n : Int) ∧ True)) (n1 : n ≤ 200) (zP : PA.size = n) (w : World) (hT : Tab w) (hT10 : Tab10 w)
    (SG : Hid (∀ w' : World, Calls Tryz.prog 23 #[.agg #[.int .i64 v, .bool true, .bool pl, .bool bl, .bool ze, .bool al, .int .i64 wd, .int .i64 pr], .int .u64 x] w' fun e w2 => e = .returned (.string HD) ∧ Below w'.heap.size w' w2))
    (CL : Hid (∀ w' : World, Calls Tryz.prog 8 #[.int .u64 x] w' fun e w2 => e = .returned (.int .i64 5) ∧ w' = w2))
    (RP : Hid (∀ X (w' : World), X = (n : Int) → Calls Tryz.prog 26 #[.string ⟨#[32]⟩, .int .i64 X] w' fun e w2 => e = .returned (.string PA) ∧ Below w'.heap.size w' w2)) :
    Calls Tryz.prog 9 #[.agg #[.int .i64 v, .bool true, .bool pl, .bool bl, .bool ze, .bool al, .int .i64 wd, .int .i64 pr], .int .u64 x] w fun e w' => e = .returned (.tuple #[.string (HD ++ ⟨#[110, 97, 110]⟩ ++ PA), .int .i64 0]) ∧ Below w.heap.size w w' := by
  have HT := Lib.hid hT
  have H10 := Lib.hid hT10
  clear hT hT10
  all_goals rcases hv with ⟨rfl, hp⟩ | ⟨rfl | rfl | rfl, hp⟩
  all_goals
    go_enter Tryz.func9, Tryz.ntmps9
    go_wp2_with fail
    refine (SG.out _).mono ?_
    rintro e w3 ⟨rfl, hb⟩
    have X := Lib.hid ((Bx8.new w _ _ _ _ _ _ _ _ _).below hb)
    have B : Hid (Below w.heap.size w w3) := Lib.hid (bl_thru ((Below.refl w.heap.size w).alloc (Nat.le_refl _) _) (Nat.le_refl _) hb)
    replace HT := Lib.hid (HT.out.below B.out)
    replace H10 := Lib.hid (H10.out.below B.out)
    clear hb
    obtain ⟨c0, c1, c2, c3, c4, c5, c6, c7⟩ := X.out.cells
    go_wp2_with (first
      | (go_at_call 26; refine (RP.out _ _ (by first | exact hn.out.1 | (have := hn.out.1; omega))).mono ?_; rintro e w9 ⟨rfl, hb⟩; replace B := Lib.hid (bl_thru B.out (Nat.le_refl _) hb); clear hb)
      | (go_at_call 8; refine (CL.out _).mono ?_; rintro e w9 ⟨rfl, rfl⟩))
    all_goals first
      | (go_ret2; exact ⟨rfl, B.out⟩; done)
      | (exfalso; omega)
      | (exfalso; simp_all; done)
      | trace_state
set_option maxRecDepth 100000 in
set_option maxHeartbeats 8000000 in
theorem wf_nan_sp (v : Int) (pl bl ze al : Bool) (wd pr : Int) (hv : (v = 97 ∧ pr ≤ 30) ∨ ((v = 101 ∨ v = 102 ∨ v = 103) ∧ pr ≤ 100)) (w0 : 0 ≤ wd) (w1 : wd ≤ 200) (p0 : -1 ≤ pr) (x : Int) (HD PA : ByteArray) (hs n : Nat) (zH : HD.size = hs) (s1 : hs ≤ 1) (hn : Hid (max (wd - (hs : Int) - 3) 0 = (n : Int) ∧ True)) (n1 : n ≤ 200) (zP : PA.size = n) (w : World) (hT : Tab w) (hT10 : Tab10 w)
    (SG : Hid (∀ w' : World, Calls Tryz.prog 23 #[.agg #[.int .i64 v, .bool false, .bool pl, .bool bl, .bool ze, .bool al, .int .i64 wd, .int .i64 pr], .int .u64 x] w' fun e w2 => e = .returned (.string HD) ∧ Below w'.heap.size w' w2))
    (CL : Hid (∀ w' : World, Calls Tryz.prog 8 #[.int .u64 x] w' fun e w2 => e = .returned (.int .i64 5) ∧ w' = w2))
    (HV : Hid (∀ w' : World, Calls Tryz.prog 27 #[.int .u64 x] w' fun e w2 => e = .returned (.bool false) ∧ w' = w2))
    (RP : Hid (∀ X (w' : World), X = (n : Int) → Calls Tryz.prog 26 #[.string ⟨#[32]⟩, .int .i64 X] w' fun e w2 => e = .returned (.string PA) ∧ Below w'.heap.size w' w2)) :
    Calls Tryz.prog 9 #[.agg #[.int .i64 v, .bool false, .bool pl, .bool bl, .bool ze, .bool al, .int .i64 wd, .int .i64 pr], .int .u64 x] w fun e w' => e = .returned (.tuple #[.string (PA ++ HD ++ ⟨#[110, 97, 110]⟩), .int .i64 0]) ∧ Below w.heap.size w w' := by
  have HT := Lib.hid hT
  have H10 := Lib.hid hT10
  clear hT hT10
  cases ze
  all_goals rcases hv with ⟨rfl, hp⟩ | ⟨rfl | rfl | rfl, hp⟩
  all_goals
    go_enter Tryz.func9, Tryz.ntmps9
    go_wp2_with fail
    refine (SG.out _).mono ?_
    rintro e w3 ⟨rfl, hb⟩
    have X := Lib.hid ((Bx8.new w _ _ _ _ _ _ _ _ _).below hb)
    have B : Hid (Below w.heap.size w w3) := Lib.hid (bl_thru ((Below.refl w.heap.size w).alloc (Nat.le_refl _) _) (Nat.le_refl _) hb)
    replace HT := Lib.hid (HT.out.below B.out)
    replace H10 := Lib.hid (H10.out.below B.out)
    clear hb
    obtain ⟨c0, c1, c2, c3, c4, c5, c6, c7⟩ := X.out.cells
    go_wp2_with (first
      | (go_at_call 26; refine (RP.out _ _ (by first | exact hn.out.1 | (have := hn.out.1; omega))).mono ?_; rintro e w9 ⟨rfl, hb⟩; replace B := Lib.hid (bl_thru B.out (Nat.le_refl _) hb); clear hb)
      | (go_at_call 27; refine (HV.out _).mono ?_; rintro e w9 ⟨rfl, rfl⟩)
      | (go_at_call 8; refine (CL.out _).mono ?_; rintro e w9 ⟨rfl, rfl⟩))
    all_goals first
      | (go_ret2; exact ⟨rfl, B.out⟩; done)
      | (exfalso; omega)
      | (exfalso; simp_all; done)
      | trace_state
set_option maxRecDepth 100000 in
set_option maxHeartbeats 8000000 in
theorem wf_inf_mi (v : Int) (pl bl ze al : Bool) (wd pr : Int) (hv : (v = 97 ∧ pr ≤ 30) ∨ ((v = 101 ∨ v = 102 ∨ v = 103) ∧ pr ≤ 100)) (w0 : 0 ≤ wd) (w1 : wd ≤ 200) (p0 : -1 ≤ pr) (x : Int) (HD PA : ByteArray) (hs n : Nat) (zH : HD.size = hs) (s1 : hs ≤ 1) (hn : Hid (max (wd - (hs : Int) - 3) 0 = (n : Int) ∧ True)) (n1 : n ≤ 200) (zP : PA.size = n) (w : World) (hT : Tab w) (hT10 : Tab10 w)
    (SG : Hid (∀ w' : World, Calls Tryz.prog 23 #[.agg #[.int .i64 v, .bool true, .bool pl, .bool bl, .bool ze, .bool al, .int .i64 wd, .int .i64 pr], .int .u64 x] w' fun e w2 => e = .returned (.string HD) ∧ Below w'.heap.size w' w2))
    (CL : Hid (∀ w' : World, Calls Tryz.prog 8 #[.int .u64 x] w' fun e w2 => e = .returned (.int .i64 4) ∧ w' = w2))
    (RP : Hid (∀ X (w' : World), X = (n : Int) → Calls Tryz.prog 26 #[.string ⟨#[32]⟩, .int .i64 X] w' fun e w2 => e = .returned (.string PA) ∧ Below w'.heap.size w' w2)) :
    Calls Tryz.prog 9 #[.agg #[.int .i64 v, .bool true, .bool pl, .bool bl, .bool ze, .bool al, .int .i64 wd, .int .i64 pr], .int .u64 x] w fun e w' => e = .returned (.tuple #[.string (HD ++ ⟨#[105, 110, 102]⟩ ++ PA), .int .i64 0]) ∧ Below w.heap.size w w' := by
  have HT := Lib.hid hT
  have H10 := Lib.hid hT10
  clear hT hT10
  all_goals rcases hv with ⟨rfl, hp⟩ | ⟨rfl | rfl | rfl, hp⟩
  all_goals
    go_enter Tryz.func9, Tryz.ntmps9
    go_wp2_with fail
    refine (SG.out _).mono ?_
    rintro e w3 ⟨rfl, hb⟩
    have X := Lib.hid ((Bx8.new w _ _ _ _ _ _ _ _ _).below hb)
    have B : Hid (Below w.heap.size w w3) := Lib.hid (bl_thru ((Below.refl w.heap.size w).alloc (Nat.le_refl _) _) (Nat.le_refl _) hb)
    replace HT := Lib.hid (HT.out.below B.out)
    replace H10 := Lib.hid (H10.out.below B.out)
    clear hb
    obtain ⟨c0, c1, c2, c3, c4, c5, c6, c7⟩ := X.out.cells
    go_wp2_with (first
      | (go_at_call 26; refine (RP.out _ _ (by first | exact hn.out.1 | (have := hn.out.1; omega))).mono ?_; rintro e w9 ⟨rfl, hb⟩; replace B := Lib.hid (bl_thru B.out (Nat.le_refl _) hb); clear hb)
      | (go_at_call 8; refine (CL.out _).mono ?_; rintro e w9 ⟨rfl, rfl⟩))
    all_goals first
      | (go_ret2; exact ⟨rfl, B.out⟩; done)
      | (exfalso; omega)
      | (exfalso; simp_all; done)
      | trace_state
set_option maxRecDepth 100000 in
set_option maxHeartbeats 8000000 in
theorem wf_inf_sp (v : Int) (pl bl ze al : Bool) (wd pr : Int) (hv : (v = 97 ∧ pr ≤ 30) ∨ ((v = 101 ∨ v = 102 ∨ v = 103) ∧ pr ≤ 100)) (w0 : 0 ≤ wd) (w1 : wd ≤ 200) (p0 : -1 ≤ pr) (x : Int) (HD PA : ByteArray) (hs n : Nat) (zH : HD.size = hs) (s1 : hs ≤ 1) (hn : Hid (max (wd - (hs : Int) - 3) 0 = (n : Int) ∧ True)) (n1 : n ≤ 200) (zP : PA.size = n) (w : World) (hT : Tab w) (hT10 : Tab10 w)
    (SG : Hid (∀ w' : World, Calls Tryz.prog 23 #[.agg #[.int .i64 v, .bool false, .bool pl, .bool bl, .bool ze, .bool al, .int .i64 wd, .int .i64 pr], .int .u64 x] w' fun e w2 => e = .returned (.string HD) ∧ Below w'.heap.size w' w2))
    (CL : Hid (∀ w' : World, Calls Tryz.prog 8 #[.int .u64 x] w' fun e w2 => e = .returned (.int .i64 4) ∧ w' = w2))
    (HV : Hid (∀ w' : World, Calls Tryz.prog 27 #[.int .u64 x] w' fun e w2 => e = .returned (.bool false) ∧ w' = w2))
    (RP : Hid (∀ X (w' : World), X = (n : Int) → Calls Tryz.prog 26 #[.string ⟨#[32]⟩, .int .i64 X] w' fun e w2 => e = .returned (.string PA) ∧ Below w'.heap.size w' w2)) :
    Calls Tryz.prog 9 #[.agg #[.int .i64 v, .bool false, .bool pl, .bool bl, .bool ze, .bool al, .int .i64 wd, .int .i64 pr], .int .u64 x] w fun e w' => e = .returned (.tuple #[.string (PA ++ HD ++ ⟨#[105, 110, 102]⟩), .int .i64 0]) ∧ Below w.heap.size w w' := by
  have HT := Lib.hid hT
  have H10 := Lib.hid hT10
  clear hT hT10
  cases ze
  all_goals rcases hv with ⟨rfl, hp⟩ | ⟨rfl | rfl | rfl, hp⟩
  all_goals
    go_enter Tryz.func9, Tryz.ntmps9
    go_wp2_with fail
    refine (SG.out _).mono ?_
    rintro e w3 ⟨rfl, hb⟩
    have X := Lib.hid ((Bx8.new w _ _ _ _ _ _ _ _ _).below hb)
    have B : Hid (Below w.heap.size w w3) := Lib.hid (bl_thru ((Below.refl w.heap.size w).alloc (Nat.le_refl _) _) (Nat.le_refl _) hb)
    replace HT := Lib.hid (HT.out.below B.out)
    replace H10 := Lib.hid (H10.out.below B.out)
    clear hb
    obtain ⟨c0, c1, c2, c3, c4, c5, c6, c7⟩ := X.out.cells
    go_wp2_with (first
      | (go_at_call 26; refine (RP.out _ _ (by first | exact hn.out.1 | (have := hn.out.1; omega))).mono ?_; rintro e w9 ⟨rfl, hb⟩; replace B := Lib.hid (bl_thru B.out (Nat.le_refl _) hb); clear hb)
      | (go_at_call 27; refine (HV.out _).mono ?_; rintro e w9 ⟨rfl, rfl⟩)
      | (go_at_call 8; refine (CL.out _).mono ?_; rintro e w9 ⟨rfl, rfl⟩))
    all_goals first
      | (go_ret2; exact ⟨rfl, B.out⟩; done)
      | (exfalso; omega)
      | (exfalso; simp_all; done)
      | trace_state
end Go.Proofs.YtofdjfdnckmmmaaGreatDoor
