/-
  THE WALK of wanted.Format, a theorem a way.
-/
import Derived.Test.YtofdjfdnckmmmaaGreatDoorWfk
set_option linter.unusedVariables false
set_option linter.unusedSimpArgs false
namespace Go.Proofs.YtofdjfdnckmmmaaGreatDoor
open Go.Shelf Go.RowKit Go.Lib Nt Fm Fl

set_option maxRecDepth 100000 in
set_option maxHeartbeats 8000000 in
theorem wf_val_mi (v : Int) (pl bl ze al : Bool) (wd pr : Int) (hv : (v = 97 ∧ pr ≤ 30) ∨ ((v = 101 ∨ v = 102 ∨ v = 103) ∧ pr ≤ 100)) (w0 : 0 ≤ wd) (w1 : wd ≤ 200) (p0 : -1 ≤ pr) (x : Int) (c : Int) (h5 : (c == 5) = false) (h4 : (c == 4) = false) (y : Int) (BO : ByteArray) (bs : Nat) (zB : BO.size = bs) (b1 : bs ≤ 10000) (HD PA : ByteArray) (hs n : Nat) (zH : HD.size = hs) (s1 : hs ≤ 1) (hn : Hid (max (wd - (hs : Int) - (bs : Int)) 0 = (n : Int) ∧ True)) (n1 : n ≤ 200) (zP : PA.size = n) (w : World) (hT : Tab w) (hT10 : Tab10 w)
    (SG : Hid (∀ w' : World, Calls Tryz.prog 23 #[.agg #[.int .i64 v, .bool true, .bool pl, .bool bl, .bool ze, .bool al, .int .i64 wd, .int .i64 pr], .int .u64 x] w' fun e w2 => e = .returned (.string HD) ∧ Below w'.heap.size w' w2))
    (CL : Hid (∀ w' : World, Calls Tryz.prog 8 #[.int .u64 x] w' fun e w2 => e = .returned (.int .i64 c) ∧ w' = w2))
    (AB : Hid (∀ w' : World, Calls Tryz.prog 25 #[.int .u64 x] w' fun e w2 => e = .returned (.int .u64 y) ∧ w' = w2))
    (VA : Hid (∀ w' : World, Tab w' → Tab10 w' → Calls Tryz.prog 24 #[.agg #[.int .i64 v, .bool true, .bool pl, .bool bl, .bool ze, .bool al, .int .i64 wd, .int .i64 pr], .int .u64 y] w' fun e w2 => e = .returned (.string BO) ∧ Below w'.heap.size w' w2))
    (RP : Hid (∀ X (w' : World), X = (n : Int) → Calls Tryz.prog 26 #[.string ⟨#[32]⟩, .int .i64 X] w' fun e w2 => e = .returned (.string PA) ∧ Below w'.heap.size w' w2)) :
    Calls Tryz.prog 9 #[.agg #[.int .i64 v, .bool true, .bool pl, .bool bl, .bool ze, .bool al, .int .i64 wd, .int .i64 pr], .int .u64 x] w fun e w' => e = .returned (.tuple #[.string (HD ++ BO ++ PA), .int .i64 0]) ∧ Below w.heap.size w w' := by
  have HT := Lib.hid hT
  have H10 := Lib.hid hT10
  clear hT hT10
  all_goals rcases hv with ⟨rfl, hp⟩ | ⟨rfl | rfl | rfl, hp⟩
  · go_enter Tryz.func9, Tryz.ntmps9
    go_wp2_with fail
    refine (SG.out _).mono ?_
    rintro e w3 ⟨rfl, hb⟩
    have X := Lib.hid ((Bx8.new w _ _ _ _ _ _ _ _ _).below hb)
    have B : Hid (Below w.heap.size w w3) := Lib.hid (bl_thru ((Below.refl w.heap.size w).alloc (Nat.le_refl _) _) (Nat.le_refl _) hb)
    replace HT := Lib.hid (HT.out.below B.out)
    replace H10 := Lib.hid (H10.out.below B.out)
    clear hb
    obtain ⟨c0, c1, c2, c3, c4, c5, c6, c7⟩ := X.out.cells
    go_wp2_with (go_at_call 8; refine (CL.out _).mono ?_; rintro e w9 ⟨rfl, rfl⟩)
    go_region_held3 (fun w' => w'.cell? ⟨w.heap.size, 0, none⟩ = some (.int .i64 97) ∧ w'.cell? ⟨w.heap.size, 1, none⟩ = some (.bool true) ∧ w'.cell? ⟨w.heap.size, 2, none⟩ = some (.bool pl) ∧ w'.cell? ⟨w.heap.size, 3, none⟩ = some (.bool bl) ∧ w'.cell? ⟨w.heap.size, 4, none⟩ = some (.bool ze) ∧ w'.cell? ⟨w.heap.size, 5, none⟩ = some (.bool al) ∧ w'.cell? ⟨w.heap.size, 6, none⟩ = some (.int .i64 wd) ∧ w'.cell? ⟨w.heap.size, 7, none⟩ = some (.int .i64 pr))
      (first
        | exact ⟨c0, c1, c2, c3, c4, c5, c6, c7⟩
        | exact X.out.cells
        | (go_keep; done))
      (first
        | (go_at_call 25; refine (AB.out _).mono ?_; rintro e w9 ⟨rfl, rfl⟩)
        | (go_at_call 24; refine (VA.out _ (by exact HT.out) (by exact H10.out)).mono ?_; rintro e w9 ⟨rfl, hb⟩; replace X := Lib.hid (Bx8.below' X.out hb rfl); replace B : Hid (Below w.heap.size w w9) := Lib.hid (bl_thru (by first | exact B.out | exact below_to_drewN (n := 1) B.out) (Nat.le_refl _) hb); clear hb))
    clear c0 c1 c2 c3 c4 c5 c6 c7
    obtain ⟨c0, c1, c2, c3, c4, c5, c6, c7⟩ := X.out.cells
    go_wp2_with (first
      | (go_at_call 26; refine (RP.out _ _ (by first | exact hn.out.1 | (have := hn.out.1; omega))).mono ?_; rintro e w9 ⟨rfl, hb⟩; replace B := Lib.hid (bl_thru B.out (Nat.le_refl _) hb); clear hb))
    all_goals first
      | (go_ret2; exact ⟨rfl, B.out⟩; done)
      | (exfalso; omega)
      | (exfalso; simp_all; done)
      | trace_state
  · go_enter Tryz.func9, Tryz.ntmps9
    go_wp2_with fail
    refine (SG.out _).mono ?_
    rintro e w3 ⟨rfl, hb⟩
    have X := Lib.hid ((Bx8.new w _ _ _ _ _ _ _ _ _).below hb)
    have B : Hid (Below w.heap.size w w3) := Lib.hid (bl_thru ((Below.refl w.heap.size w).alloc (Nat.le_refl _) _) (Nat.le_refl _) hb)
    replace HT := Lib.hid (HT.out.below B.out)
    replace H10 := Lib.hid (H10.out.below B.out)
    clear hb
    obtain ⟨c0, c1, c2, c3, c4, c5, c6, c7⟩ := X.out.cells
    go_wp2_with (go_at_call 8; refine (CL.out _).mono ?_; rintro e w9 ⟨rfl, rfl⟩)
    go_region_held3 (fun w' => w'.cell? ⟨w.heap.size, 0, none⟩ = some (.int .i64 101) ∧ w'.cell? ⟨w.heap.size, 1, none⟩ = some (.bool true) ∧ w'.cell? ⟨w.heap.size, 2, none⟩ = some (.bool pl) ∧ w'.cell? ⟨w.heap.size, 3, none⟩ = some (.bool bl) ∧ w'.cell? ⟨w.heap.size, 4, none⟩ = some (.bool ze) ∧ w'.cell? ⟨w.heap.size, 5, none⟩ = some (.bool al) ∧ w'.cell? ⟨w.heap.size, 6, none⟩ = some (.int .i64 wd) ∧ w'.cell? ⟨w.heap.size, 7, none⟩ = some (.int .i64 pr))
      (first
        | exact ⟨c0, c1, c2, c3, c4, c5, c6, c7⟩
        | exact X.out.cells
        | (go_keep; done))
      (first
        | (go_at_call 25; refine (AB.out _).mono ?_; rintro e w9 ⟨rfl, rfl⟩)
        | (go_at_call 24; refine (VA.out _ (by exact HT.out) (by exact H10.out)).mono ?_; rintro e w9 ⟨rfl, hb⟩; replace X := Lib.hid (Bx8.below' X.out hb rfl); replace B : Hid (Below w.heap.size w w9) := Lib.hid (bl_thru (by first | exact B.out | exact below_to_drewN (n := 1) B.out) (Nat.le_refl _) hb); clear hb))
    clear c0 c1 c2 c3 c4 c5 c6 c7
    obtain ⟨c0, c1, c2, c3, c4, c5, c6, c7⟩ := X.out.cells
    go_wp2_with (first
      | (go_at_call 26; refine (RP.out _ _ (by first | exact hn.out.1 | (have := hn.out.1; omega))).mono ?_; rintro e w9 ⟨rfl, hb⟩; replace B := Lib.hid (bl_thru B.out (Nat.le_refl _) hb); clear hb))
    all_goals first
      | (go_ret2; exact ⟨rfl, B.out⟩; done)
      | (exfalso; omega)
      | (exfalso; simp_all; done)
      | trace_state
  · go_enter Tryz.func9, Tryz.ntmps9
    go_wp2_with fail
    refine (SG.out _).mono ?_
    rintro e w3 ⟨rfl, hb⟩
    have X := Lib.hid ((Bx8.new w _ _ _ _ _ _ _ _ _).below hb)
    have B : Hid (Below w.heap.size w w3) := Lib.hid (bl_thru ((Below.refl w.heap.size w).alloc (Nat.le_refl _) _) (Nat.le_refl _) hb)
    replace HT := Lib.hid (HT.out.below B.out)
    replace H10 := Lib.hid (H10.out.below B.out)
    clear hb
    obtain ⟨c0, c1, c2, c3, c4, c5, c6, c7⟩ := X.out.cells
    go_wp2_with (go_at_call 8; refine (CL.out _).mono ?_; rintro e w9 ⟨rfl, rfl⟩)
    go_region_held3 (fun w' => w'.cell? ⟨w.heap.size, 0, none⟩ = some (.int .i64 102) ∧ w'.cell? ⟨w.heap.size, 1, none⟩ = some (.bool true) ∧ w'.cell? ⟨w.heap.size, 2, none⟩ = some (.bool pl) ∧ w'.cell? ⟨w.heap.size, 3, none⟩ = some (.bool bl) ∧ w'.cell? ⟨w.heap.size, 4, none⟩ = some (.bool ze) ∧ w'.cell? ⟨w.heap.size, 5, none⟩ = some (.bool al) ∧ w'.cell? ⟨w.heap.size, 6, none⟩ = some (.int .i64 wd) ∧ w'.cell? ⟨w.heap.size, 7, none⟩ = some (.int .i64 pr))
      (first
        | exact ⟨c0, c1, c2, c3, c4, c5, c6, c7⟩
        | exact X.out.cells
        | (go_keep; done))
      (first
        | (go_at_call 25; refine (AB.out _).mono ?_; rintro e w9 ⟨rfl, rfl⟩)
        | (go_at_call 24; refine (VA.out _ (by exact HT.out) (by exact H10.out)).mono ?_; rintro e w9 ⟨rfl, hb⟩; replace X := Lib.hid (Bx8.below' X.out hb rfl); replace B : Hid (Below w.heap.size w w9) := Lib.hid (bl_thru (by first | exact B.out | exact below_to_drewN (n := 1) B.out) (Nat.le_refl _) hb); clear hb))
    clear c0 c1 c2 c3 c4 c5 c6 c7
    obtain ⟨c0, c1, c2, c3, c4, c5, c6, c7⟩ := X.out.cells
    go_wp2_with (first
      | (go_at_call 26; refine (RP.out _ _ (by first | exact hn.out.1 | (have := hn.out.1; omega))).mono ?_; rintro e w9 ⟨rfl, hb⟩; replace B := Lib.hid (bl_thru B.out (Nat.le_refl _) hb); clear hb))
    all_goals first
      | (go_ret2; exact ⟨rfl, B.out⟩; done)
      | (exfalso; omega)
      | (exfalso; simp_all; done)
      | trace_state
  · go_enter Tryz.func9, Tryz.ntmps9
    go_wp2_with fail
    refine (SG.out _).mono ?_
    rintro e w3 ⟨rfl, hb⟩
    have X := Lib.hid ((Bx8.new w _ _ _ _ _ _ _ _ _).below hb)
    have B : Hid (Below w.heap.size w w3) := Lib.hid (bl_thru ((Below.refl w.heap.size w).alloc (Nat.le_refl _) _) (Nat.le_refl _) hb)
    replace HT := Lib.hid (HT.out.below B.out)
    replace H10 := Lib.hid (H10.out.below B.out)
    clear hb
    obtain ⟨c0, c1, c2, c3, c4, c5, c6, c7⟩ := X.out.cells
    go_wp2_with (go_at_call 8; refine (CL.out _).mono ?_; rintro e w9 ⟨rfl, rfl⟩)
    go_region_held3 (fun w' => w'.cell? ⟨w.heap.size, 0, none⟩ = some (.int .i64 103) ∧ w'.cell? ⟨w.heap.size, 1, none⟩ = some (.bool true) ∧ w'.cell? ⟨w.heap.size, 2, none⟩ = some (.bool pl) ∧ w'.cell? ⟨w.heap.size, 3, none⟩ = some (.bool bl) ∧ w'.cell? ⟨w.heap.size, 4, none⟩ = some (.bool ze) ∧ w'.cell? ⟨w.heap.size, 5, none⟩ = some (.bool al) ∧ w'.cell? ⟨w.heap.size, 6, none⟩ = some (.int .i64 wd) ∧ w'.cell? ⟨w.heap.size, 7, none⟩ = some (.int .i64 pr))
      (first
        | exact ⟨c0, c1, c2, c3, c4, c5, c6, c7⟩
        | exact X.out.cells
        | (go_keep; done))
      (first
        | (go_at_call 25; refine (AB.out _).mono ?_; rintro e w9 ⟨rfl, rfl⟩)
        | (go_at_call 24; refine (VA.out _ (by exact HT.out) (by exact H10.out)).mono ?_; rintro e w9 ⟨rfl, hb⟩; replace X := Lib.hid (Bx8.below' X.out hb rfl); replace B : Hid (Below w.heap.size w w9) := Lib.hid (bl_thru (by first | exact B.out | exact below_to_drewN (n := 1) B.out) (Nat.le_refl _) hb); clear hb))
    clear c0 c1 c2 c3 c4 c5 c6 c7
    obtain ⟨c0, c1, c2, c3, c4, c5, c6, c7⟩ := X.out.cells
    go_wp2_with (first
      | (go_at_call 26; refine (RP.out _ _ (by first | exact hn.out.1 | (have := hn.out.1; omega))).mono ?_; rintro e w9 ⟨rfl, hb⟩; replace B := Lib.hid (bl_thru B.out (Nat.le_refl _) hb); clear hb))
    all_goals first
      | (go_ret2; exact ⟨rfl, B.out⟩; done)
      | (exfalso; omega)
      | (exfalso; simp_all; done)
      | trace_state
set_option maxRecDepth 100000 in
set_option maxHeartbeats 8000000 in
theorem wf_val_sp (v : Int) (pl bl ze al : Bool) (wd pr : Int) (hv : (v = 97 ∧ pr ≤ 30) ∨ ((v = 101 ∨ v = 102 ∨ v = 103) ∧ pr ≤ 100)) (w0 : 0 ≤ wd) (w1 : wd ≤ 200) (p0 : -1 ≤ pr) (x : Int) (c : Int) (h5 : (c == 5) = false) (h4 : (c == 4) = false) (y : Int) (BO : ByteArray) (bs : Nat) (zB : BO.size = bs) (b1 : bs ≤ 10000) (HD PA : ByteArray) (hs n : Nat) (zH : HD.size = hs) (s1 : hs ≤ 1) (hn : Hid (max (wd - (hs : Int) - (bs : Int)) 0 = (n : Int) ∧ True)) (n1 : n ≤ 200) (zP : PA.size = n) (w : World) (hT : Tab w) (hT10 : Tab10 w)
    (SG : Hid (∀ w' : World, Calls Tryz.prog 23 #[.agg #[.int .i64 v, .bool false, .bool pl, .bool bl, .bool ze, .bool al, .int .i64 wd, .int .i64 pr], .int .u64 x] w' fun e w2 => e = .returned (.string HD) ∧ Below w'.heap.size w' w2))
    (CL : Hid (∀ w' : World, Calls Tryz.prog 8 #[.int .u64 x] w' fun e w2 => e = .returned (.int .i64 c) ∧ w' = w2))
    (AB : Hid (∀ w' : World, Calls Tryz.prog 25 #[.int .u64 x] w' fun e w2 => e = .returned (.int .u64 y) ∧ w' = w2))
    (VA : Hid (∀ w' : World, Tab w' → Tab10 w' → Calls Tryz.prog 24 #[.agg #[.int .i64 v, .bool false, .bool pl, .bool bl, .bool ze, .bool al, .int .i64 wd, .int .i64 pr], .int .u64 y] w' fun e w2 => e = .returned (.string BO) ∧ Below w'.heap.size w' w2))
    (hze : ze = false)
    (RP : Hid (∀ X (w' : World), X = (n : Int) → Calls Tryz.prog 26 #[.string ⟨#[32]⟩, .int .i64 X] w' fun e w2 => e = .returned (.string PA) ∧ Below w'.heap.size w' w2)) :
    Calls Tryz.prog 9 #[.agg #[.int .i64 v, .bool false, .bool pl, .bool bl, .bool ze, .bool al, .int .i64 wd, .int .i64 pr], .int .u64 x] w fun e w' => e = .returned (.tuple #[.string (PA ++ HD ++ BO), .int .i64 0]) ∧ Below w.heap.size w w' := by
  have HT := Lib.hid hT
  have H10 := Lib.hid hT10
  clear hT hT10
  subst hze
  all_goals rcases hv with ⟨rfl, hp⟩ | ⟨rfl | rfl | rfl, hp⟩
  · go_enter Tryz.func9, Tryz.ntmps9
    go_wp2_with fail
    refine (SG.out _).mono ?_
    rintro e w3 ⟨rfl, hb⟩
    have X := Lib.hid ((Bx8.new w _ _ _ _ _ _ _ _ _).below hb)
    have B : Hid (Below w.heap.size w w3) := Lib.hid (bl_thru ((Below.refl w.heap.size w).alloc (Nat.le_refl _) _) (Nat.le_refl _) hb)
    replace HT := Lib.hid (HT.out.below B.out)
    replace H10 := Lib.hid (H10.out.below B.out)
    clear hb
    obtain ⟨c0, c1, c2, c3, c4, c5, c6, c7⟩ := X.out.cells
    go_wp2_with (go_at_call 8; refine (CL.out _).mono ?_; rintro e w9 ⟨rfl, rfl⟩)
    go_region_held3 (fun w' => w'.cell? ⟨w.heap.size, 0, none⟩ = some (.int .i64 97) ∧ w'.cell? ⟨w.heap.size, 1, none⟩ = some (.bool false) ∧ w'.cell? ⟨w.heap.size, 2, none⟩ = some (.bool pl) ∧ w'.cell? ⟨w.heap.size, 3, none⟩ = some (.bool bl) ∧ w'.cell? ⟨w.heap.size, 4, none⟩ = some (.bool false) ∧ w'.cell? ⟨w.heap.size, 5, none⟩ = some (.bool al) ∧ w'.cell? ⟨w.heap.size, 6, none⟩ = some (.int .i64 wd) ∧ w'.cell? ⟨w.heap.size, 7, none⟩ = some (.int .i64 pr))
      (first
        | exact ⟨c0, c1, c2, c3, c4, c5, c6, c7⟩
        | exact X.out.cells
        | (go_keep; done))
      (first
        | (go_at_call 25; refine (AB.out _).mono ?_; rintro e w9 ⟨rfl, rfl⟩)
        | (go_at_call 24; refine (VA.out _ (by exact HT.out) (by exact H10.out)).mono ?_; rintro e w9 ⟨rfl, hb⟩; replace X := Lib.hid (Bx8.below' X.out hb rfl); replace B : Hid (Below w.heap.size w w9) := Lib.hid (bl_thru (by first | exact B.out | exact below_to_drewN (n := 1) B.out) (Nat.le_refl _) hb); clear hb))
    clear c0 c1 c2 c3 c4 c5 c6 c7
    obtain ⟨c0, c1, c2, c3, c4, c5, c6, c7⟩ := X.out.cells
    go_wp2_with (first
      | (go_at_call 26; refine (RP.out _ _ (by first | exact hn.out.1 | (have := hn.out.1; omega))).mono ?_; rintro e w9 ⟨rfl, hb⟩; replace B := Lib.hid (bl_thru B.out (Nat.le_refl _) hb); clear hb))
    all_goals first
      | (go_ret2; exact ⟨rfl, B.out⟩; done)
      | (exfalso; omega)
      | (exfalso; simp_all; done)
      | trace_state
  · go_enter Tryz.func9, Tryz.ntmps9
    go_wp2_with fail
    refine (SG.out _).mono ?_
    rintro e w3 ⟨rfl, hb⟩
    have X := Lib.hid ((Bx8.new w _ _ _ _ _ _ _ _ _).below hb)
    have B : Hid (Below w.heap.size w w3) := Lib.hid (bl_thru ((Below.refl w.heap.size w).alloc (Nat.le_refl _) _) (Nat.le_refl _) hb)
    replace HT := Lib.hid (HT.out.below B.out)
    replace H10 := Lib.hid (H10.out.below B.out)
    clear hb
    obtain ⟨c0, c1, c2, c3, c4, c5, c6, c7⟩ := X.out.cells
    go_wp2_with (go_at_call 8; refine (CL.out _).mono ?_; rintro e w9 ⟨rfl, rfl⟩)
    go_region_held3 (fun w' => w'.cell? ⟨w.heap.size, 0, none⟩ = some (.int .i64 101) ∧ w'.cell? ⟨w.heap.size, 1, none⟩ = some (.bool false) ∧ w'.cell? ⟨w.heap.size, 2, none⟩ = some (.bool pl) ∧ w'.cell? ⟨w.heap.size, 3, none⟩ = some (.bool bl) ∧ w'.cell? ⟨w.heap.size, 4, none⟩ = some (.bool false) ∧ w'.cell? ⟨w.heap.size, 5, none⟩ = some (.bool al) ∧ w'.cell? ⟨w.heap.size, 6, none⟩ = some (.int .i64 wd) ∧ w'.cell? ⟨w.heap.size, 7, none⟩ = some (.int .i64 pr))
      (first
        | exact ⟨c0, c1, c2, c3, c4, c5, c6, c7⟩
        | exact X.out.cells
        | (go_keep; done))
      (first
        | (go_at_call 25; refine (AB.out _).mono ?_; rintro e w9 ⟨rfl, rfl⟩)
        | (go_at_call 24; refine (VA.out _ (by exact HT.out) (by exact H10.out)).mono ?_; rintro e w9 ⟨rfl, hb⟩; replace X := Lib.hid (Bx8.below' X.out hb rfl); replace B : Hid (Below w.heap.size w w9) := Lib.hid (bl_thru (by first | exact B.out | exact below_to_drewN (n := 1) B.out) (Nat.le_refl _) hb); clear hb))
    clear c0 c1 c2 c3 c4 c5 c6 c7
    obtain ⟨c0, c1, c2, c3, c4, c5, c6, c7⟩ := X.out.cells
    go_wp2_with (first
      | (go_at_call 26; refine (RP.out _ _ (by first | exact hn.out.1 | (have := hn.out.1; omega))).mono ?_; rintro e w9 ⟨rfl, hb⟩; replace B := Lib.hid (bl_thru B.out (Nat.le_refl _) hb); clear hb))
    all_goals first
      | (go_ret2; exact ⟨rfl, B.out⟩; done)
      | (exfalso; omega)
      | (exfalso; simp_all; done)
      | trace_state
  · go_enter Tryz.func9, Tryz.ntmps9
    go_wp2_with fail
    refine (SG.out _).mono ?_
    rintro e w3 ⟨rfl, hb⟩
    have X := Lib.hid ((Bx8.new w _ _ _ _ _ _ _ _ _).below hb)
    have B : Hid (Below w.heap.size w w3) := Lib.hid (bl_thru ((Below.refl w.heap.size w).alloc (Nat.le_refl _) _) (Nat.le_refl _) hb)
    replace HT := Lib.hid (HT.out.below B.out)
    replace H10 := Lib.hid (H10.out.below B.out)
    clear hb
    obtain ⟨c0, c1, c2, c3, c4, c5, c6, c7⟩ := X.out.cells
    go_wp2_with (go_at_call 8; refine (CL.out _).mono ?_; rintro e w9 ⟨rfl, rfl⟩)
    go_region_held3 (fun w' => w'.cell? ⟨w.heap.size, 0, none⟩ = some (.int .i64 102) ∧ w'.cell? ⟨w.heap.size, 1, none⟩ = some (.bool false) ∧ w'.cell? ⟨w.heap.size, 2, none⟩ = some (.bool pl) ∧ w'.cell? ⟨w.heap.size, 3, none⟩ = some (.bool bl) ∧ w'.cell? ⟨w.heap.size, 4, none⟩ = some (.bool false) ∧ w'.cell? ⟨w.heap.size, 5, none⟩ = some (.bool al) ∧ w'.cell? ⟨w.heap.size, 6, none⟩ = some (.int .i64 wd) ∧ w'.cell? ⟨w.heap.size, 7, none⟩ = some (.int .i64 pr))
      (first
        | exact ⟨c0, c1, c2, c3, c4, c5, c6, c7⟩
        | exact X.out.cells
        | (go_keep; done))
      (first
        | (go_at_call 25; refine (AB.out _).mono ?_; rintro e w9 ⟨rfl, rfl⟩)
        | (go_at_call 24; refine (VA.out _ (by exact HT.out) (by exact H10.out)).mono ?_; rintro e w9 ⟨rfl, hb⟩; replace X := Lib.hid (Bx8.below' X.out hb rfl); replace B : Hid (Below w.heap.size w w9) := Lib.hid (bl_thru (by first | exact B.out | exact below_to_drewN (n := 1) B.out) (Nat.le_refl _) hb); clear hb))
    clear c0 c1 c2 c3 c4 c5 c6 c7
    obtain ⟨c0, c1, c2, c3, c4, c5, c6, c7⟩ := X.out.cells
    go_wp2_with (first
      | (go_at_call 26; refine (RP.out _ _ (by first | exact hn.out.1 | (have := hn.out.1; omega))).mono ?_; rintro e w9 ⟨rfl, hb⟩; replace B := Lib.hid (bl_thru B.out (Nat.le_refl _) hb); clear hb))
    all_goals first
      | (go_ret2; exact ⟨rfl, B.out⟩; done)
      | (exfalso; omega)
      | (exfalso; simp_all; done)
      | trace_state
  · go_enter Tryz.func9, Tryz.ntmps9
    go_wp2_with fail
    refine (SG.out _).mono ?_
    rintro e w3 ⟨rfl, hb⟩
    have X := Lib.hid ((Bx8.new w _ _ _ _ _ _ _ _ _).below hb)
    have B : Hid (Below w.heap.size w w3) := Lib.hid (bl_thru ((Below.refl w.heap.size w).alloc (Nat.le_refl _) _) (Nat.le_refl _) hb)
    replace HT := Lib.hid (HT.out.below B.out)
    replace H10 := Lib.hid (H10.out.below B.out)
    clear hb
    obtain ⟨c0, c1, c2, c3, c4, c5, c6, c7⟩ := X.out.cells
    go_wp2_with (go_at_call 8; refine (CL.out _).mono ?_; rintro e w9 ⟨rfl, rfl⟩)
    go_region_held3 (fun w' => w'.cell? ⟨w.heap.size, 0, none⟩ = some (.int .i64 103) ∧ w'.cell? ⟨w.heap.size, 1, none⟩ = some (.bool false) ∧ w'.cell? ⟨w.heap.size, 2, none⟩ = some (.bool pl) ∧ w'.cell? ⟨w.heap.size, 3, none⟩ = some (.bool bl) ∧ w'.cell? ⟨w.heap.size, 4, none⟩ = some (.bool false) ∧ w'.cell? ⟨w.heap.size, 5, none⟩ = some (.bool al) ∧ w'.cell? ⟨w.heap.size, 6, none⟩ = some (.int .i64 wd) ∧ w'.cell? ⟨w.heap.size, 7, none⟩ = some (.int .i64 pr))
      (first
        | exact ⟨c0, c1, c2, c3, c4, c5, c6, c7⟩
        | exact X.out.cells
        | (go_keep; done))
      (first
        | (go_at_call 25; refine (AB.out _).mono ?_; rintro e w9 ⟨rfl, rfl⟩)
        | (go_at_call 24; refine (VA.out _ (by exact HT.out) (by exact H10.out)).mono ?_; rintro e w9 ⟨rfl, hb⟩; replace X := Lib.hid (Bx8.below' X.out hb rfl); replace B : Hid (Below w.heap.size w w9) := Lib.hid (bl_thru (by first | exact B.out | exact below_to_drewN (n := 1) B.out) (Nat.le_refl _) hb); clear hb))
    clear c0 c1 c2 c3 c4 c5 c6 c7
    obtain ⟨c0, c1, c2, c3, c4, c5, c6, c7⟩ := X.out.cells
    go_wp2_with (first
      | (go_at_call 26; refine (RP.out _ _ (by first | exact hn.out.1 | (have := hn.out.1; omega))).mono ?_; rintro e w9 ⟨rfl, hb⟩; replace B := Lib.hid (bl_thru B.out (Nat.le_refl _) hb); clear hb))
    all_goals first
      | (go_ret2; exact ⟨rfl, B.out⟩; done)
      | (exfalso; omega)
      | (exfalso; simp_all; done)
      | trace_state
set_option maxRecDepth 100000 in
set_option maxHeartbeats 8000000 in
theorem wf_val_zx (v : Int) (pl bl al : Bool) (wd pr : Int) (hv : (v = 101 ∨ v = 102 ∨ v = 103) ∧ pr ≤ 100) (w0 : 0 ≤ wd) (w1 : wd ≤ 200) (p0 : -1 ≤ pr) (x : Int) (c : Int) (h5 : (c == 5) = false) (h4 : (c == 4) = false) (y : Int) (BO : ByteArray) (bs : Nat) (zB : BO.size = bs) (b1 : bs ≤ 10000) (HD PA : ByteArray) (hs n : Nat) (zH : HD.size = hs) (s1 : hs ≤ 1) (hn : Hid (max (wd - (hs : Int) - (bs : Int)) 0 = (n : Int) ∧ True)) (n1 : n ≤ 200) (zP : PA.size = n) (w : World) (hT : Tab w) (hT10 : Tab10 w)
    (SG : Hid (∀ w' : World, Calls Tryz.prog 23 #[.agg #[.int .i64 v, .bool false, .bool pl, .bool bl, .bool true, .bool al, .int .i64 wd, .int .i64 pr], .int .u64 x] w' fun e w2 => e = .returned (.string HD) ∧ Below w'.heap.size w' w2))
    (CL : Hid (∀ w' : World, Calls Tryz.prog 8 #[.int .u64 x] w' fun e w2 => e = .returned (.int .i64 c) ∧ w' = w2))
    (AB : Hid (∀ w' : World, Calls Tryz.prog 25 #[.int .u64 x] w' fun e w2 => e = .returned (.int .u64 y) ∧ w' = w2))
    (VA : Hid (∀ w' : World, Tab w' → Tab10 w' → Calls Tryz.prog 24 #[.agg #[.int .i64 v, .bool false, .bool pl, .bool bl, .bool true, .bool al, .int .i64 wd, .int .i64 pr], .int .u64 y] w' fun e w2 => e = .returned (.string BO) ∧ Below w'.heap.size w' w2))
    (HV : Hid (∀ w' : World, Calls Tryz.prog 27 #[.int .u64 x] w' fun e w2 => e = .returned (.bool true) ∧ w' = w2))
    (RP : Hid (∀ X (w' : World), X = (n : Int) → Calls Tryz.prog 26 #[.string ⟨#[48]⟩, .int .i64 X] w' fun e w2 => e = .returned (.string PA) ∧ Below w'.heap.size w' w2)) :
    Calls Tryz.prog 9 #[.agg #[.int .i64 v, .bool false, .bool pl, .bool bl, .bool true, .bool al, .int .i64 wd, .int .i64 pr], .int .u64 x] w fun e w' => e = .returned (.tuple #[.string (HD ++ PA ++ BO), .int .i64 0]) ∧ Below w.heap.size w w' := by
  have HT := Lib.hid hT
  have H10 := Lib.hid hT10
  clear hT hT10
  rcases hv with ⟨rfl | rfl | rfl, hp⟩
  · go_enter Tryz.func9, Tryz.ntmps9
    go_wp2_with fail
    refine (SG.out _).mono ?_
    rintro e w3 ⟨rfl, hb⟩
    have X := Lib.hid ((Bx8.new w _ _ _ _ _ _ _ _ _).below hb)
    have B : Hid (Below w.heap.size w w3) := Lib.hid (bl_thru ((Below.refl w.heap.size w).alloc (Nat.le_refl _) _) (Nat.le_refl _) hb)
    replace HT := Lib.hid (HT.out.below B.out)
    replace H10 := Lib.hid (H10.out.below B.out)
    clear hb
    obtain ⟨c0, c1, c2, c3, c4, c5, c6, c7⟩ := X.out.cells
    go_wp2_with (go_at_call 8; refine (CL.out _).mono ?_; rintro e w9 ⟨rfl, rfl⟩)
    go_region_held3 (fun w' => w'.cell? ⟨w.heap.size, 0, none⟩ = some (.int .i64 101) ∧ w'.cell? ⟨w.heap.size, 1, none⟩ = some (.bool false) ∧ w'.cell? ⟨w.heap.size, 2, none⟩ = some (.bool pl) ∧ w'.cell? ⟨w.heap.size, 3, none⟩ = some (.bool bl) ∧ w'.cell? ⟨w.heap.size, 4, none⟩ = some (.bool true) ∧ w'.cell? ⟨w.heap.size, 5, none⟩ = some (.bool al) ∧ w'.cell? ⟨w.heap.size, 6, none⟩ = some (.int .i64 wd) ∧ w'.cell? ⟨w.heap.size, 7, none⟩ = some (.int .i64 pr))
      (first
        | exact ⟨c0, c1, c2, c3, c4, c5, c6, c7⟩
        | exact X.out.cells
        | (go_keep; done))
      (first
        | (go_at_call 25; refine (AB.out _).mono ?_; rintro e w9 ⟨rfl, rfl⟩)
        | (go_at_call 24; refine (VA.out _ (by exact HT.out) (by exact H10.out)).mono ?_; rintro e w9 ⟨rfl, hb⟩; replace X := Lib.hid (Bx8.below' X.out hb rfl); replace B : Hid (Below w.heap.size w w9) := Lib.hid (bl_thru (by first | exact B.out | exact below_to_drewN (n := 1) B.out) (Nat.le_refl _) hb); clear hb))
    clear c0 c1 c2 c3 c4 c5 c6 c7
    obtain ⟨c0, c1, c2, c3, c4, c5, c6, c7⟩ := X.out.cells
    go_wp2_with (first
      | (go_at_call 26; refine (RP.out _ _ (by first | exact hn.out.1 | (have := hn.out.1; omega))).mono ?_; rintro e w9 ⟨rfl, hb⟩; replace B := Lib.hid (bl_thru B.out (Nat.le_refl _) hb); clear hb)
      | (go_at_call 27; refine (HV.out _).mono ?_; rintro e w9 ⟨rfl, rfl⟩))
    all_goals first
      | (go_ret2; exact ⟨rfl, B.out⟩; done)
      | (exfalso; omega)
      | (exfalso; simp_all; done)
      | trace_state
  · go_enter Tryz.func9, Tryz.ntmps9
    go_wp2_with fail
    refine (SG.out _).mono ?_
    rintro e w3 ⟨rfl, hb⟩
    have X := Lib.hid ((Bx8.new w _ _ _ _ _ _ _ _ _).below hb)
    have B : Hid (Below w.heap.size w w3) := Lib.hid (bl_thru ((Below.refl w.heap.size w).alloc (Nat.le_refl _) _) (Nat.le_refl _) hb)
    replace HT := Lib.hid (HT.out.below B.out)
    replace H10 := Lib.hid (H10.out.below B.out)
    clear hb
    obtain ⟨c0, c1, c2, c3, c4, c5, c6, c7⟩ := X.out.cells
    go_wp2_with (go_at_call 8; refine (CL.out _).mono ?_; rintro e w9 ⟨rfl, rfl⟩)
    go_region_held3 (fun w' => w'.cell? ⟨w.heap.size, 0, none⟩ = some (.int .i64 102) ∧ w'.cell? ⟨w.heap.size, 1, none⟩ = some (.bool false) ∧ w'.cell? ⟨w.heap.size, 2, none⟩ = some (.bool pl) ∧ w'.cell? ⟨w.heap.size, 3, none⟩ = some (.bool bl) ∧ w'.cell? ⟨w.heap.size, 4, none⟩ = some (.bool true) ∧ w'.cell? ⟨w.heap.size, 5, none⟩ = some (.bool al) ∧ w'.cell? ⟨w.heap.size, 6, none⟩ = some (.int .i64 wd) ∧ w'.cell? ⟨w.heap.size, 7, none⟩ = some (.int .i64 pr))
      (first
        | exact ⟨c0, c1, c2, c3, c4, c5, c6, c7⟩
        | exact X.out.cells
        | (go_keep; done))
      (first
        | (go_at_call 25; refine (AB.out _).mono ?_; rintro e w9 ⟨rfl, rfl⟩)
        | (go_at_call 24; refine (VA.out _ (by exact HT.out) (by exact H10.out)).mono ?_; rintro e w9 ⟨rfl, hb⟩; replace X := Lib.hid (Bx8.below' X.out hb rfl); replace B : Hid (Below w.heap.size w w9) := Lib.hid (bl_thru (by first | exact B.out | exact below_to_drewN (n := 1) B.out) (Nat.le_refl _) hb); clear hb))
    clear c0 c1 c2 c3 c4 c5 c6 c7
    obtain ⟨c0, c1, c2, c3, c4, c5, c6, c7⟩ := X.out.cells
    go_wp2_with (first
      | (go_at_call 26; refine (RP.out _ _ (by first | exact hn.out.1 | (have := hn.out.1; omega))).mono ?_; rintro e w9 ⟨rfl, hb⟩; replace B := Lib.hid (bl_thru B.out (Nat.le_refl _) hb); clear hb)
      | (go_at_call 27; refine (HV.out _).mono ?_; rintro e w9 ⟨rfl, rfl⟩))
    all_goals first
      | (go_ret2; exact ⟨rfl, B.out⟩; done)
      | (exfalso; omega)
      | (exfalso; simp_all; done)
      | trace_state
  · go_enter Tryz.func9, Tryz.ntmps9
    go_wp2_with fail
    refine (SG.out _).mono ?_
    rintro e w3 ⟨rfl, hb⟩
    have X := Lib.hid ((Bx8.new w _ _ _ _ _ _ _ _ _).below hb)
    have B : Hid (Below w.heap.size w w3) := Lib.hid (bl_thru ((Below.refl w.heap.size w).alloc (Nat.le_refl _) _) (Nat.le_refl _) hb)
    replace HT := Lib.hid (HT.out.below B.out)
    replace H10 := Lib.hid (H10.out.below B.out)
    clear hb
    obtain ⟨c0, c1, c2, c3, c4, c5, c6, c7⟩ := X.out.cells
    go_wp2_with (go_at_call 8; refine (CL.out _).mono ?_; rintro e w9 ⟨rfl, rfl⟩)
    go_region_held3 (fun w' => w'.cell? ⟨w.heap.size, 0, none⟩ = some (.int .i64 103) ∧ w'.cell? ⟨w.heap.size, 1, none⟩ = some (.bool false) ∧ w'.cell? ⟨w.heap.size, 2, none⟩ = some (.bool pl) ∧ w'.cell? ⟨w.heap.size, 3, none⟩ = some (.bool bl) ∧ w'.cell? ⟨w.heap.size, 4, none⟩ = some (.bool true) ∧ w'.cell? ⟨w.heap.size, 5, none⟩ = some (.bool al) ∧ w'.cell? ⟨w.heap.size, 6, none⟩ = some (.int .i64 wd) ∧ w'.cell? ⟨w.heap.size, 7, none⟩ = some (.int .i64 pr))
      (first
        | exact ⟨c0, c1, c2, c3, c4, c5, c6, c7⟩
        | exact X.out.cells
        | (go_keep; done))
      (first
        | (go_at_call 25; refine (AB.out _).mono ?_; rintro e w9 ⟨rfl, rfl⟩)
        | (go_at_call 24; refine (VA.out _ (by exact HT.out) (by exact H10.out)).mono ?_; rintro e w9 ⟨rfl, hb⟩; replace X := Lib.hid (Bx8.below' X.out hb rfl); replace B : Hid (Below w.heap.size w w9) := Lib.hid (bl_thru (by first | exact B.out | exact below_to_drewN (n := 1) B.out) (Nat.le_refl _) hb); clear hb))
    clear c0 c1 c2 c3 c4 c5 c6 c7
    obtain ⟨c0, c1, c2, c3, c4, c5, c6, c7⟩ := X.out.cells
    go_wp2_with (first
      | (go_at_call 26; refine (RP.out _ _ (by first | exact hn.out.1 | (have := hn.out.1; omega))).mono ?_; rintro e w9 ⟨rfl, hb⟩; replace B := Lib.hid (bl_thru B.out (Nat.le_refl _) hb); clear hb)
      | (go_at_call 27; refine (HV.out _).mono ?_; rintro e w9 ⟨rfl, rfl⟩))
    all_goals first
      | (go_ret2; exact ⟨rfl, B.out⟩; done)
      | (exfalso; omega)
      | (exfalso; simp_all; done)
      | trace_state
set_option maxRecDepth 100000 in
set_option maxHeartbeats 8000000 in
theorem wf_val_za (pl bl al : Bool) (wd pr : Int) (hv : pr ≤ 30) (w0 : 0 ≤ wd) (w1 : wd ≤ 200) (p0 : -1 ≤ pr) (x : Int) (c : Int) (h5 : (c == 5) = false) (h4 : (c == 4) = false) (y : Int) (BO : ByteArray) (bs : Nat) (zB : BO.size = bs) (b2 : 2 ≤ bs) (b1 : bs ≤ 10000) (HD PA : ByteArray) (hs n : Nat) (zH : HD.size = hs) (s1 : hs ≤ 1) (hn : Hid (max (wd - (hs : Int) - (bs : Int)) 0 = (n : Int) ∧ True)) (n1 : n ≤ 200) (zP : PA.size = n) (w : World) (hT : Tab w) (hT10 : Tab10 w)
    (SG : Hid (∀ w' : World, Calls Tryz.prog 23 #[.agg #[.int .i64 97, .bool false, .bool pl, .bool bl, .bool true, .bool al, .int .i64 wd, .int .i64 pr], .int .u64 x] w' fun e w2 => e = .returned (.string HD) ∧ Below w'.heap.size w' w2))
    (CL : Hid (∀ w' : World, Calls Tryz.prog 8 #[.int .u64 x] w' fun e w2 => e = .returned (.int .i64 c) ∧ w' = w2))
    (AB : Hid (∀ w' : World, Calls Tryz.prog 25 #[.int .u64 x] w' fun e w2 => e = .returned (.int .u64 y) ∧ w' = w2))
    (VA : Hid (∀ w' : World, Tab w' → Tab10 w' → Calls Tryz.prog 24 #[.agg #[.int .i64 97, .bool false, .bool pl, .bool bl, .bool true, .bool al, .int .i64 wd, .int .i64 pr], .int .u64 y] w' fun e w2 => e = .returned (.string BO) ∧ Below w'.heap.size w' w2))
    (HV : Hid (∀ w' : World, Calls Tryz.prog 27 #[.int .u64 x] w' fun e w2 => e = .returned (.bool true) ∧ w' = w2))
    (RP : Hid (∀ X (w' : World), X = (n : Int) → Calls Tryz.prog 26 #[.string ⟨#[48]⟩, .int .i64 X] w' fun e w2 => e = .returned (.string PA) ∧ Below w'.heap.size w' w2)) :
    Calls Tryz.prog 9 #[.agg #[.int .i64 97, .bool false, .bool pl, .bool bl, .bool true, .bool al, .int .i64 wd, .int .i64 pr], .int .u64 x] w fun e w' => e = .returned (.tuple #[.string ((HD ++ ⟨#[48, 120]⟩) ++ PA ++ BO.extract 2 bs), .int .i64 0]) ∧ Below w.heap.size w w' := by
  have HT := Lib.hid hT
  have H10 := Lib.hid hT10
  clear hT hT10
  have q1 : pr ≤ 100 := by omega
  go_enter Tryz.func9, Tryz.ntmps9
  go_wp2_with fail
  refine (SG.out _).mono ?_
  rintro e w3 ⟨rfl, hb⟩
  have X := Lib.hid ((Bx8.new w _ _ _ _ _ _ _ _ _).below hb)
  have B : Hid (Below w.heap.size w w3) := Lib.hid (bl_thru ((Below.refl w.heap.size w).alloc (Nat.le_refl _) _) (Nat.le_refl _) hb)
  replace HT := Lib.hid (HT.out.below B.out)
  replace H10 := Lib.hid (H10.out.below B.out)
  clear hb
  obtain ⟨c0, c1, c2, c3, c4, c5, c6, c7⟩ := X.out.cells
  go_wp2_with (go_at_call 8; refine (CL.out _).mono ?_; rintro e w9 ⟨rfl, rfl⟩)
  go_region_held3 (fun w' => w'.cell? ⟨w.heap.size, 0, none⟩ = some (.int .i64 97) ∧ w'.cell? ⟨w.heap.size, 1, none⟩ = some (.bool false) ∧ w'.cell? ⟨w.heap.size, 2, none⟩ = some (.bool pl) ∧ w'.cell? ⟨w.heap.size, 3, none⟩ = some (.bool bl) ∧ w'.cell? ⟨w.heap.size, 4, none⟩ = some (.bool true) ∧ w'.cell? ⟨w.heap.size, 5, none⟩ = some (.bool al) ∧ w'.cell? ⟨w.heap.size, 6, none⟩ = some (.int .i64 wd) ∧ w'.cell? ⟨w.heap.size, 7, none⟩ = some (.int .i64 pr))
    (first
      | exact ⟨c0, c1, c2, c3, c4, c5, c6, c7⟩
      | exact X.out.cells
      | (go_keep; done))
    (first
      | (go_at_call 25; refine (AB.out _).mono ?_; rintro e w9 ⟨rfl, rfl⟩)
      | (go_at_call 24; refine (VA.out _ (by exact HT.out) (by exact H10.out)).mono ?_; rintro e w9 ⟨rfl, hb⟩; replace X := Lib.hid (Bx8.below' X.out hb rfl); replace B : Hid (Below w.heap.size w w9) := Lib.hid (bl_thru (by first | exact B.out | exact below_to_drewN (n := 1) B.out) (Nat.le_refl _) hb); clear hb))
  clear c0 c1 c2 c3 c4 c5 c6 c7
  obtain ⟨c0, c1, c2, c3, c4, c5, c6, c7⟩ := X.out.cells
  go_wp2_with (first
    | (go_at_call 26; refine (RP.out _ _ (by first | exact hn.out.1 | (have := hn.out.1; omega))).mono ?_; rintro e w9 ⟨rfl, hb⟩; replace B := Lib.hid (bl_thru B.out (Nat.le_refl _) hb); clear hb)
    | (go_at_call 27; refine (HV.out _).mono ?_; rintro e w9 ⟨rfl, rfl⟩))
  all_goals try (exfalso; omega)
  go_quiet (fail)
  replace B := Lib.hid (below_to_drewN (n := nq) B.out)
  replace X : Hid (Bx8 _ _ _ _ _ _ _ _ _ _ _) := X
  go_wp2_with (first
    | (go_at_call 26; refine (RP.out _ _ (by first | exact hn.out.1 | (have := hn.out.1; omega))).mono ?_; rintro e w9 ⟨rfl, hb⟩; replace B := Lib.hid (bl_thru B.out (Nat.le_refl _) hb); clear hb)
    | (go_at_call 27; refine (HV.out _).mono ?_; rintro e w9 ⟨rfl, rfl⟩))
  all_goals first
    | (go_ret2; exact ⟨rfl, B.out⟩; done)
    | (exfalso; omega)
    | (exfalso; simp_all; done)
    | trace_state
end Go.Proofs.YtofdjfdnckmmmaaGreatDoor
