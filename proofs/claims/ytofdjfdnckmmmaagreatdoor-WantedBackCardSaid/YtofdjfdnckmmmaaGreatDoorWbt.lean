/-
  THE WALK of ulpkeep.WantedBack.
-/
import Derived.Test.YtofdjfdnckmmmaaGreatDoorWls
import Derived.Test.YtofdjfdnckmmmaaGreatDoorZu
set_option linter.unusedVariables false
set_option linter.unusedSimpArgs false
namespace Go.Proofs.YtofdjfdnckmmmaaGreatDoor
open Go.RowKit Go.Lib Nt Fm Fl

set_option maxRecDepth 100000 in
set_option maxHeartbeats 8000000 in
theorem wback_t (v : Int) (mi p0 b0 ze al : Bool) (d0 pr x Y E c e3 : Int) (cc : Bool) (c0 : 0 ≤ c) (c5 : c ≤ 5) (S : ByteArray) (w : World) (hT : Tab w) (hT10 : Tab10 w)
    (F1 : Hid (∀ w' : World, Tab w' → Tab10 w' → Calls Tryz.prog 9 #[.agg #[.int .i64 v, .bool mi, .bool false, .bool false, .bool ze, .bool al, .int .i64 0, .int .i64 pr], .int .u64 x] w' fun e w2 => e = .returned (.tuple #[.string S, .int .i64 E]) ∧ Below w'.heap.size w' w2))
    (CL : Hid (∀ w' : World, Calls Tryz.prog 8 #[.int .u64 x] w' fun e w2 => e = .returned (.int .i64 c) ∧ w' = w2))
    (RN : Hid (∀ w' : World, Tab w' → Calls Tryz.prog 10 #[.string S, .int .i64 0] w' fun e w2 => e = .returned (.tuple #[.int .u64 Y, .bool cc, .int .i64 e3]) ∧ Below w'.heap.size w' w2))
    (hc : (v ≠ 101 ∧ v ≠ 103) ∨ ((v = 101 ∨ v = 103) ∧ (pr < 17 ∨ (17 ≤ pr ∧ (4 ≤ c ∨ (c < 4 ∧ (E = 1 ∨ (E = 0 ∧ Y = x ∧ e3 = 0)))))))) :
    Calls Tryz.prog 3 #[.agg #[.int .i64 v, .bool mi, .bool p0, .bool b0, .bool ze, .bool al, .int .i64 d0, .int .i64 pr], .int .u64 x] w fun e w' => e = .returned (.bool true) ∧ Below w.heap.size w w' := by
  have LI := Lib.hid (fun w' h1 h2 => wantedLives_any w' h1 h2)
  have HT := Lib.hid hT
  have H10 := Lib.hid hT10
  clear hT hT10
  rcases hc with ⟨v1, v2⟩ | ⟨v1, hc⟩
  · have B : Hid (Below w.heap.size w w) := Lib.hid (Below.refl _ _)
    go_enter Tryz.func3, Tryz.ntmps3
    go_wp2_with fail
    refine (LI.out _ (tab_al HT.out) (t10_al H10.out)).mono ?_
    rintro e w3 ⟨rfl, hb⟩
    have X := Lib.hid ((Bx8.new w _ _ _ _ _ _ _ _ _).below hb)
    replace B : Hid (Below w.heap.size w w3) := Lib.hid (bl_thru ((Below.refl w.heap.size w).alloc (Nat.le_refl _) _) (Nat.le_refl _) hb)
    clear hb
    obtain ⟨c0', c1, c2, c3, c4, c5', c6, c7⟩ := X.out.cells
    go_wp2_with (go_at_call 7; refine (LI.out _ (HT.out.below B.out) (H10.out.below B.out)).mono ?_; rintro e w9 ⟨rfl, hb⟩; replace B : Hid (Below w.heap.size w w9) := Lib.hid (bl_thru B.out (Nat.le_refl _) hb); clear hb)
    all_goals first
      | (go_ret; exact ⟨rfl, B.out⟩; done)
      | (exfalso; omega)
      | trace_state
  · rcases v1 with rfl | rfl
    all_goals rcases hc with hp | ⟨hp, hcc | ⟨hcc, rfl | ⟨rfl, rfl, rfl⟩⟩⟩
    all_goals
      have B : Hid (Below w.heap.size w w) := Lib.hid (Below.refl _ _)
      go_enter Tryz.func3, Tryz.ntmps3
      go_wp2_with fail
      refine (LI.out _ (tab_al HT.out) (t10_al H10.out)).mono ?_
      rintro e w3 ⟨rfl, hb⟩
      have X := Lib.hid ((Bx8.new w _ _ _ _ _ _ _ _ _).below hb)
      replace B : Hid (Below w.heap.size w w3) := Lib.hid (bl_thru ((Below.refl w.heap.size w).alloc (Nat.le_refl _) _) (Nat.le_refl _) hb)
      clear hb
      obtain ⟨c0', c1, c2, c3, c4, c5', c6, c7⟩ := X.out.cells
      go_wp2_with (first
        | (go_at_call 7; refine (LI.out _ (HT.out.below B.out) (H10.out.below B.out)).mono ?_; rintro e w9 ⟨rfl, hb⟩; replace B : Hid (Below w.heap.size w w9) := Lib.hid (bl_thru B.out (Nat.le_refl _) hb); clear hb)
        | (go_at_call 9; refine (F1.out _ (HT.out.below B.out) (H10.out.below B.out)).mono ?_; rintro e w9 ⟨rfl, hb⟩; replace B : Hid (Below w.heap.size w w9) := Lib.hid (bl_thru B.out (Nat.le_refl _) hb); clear hb)
        | (go_at_call 10; refine (RN.out _ (HT.out.below B.out)).mono ?_; rintro e w9 ⟨rfl, hb⟩; replace B : Hid (Below w.heap.size w w9) := Lib.hid (bl_thru B.out (Nat.le_refl _) hb); clear hb)
        | (go_at_call 8; refine (CL.out _).mono ?_; rintro e w9 ⟨rfl, rfl⟩))
      all_goals first
        | (go_ret; exact ⟨rfl, B.out⟩; done)
        | (exfalso; omega)
        | trace_state
end Go.Proofs.YtofdjfdnckmmmaaGreatDoor
