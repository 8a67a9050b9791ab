/-
  THE WALKS of coin.Below, Part, Laplace; ulpkeep.coinLives.
-/
import Derived.Test.YtmpdbmaokbhcjaaDoorKs
import Derived.Test.YtmpdbmaokbhcjaaDoorBa
set_option linter.unusedVariables false
set_option linter.unusedSimpArgs false
namespace Go.Proofs.YtmpdbmaokbhcjaaDoor
open Go.RowKit Kn

theorem bo_new (w : World) (v : Value) : Bo (w.alloc (.cells #[v] 3)) w.heap.size v := heap_alloc_new w _
theorem bo_new2 (w : World) (o : Obj) (v : Value) : Bo ((w.alloc o).alloc (.cells #[v] 3)) (w.heap.size + 1) v := by
  have h := bo_new (w.alloc o) v
  rw [show (w.alloc o).heap.size = w.heap.size + 1 from by simp] at h; exact h
def inN (n : Int) : Bool := decide (1 ≤ n) && decide (n ≤ 1000000)
theorem inN_iff {n : Int} (h : inN n = true) : 1 ≤ n ∧ n ≤ 1000000 := by unfold inN at h; simpa using h
theorem smB_iff {a b : Int} (h : smB a b = true) : (1 ≤ a ∧ a ≤ 1000) ∧ 1 ≤ b ∧ b ≤ 1000 := by unfold smB at h; simpa using h
def belT (n : Int) (s : ByteArray) (i : Int) : Nat × Int × Int := smp 0 s i (inN n) (belowP n.toNat)
def lapT (a b : Int) (s : ByteArray) (i : Int) : Int × Int × Int := smp 0 s i (smB a b) (lapP a.toNat b.toNat)
def parOk (a b : Int) : Bool := (decide (1 ≤ b) && decide (b ≤ 1000000)) && (decide (0 ≤ a) && decide (a ≤ b))
def parT (a b : Int) (s : ByteArray) (i : Int) : Bool × Int × Int := smp false s i (parOk a b) (partP a.toNat b.toNat)
set_option maxHeartbeats 4000000 in
theorem bel_any (n : Int) (s : ByteArray) (i : Int) (w : World) :
    Calls Tryd.prog 62 #[.int .i64 n, .string s, .int .i64 i] w fun e w' => e = .returned (.tuple #[.int .i64 (((belT n s i).1 : Nat) : Int), .int .i64 (belT n s i).2.1, .int .i64 (belT n s i).2.2]) ∧ Below w.heap.size w w' := by
  have SA := Lib.hid (sampleB_any w.heap.size s i (inN n) n (w.alloc (.cells #[.int .i64 n] 3)) (bo_new w _) inN_iff)
  have WI := Lib.hid (fun w' => within_any n 1 1000000 w')
  have e : (decide (1 ≤ n) && decide (n ≤ 1000000)) = inN n := rfl
  rw [e] at WI
  have B0 := Lib.hid ((Below.refl w.heap.size w).alloc (Nat.le_refl _) (.cells #[.int .i64 n] 3))
  have e2 : smp 0 s i (inN n) (belowP n.toNat) = belT n s i := rfl
  rw [e2] at SA
  clear e e2
  generalize inN n = ok at *
  generalize belT n s i = R at *
  go_enter Tryd.func62, Tryd.ntmps62
  go_wp2_with (go_at_call 66; refine (WI.out _).mono ?_; rintro e w' ⟨rfl, rfl⟩)
  refine SA.out.mono ?_
  rintro e w1 ⟨rfl, hb⟩
  have B1 := Lib.hid (bl_thru' B0.out B0.out.size hb)
  clear hb
  go_wp2
  go_ret3
  exact ⟨rfl, B1.out⟩
set_option maxHeartbeats 4000000 in
theorem lap_any (a b : Int) (s : ByteArray) (i : Int) (w : World) :
    Calls Tryd.prog 64 #[.int .i64 a, .int .i64 b, .string s, .int .i64 i] w fun e w' => e = .returned (.tuple #[.int .i64 (lapT a b s i).1, .int .i64 (lapT a b s i).2.1, .int .i64 (lapT a b s i).2.2]) ∧ Below w.heap.size w w' := by
  have SA := Lib.hid (sampleL_any w.heap.size (w.heap.size + 1) s i (smB a b) a b ((w.alloc (.cells #[.int .i64 a] 3)).alloc (.cells #[.int .i64 b] 3)) ((bo_new w _).below (by go_grown)) (bo_new2 w _ _) smB_iff)
  have WI := Lib.hid (fun w' => csmall_any a b w')
  have B0 := Lib.hid (show Below w.heap.size w ((w.alloc (.cells #[.int .i64 a] 3)).alloc (.cells #[.int .i64 b] 3)) by go_grown)
  have e2 : smp 0 s i (smB a b) (lapP a.toNat b.toNat) = lapT a b s i := rfl
  rw [e2] at SA
  clear e2
  generalize smB a b = ok at *
  generalize lapT a b s i = R at *
  go_enter Tryd.func64, Tryd.ntmps64
  go_wp2_with (go_at_call 102; refine (WI.out _).mono ?_; rintro e w' ⟨rfl, rfl⟩)
  refine SA.out.mono ?_
  rintro e w1 ⟨rfl, hb⟩
  have B1 := Lib.hid (bl_thru' B0.out B0.out.size hb)
  clear hb
  go_wp2
  go_ret3
  exact ⟨rfl, B1.out⟩
set_option maxHeartbeats 4000000 in
theorem par_any (a b : Int) (s : ByteArray) (i : Int) (w : World) :
    Calls Tryd.prog 63 #[.int .i64 a, .int .i64 b, .string s, .int .i64 i] w fun e w' => e = .returned (.tuple #[.bool (parT a b s i).1, .int .i64 (parT a b s i).2.1, .int .i64 (parT a b s i).2.2]) ∧ Below w.heap.size w w' := by
  have SA := Lib.hid (sampleP_any w.heap.size (w.heap.size + 1) s i (parOk a b) a b ((w.alloc (.cells #[.int .i64 a] 3)).alloc (.cells #[.int .i64 b] 3)) ((bo_new w _).below (by go_grown)) (bo_new2 w _ _) (fun h => by unfold parOk at h; simp at h; omega))
  have W1 := Lib.hid (fun w' => within_any b 1 1000000 w')
  have W2 := Lib.hid (fun w' => within_any a 0 b w')
  have B0 := Lib.hid (show Below w.heap.size w ((w.alloc (.cells #[.int .i64 a] 3)).alloc (.cells #[.int .i64 b] 3)) by go_grown)
  have e2 : smp false s i (parOk a b) (partP a.toNat b.toNat) = parT a b s i := rfl
  rw [e2] at SA
  have hc : ((decide (1 ≤ b) && decide (b ≤ 1000000)) = false ∧ parOk a b = false) ∨ ((decide (1 ≤ b) && decide (b ≤ 1000000)) = true ∧ parOk a b = (decide (0 ≤ a) && decide (a ≤ b))) := by
    unfold parOk; cases (decide (1 ≤ b) && decide (b ≤ 1000000)) <;> simp
  clear e2
  generalize parT a b s i = R at *
  generalize parOk a b = ok at *
  generalize (decide (1 ≤ b) && decide (b ≤ 1000000)) = p at *
  generalize (decide (0 ≤ a) && decide (a ≤ b)) = q at *
  rcases hc with ⟨rfl, rfl⟩ | ⟨rfl, rfl⟩
  all_goals
    go_enter Tryd.func63, Tryd.ntmps63
    go_wp2_with (go_at_call 66; first | ((with_reducible refine (W1.out _).mono ?_); rintro e w' ⟨rfl, rfl⟩) | ((with_reducible refine (W2.out _).mono ?_); rintro e w' ⟨rfl, rfl⟩))
    refine SA.out.mono ?_
    rintro e w1 ⟨rfl, hb⟩
    have B1 := Lib.hid (bl_thru' B0.out B0.out.size hb)
    clear hb
    go_wp2
    go_ret3
    exact ⟨rfl, B1.out⟩
theorem lives_facts : belT 5 ⟨#[232]⟩ 0 = (2, 6, 0) ∧ parT 3 8 ⟨#[64]⟩ 0 = (true, 3, 0) ∧ lapT 1 1 ⟨#[56]⟩ 0 = (-1, 5, 0) ∧ belT 5 ⟨#[255]⟩ 0 = (0, 0, 4) := by
  decide +kernel
set_option maxHeartbeats 4000000 in
theorem coinLives_any (w : World) : Calls Tryd.prog 24 #[] w fun e w' => e = .returned (.bool true) ∧ Below w.heap.size w w' := by
  obtain ⟨f1, f2, f3, f4⟩ := lives_facts
  have H1 := Lib.hid (fun w' => bel_any 5 ⟨#[232]⟩ 0 w')
  have H2 := Lib.hid (fun w' => par_any 3 8 ⟨#[64]⟩ 0 w')
  have H3 := Lib.hid (fun w' => lap_any 1 1 ⟨#[56]⟩ 0 w')
  have H4 := Lib.hid (fun w' => bel_any 5 ⟨#[255]⟩ 0 w')
  rw [f1] at H1
  rw [f2] at H2
  rw [f3] at H3
  rw [f4] at H4
  clear f1 f2 f3 f4
  go_enter Tryd.func24, Tryd.ntmps24
  go_wp2_with fail
  refine (H1.out _).mono ?_
  rintro e w1 ⟨rfl, hb⟩
  have B1 := Lib.hid hb
  clear hb
  go_wp2_with fail
  refine (H2.out _).mono ?_
  rintro e w2 ⟨rfl, hb⟩
  have B2 := Lib.hid (bl_thru' B1.out B1.out.size hb)
  clear hb
  go_wp2_with fail
  refine (H3.out _).mono ?_
  rintro e w3 ⟨rfl, hb⟩
  have B3 := Lib.hid (bl_thru' B2.out B2.out.size hb)
  clear hb
  go_wp2_with fail
  refine (H4.out _).mono ?_
  rintro e w4 ⟨rfl, hb⟩
  have B4 := Lib.hid (bl_thru' B3.out B3.out.size hb)
  clear hb
  have b4 := B4.out.size
  go_wp2_with (go_at_call 18; refine (ok_new3 _ _ _ _ _ rfl).mono ?_; rintro e w' ⟨rfl, rfl⟩)
  go_ret
  exact ⟨rfl, B4.out.alloc b4 _⟩
end Go.Proofs.YtmpdbmaokbhcjaaDoor
