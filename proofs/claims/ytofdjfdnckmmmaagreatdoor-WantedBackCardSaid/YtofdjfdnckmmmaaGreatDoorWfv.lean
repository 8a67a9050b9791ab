/-
  THE WALK of wanted.value.
-/
import Derived.Test.YtofdjfdnckmmmaaGreatDoorWfw
import Derived.Test.YtofdjfdnckmmmaaGreatDoorHf
set_option linter.unusedVariables false
set_option linter.unusedSimpArgs false
namespace Go.Proofs.YtofdjfdnckmmmaaGreatDoor
open Go.RowKit Nt Fm Fl

set_option maxRecDepth 100000 in
set_option maxHeartbeats 4000000 in
theorem wv_fan (mi pl bl ze : Bool) (wd pr : Int) (hp : pr < 0) (hp2 : pr ≤ 1000) (hp3 : -1000 ≤ pr) (x : Int) (S : ByteArray) (c2 : Bool) (e1 : Int)  (w : World) (hT : Tab w) (hT10 : Tab10 w)
    (BD : Hid (∀ w' : World, Tab w' → Tab10 w' → Calls Tryz.prog 48 #[.int .u64 x, .int .i64 6, .int .i64 0] w' fun e w2 => e = .returned (.tuple #[.string S, .bool c2, .int .i64 e1]) ∧ Below w'.heap.size w' w2)) :
    Calls Tryz.prog 24 #[.agg #[.int .i64 102, .bool mi, .bool pl, .bool bl, .bool ze, .bool false, .int .i64 wd, .int .i64 pr], .int .u64 x] w fun e w' => e = .returned (.string (S)) ∧ Below w.heap.size w w' := by
  have HT := Lib.hid hT
  have H10 := Lib.hid hT10
  clear hT hT10
  go_enter Tryz.func24, Tryz.ntmps24
  go_wp2_with fail
  refine (BD.out _ (HT.out.alloc _) (H10.out.below ((Below.refl _ _).alloc (Nat.le_refl _) _))).mono ?_
  rintro e w1 ⟨rfl, hb⟩
  have X := Lib.hid ((Bx8.new w _ _ _ _ _ _ _ _ _).below hb)
  have B : Hid (Below w.heap.size w w1) := Lib.hid (bl_thru ((Below.refl w.heap.size w).alloc (Nat.le_refl _) _) (Nat.le_refl _) hb)
  clear hb
  obtain ⟨z10, z11, z12, z13, z14, z15, z16, z17⟩ := X.out.cells
  clear z11 z12 z13 z14 z16
  go_wp2
  go_ret
  exact ⟨rfl, B.out⟩
set_option maxRecDepth 100000 in
set_option maxHeartbeats 4000000 in
theorem wv_fad (mi pl bl ze : Bool) (wd pr : Int) (hp : pr < 0) (hp2 : pr ≤ 1000) (hp3 : -1000 ≤ pr) (x : Int) (S : ByteArray) (c2 : Bool) (e1 : Int)  (w : World) (hT : Tab w) (hT10 : Tab10 w)
    (BD : Hid (∀ w' : World, Tab w' → Tab10 w' → Calls Tryz.prog 48 #[.int .u64 x, .int .i64 6, .int .i64 0] w' fun e w2 => e = .returned (.tuple #[.string S, .bool c2, .int .i64 e1]) ∧ Below w'.heap.size w' w2))
    (CT : Hid (∀ w' : World, Calls Tryz.prog 53 #[.string S, .string ⟨#[46]⟩] w' fun e w2 => e = .returned (.bool true) ∧ w2 = w')) :
    Calls Tryz.prog 24 #[.agg #[.int .i64 102, .bool mi, .bool pl, .bool bl, .bool ze, .bool true, .int .i64 wd, .int .i64 pr], .int .u64 x] w fun e w' => e = .returned (.string (S)) ∧ Below w.heap.size w w' := by
  have HT := Lib.hid hT
  have H10 := Lib.hid hT10
  clear hT hT10
  go_enter Tryz.func24, Tryz.ntmps24
  go_wp2_with fail
  refine (BD.out _ (HT.out.alloc _) (H10.out.below ((Below.refl _ _).alloc (Nat.le_refl _) _))).mono ?_
  rintro e w1 ⟨rfl, hb⟩
  have X := Lib.hid ((Bx8.new w _ _ _ _ _ _ _ _ _).below hb)
  have B : Hid (Below w.heap.size w w1) := Lib.hid (bl_thru ((Below.refl w.heap.size w).alloc (Nat.le_refl _) _) (Nat.le_refl _) hb)
  clear hb
  obtain ⟨z10, z11, z12, z13, z14, z15, z16, z17⟩ := X.out.cells
  clear z11 z12 z13 z14 z16
  go_wp2_with (first
    | (go_at_call 53; refine (CT.out _).mono ?_; rintro e w2 ⟨rfl, rfl⟩))
  all_goals first
    | (go_ret; exact ⟨rfl, B.out⟩; done)
    | (exfalso; omega)
    | (exfalso; simp_all; done)
    | trace_state
set_option maxRecDepth 100000 in
set_option maxHeartbeats 4000000 in
theorem wv_fah (mi pl bl ze : Bool) (wd pr : Int) (hp : pr < 0) (hp2 : pr ≤ 1000) (hp3 : -1000 ≤ pr) (x : Int) (S : ByteArray) (c2 : Bool) (e1 : Int) (k n : Nat) (hk : k < n) (zn : n ≤ 10000) (zS : S.size = n) (w : World) (hT : Tab w) (hT10 : Tab10 w)
    (BD : Hid (∀ w' : World, Tab w' → Tab10 w' → Calls Tryz.prog 48 #[.int .u64 x, .int .i64 6, .int .i64 0] w' fun e w2 => e = .returned (.tuple #[.string S, .bool c2, .int .i64 e1]) ∧ Below w'.heap.size w' w2))
    (CT : Hid (∀ w' : World, Calls Tryz.prog 53 #[.string S, .string ⟨#[46]⟩] w' fun e w2 => e = .returned (.bool false) ∧ w2 = w'))
    (IX : Hid (∀ w' : World, Calls Tryz.prog 47 #[.string S, .int .u8 101] w' fun e w2 => e = .returned (.int .i64 ((k : Nat) : Int)) ∧ w2 = w')) :
    Calls Tryz.prog 24 #[.agg #[.int .i64 102, .bool mi, .bool pl, .bool bl, .bool ze, .bool true, .int .i64 wd, .int .i64 pr], .int .u64 x] w fun e w' => e = .returned (.string (S.extract 0 k ++ ⟨#[46]⟩ ++ S.extract k n)) ∧ Below w.heap.size w w' := by
  have HT := Lib.hid hT
  have H10 := Lib.hid hT10
  clear hT hT10
  have z1 : (S.extract 0 k).size = k := by rw [ByteArray.size_extract]; omega
  have z2 : (S.extract k n).size ≤ 10000 := by rw [ByteArray.size_extract]; omega
  go_enter Tryz.func24, Tryz.ntmps24
  go_wp2_with fail
  refine (BD.out _ (HT.out.alloc _) (H10.out.below ((Below.refl _ _).alloc (Nat.le_refl _) _))).mono ?_
  rintro e w1 ⟨rfl, hb⟩
  have X := Lib.hid ((Bx8.new w _ _ _ _ _ _ _ _ _).below hb)
  have B : Hid (Below w.heap.size w w1) := Lib.hid (bl_thru ((Below.refl w.heap.size w).alloc (Nat.le_refl _) _) (Nat.le_refl _) hb)
  clear hb
  obtain ⟨z10, z11, z12, z13, z14, z15, z16, z17⟩ := X.out.cells
  clear z11 z12 z13 z14 z16
  go_wp2_with (first
    | (go_at_call 53; refine (CT.out _).mono ?_; rintro e w2 ⟨rfl, rfl⟩)
    | (go_at_call 47; refine (IX.out _).mono ?_; rintro e w2 ⟨rfl, rfl⟩))
  all_goals try (exfalso; omega)
  go_quiet (fail)
  replace B := Lib.hid (below_to_drewN (n := nq) B.out)
  go_wp2
  all_goals first
    | (go_ret; exact ⟨rfl, B.out⟩; done)
    | (exfalso; omega)
    | (exfalso; simp_all; done)
    | trace_state
set_option maxRecDepth 100000 in
set_option maxHeartbeats 4000000 in
theorem wv_fam (mi pl bl ze : Bool) (wd pr : Int) (hp : pr < 0) (hp2 : pr ≤ 1000) (hp3 : -1000 ≤ pr) (x : Int) (S : ByteArray) (c2 : Bool) (e1 : Int) (n : Nat) (zn : n ≤ 10000) (zS : S.size = n) (w : World) (hT : Tab w) (hT10 : Tab10 w)
    (BD : Hid (∀ w' : World, Tab w' → Tab10 w' → Calls Tryz.prog 48 #[.int .u64 x, .int .i64 6, .int .i64 0] w' fun e w2 => e = .returned (.tuple #[.string S, .bool c2, .int .i64 e1]) ∧ Below w'.heap.size w' w2))
    (CT : Hid (∀ w' : World, Calls Tryz.prog 53 #[.string S, .string ⟨#[46]⟩] w' fun e w2 => e = .returned (.bool false) ∧ w2 = w'))
    (IX : Hid (∀ w' : World, Calls Tryz.prog 47 #[.string S, .int .u8 101] w' fun e w2 => e = .returned (.int .i64 (-1)) ∧ w2 = w')) :
    Calls Tryz.prog 24 #[.agg #[.int .i64 102, .bool mi, .bool pl, .bool bl, .bool ze, .bool true, .int .i64 wd, .int .i64 pr], .int .u64 x] w fun e w' => e = .returned (.string (S.extract 0 n ++ ⟨#[46]⟩)) ∧ Below w.heap.size w w' := by
  have HT := Lib.hid hT
  have H10 := Lib.hid hT10
  clear hT hT10
  go_enter Tryz.func24, Tryz.ntmps24
  go_wp2_with fail
  refine (BD.out _ (HT.out.alloc _) (H10.out.below ((Below.refl _ _).alloc (Nat.le_refl _) _))).mono ?_
  rintro e w1 ⟨rfl, hb⟩
  have X := Lib.hid ((Bx8.new w _ _ _ _ _ _ _ _ _).below hb)
  have B : Hid (Below w.heap.size w w1) := Lib.hid (bl_thru ((Below.refl w.heap.size w).alloc (Nat.le_refl _) _) (Nat.le_refl _) hb)
  clear hb
  obtain ⟨z10, z11, z12, z13, z14, z15, z16, z17⟩ := X.out.cells
  clear z11 z12 z13 z14 z16
  go_wp2_with (first
    | (go_at_call 53; refine (CT.out _).mono ?_; rintro e w2 ⟨rfl, rfl⟩)
    | (go_at_call 47; refine (IX.out _).mono ?_; rintro e w2 ⟨rfl, rfl⟩))
  all_goals try (exfalso; omega)
  go_quiet (fail)
  replace B := Lib.hid (below_to_drewN (n := nq) B.out)
  go_wp2
  all_goals first
    | (go_ret; exact ⟨rfl, B.out⟩; done)
    | (exfalso; omega)
    | (exfalso; simp_all; done)
    | trace_state
set_option maxRecDepth 100000 in
set_option maxHeartbeats 4000000 in
theorem wv_fbn (mi pl bl ze : Bool) (wd pr : Int) (hp : 0 ≤ pr) (hp2 : pr ≤ 1000) (hp3 : -1000 ≤ pr) (x : Int) (S : ByteArray) (c2 : Bool) (e1 : Int)  (w : World) (hT : Tab w) (hT10 : Tab10 w)
    (BD : Hid (∀ w' : World, Tab w' → Tab10 w' → Calls Tryz.prog 48 #[.int .u64 x, .int .i64 pr, .int .i64 0] w' fun e w2 => e = .returned (.tuple #[.string S, .bool c2, .int .i64 e1]) ∧ Below w'.heap.size w' w2)) :
    Calls Tryz.prog 24 #[.agg #[.int .i64 102, .bool mi, .bool pl, .bool bl, .bool ze, .bool false, .int .i64 wd, .int .i64 pr], .int .u64 x] w fun e w' => e = .returned (.string (S)) ∧ Below w.heap.size w w' := by
  have HT := Lib.hid hT
  have H10 := Lib.hid hT10
  clear hT hT10
  go_enter Tryz.func24, Tryz.ntmps24
  go_wp2_with fail
  refine (BD.out _ (HT.out.alloc _) (H10.out.below ((Below.refl _ _).alloc (Nat.le_refl _) _))).mono ?_
  rintro e w1 ⟨rfl, hb⟩
  have X := Lib.hid ((Bx8.new w _ _ _ _ _ _ _ _ _).below hb)
  have B : Hid (Below w.heap.size w w1) := Lib.hid (bl_thru ((Below.refl w.heap.size w).alloc (Nat.le_refl _) _) (Nat.le_refl _) hb)
  clear hb
  obtain ⟨z10, z11, z12, z13, z14, z15, z16, z17⟩ := X.out.cells
  clear z11 z12 z13 z14 z16
  go_wp2
  go_ret
  exact ⟨rfl, B.out⟩
set_option maxRecDepth 100000 in
set_option maxHeartbeats 4000000 in
theorem wv_fbd (mi pl bl ze : Bool) (wd pr : Int) (hp : 0 ≤ pr) (hp2 : pr ≤ 1000) (hp3 : -1000 ≤ pr) (x : Int) (S : ByteArray) (c2 : Bool) (e1 : Int)  (w : World) (hT : Tab w) (hT10 : Tab10 w)
    (BD : Hid (∀ w' : World, Tab w' → Tab10 w' → Calls Tryz.prog 48 #[.int .u64 x, .int .i64 pr, .int .i64 0] w' fun e w2 => e = .returned (.tuple #[.string S, .bool c2, .int .i64 e1]) ∧ Below w'.heap.size w' w2))
    (CT : Hid (∀ w' : World, Calls Tryz.prog 53 #[.string S, .string ⟨#[46]⟩] w' fun e w2 => e = .returned (.bool true) ∧ w2 = w')) :
    Calls Tryz.prog 24 #[.agg #[.int .i64 102, .bool mi, .bool pl, .bool bl, .bool ze, .bool true, .int .i64 wd, .int .i64 pr], .int .u64 x] w fun e w' => e = .returned (.string (S)) ∧ Below w.heap.size w w' := by
  have HT := Lib.hid hT
  have H10 := Lib.hid hT10
  clear hT hT10
  go_enter Tryz.func24, Tryz.ntmps24
  go_wp2_with fail
  refine (BD.out _ (HT.out.alloc _) (H10.out.below ((Below.refl _ _).alloc (Nat.le_refl _) _))).mono ?_
  rintro e w1 ⟨rfl, hb⟩
  have X := Lib.hid ((Bx8.new w _ _ _ _ _ _ _ _ _).below hb)
  have B : Hid (Below w.heap.size w w1) := Lib.hid (bl_thru ((Below.refl w.heap.size w).alloc (Nat.le_refl _) _) (Nat.le_refl _) hb)
  clear hb
  obtain ⟨z10, z11, z12, z13, z14, z15, z16, z17⟩ := X.out.cells
  clear z11 z12 z13 z14 z16
  go_wp2_with (first
    | (go_at_call 53; refine (CT.out _).mono ?_; rintro e w2 ⟨rfl, rfl⟩))
  all_goals first
    | (go_ret; exact ⟨rfl, B.out⟩; done)
    | (exfalso; omega)
    | (exfalso; simp_all; done)
    | trace_state
set_option maxRecDepth 100000 in
set_option maxHeartbeats 4000000 in
theorem wv_fbh (mi pl bl ze : Bool) (wd pr : Int) (hp : 0 ≤ pr) (hp2 : pr ≤ 1000) (hp3 : -1000 ≤ pr) (x : Int) (S : ByteArray) (c2 : Bool) (e1 : Int) (k n : Nat) (hk : k < n) (zn : n ≤ 10000) (zS : S.size = n) (w : World) (hT : Tab w) (hT10 : Tab10 w)
    (BD : Hid (∀ w' : World, Tab w' → Tab10 w' → Calls Tryz.prog 48 #[.int .u64 x, .int .i64 pr, .int .i64 0] w' fun e w2 => e = .returned (.tuple #[.string S, .bool c2, .int .i64 e1]) ∧ Below w'.heap.size w' w2))
    (CT : Hid (∀ w' : World, Calls Tryz.prog 53 #[.string S, .string ⟨#[46]⟩] w' fun e w2 => e = .returned (.bool false) ∧ w2 = w'))
    (IX : Hid (∀ w' : World, Calls Tryz.prog 47 #[.string S, .int .u8 101] w' fun e w2 => e = .returned (.int .i64 ((k : Nat) : Int)) ∧ w2 = w')) :
    Calls Tryz.prog 24 #[.agg #[.int .i64 102, .bool mi, .bool pl, .bool bl, .bool ze, .bool true, .int .i64 wd, .int .i64 pr], .int .u64 x] w fun e w' => e = .returned (.string (S.extract 0 k ++ ⟨#[46]⟩ ++ S.extract k n)) ∧ Below w.heap.size w w' := by
  have HT := Lib.hid hT
  have H10 := Lib.hid hT10
  clear hT hT10
  have z1 : (S.extract 0 k).size = k := by rw [ByteArray.size_extract]; omega
  have z2 : (S.extract k n).size ≤ 10000 := by rw [ByteArray.size_extract]; omega
  go_enter Tryz.func24, Tryz.ntmps24
  go_wp2_with fail
  refine (BD.out _ (HT.out.alloc _) (H10.out.below ((Below.refl _ _).alloc (Nat.le_refl _) _))).mono ?_
  rintro e w1 ⟨rfl, hb⟩
  have X := Lib.hid ((Bx8.new w _ _ _ _ _ _ _ _ _).below hb)
  have B : Hid (Below w.heap.size w w1) := Lib.hid (bl_thru ((Below.refl w.heap.size w).alloc (Nat.le_refl _) _) (Nat.le_refl _) hb)
  clear hb
  obtain ⟨z10, z11, z12, z13, z14, z15, z16, z17⟩ := X.out.cells
  clear z11 z12 z13 z14 z16
  go_wp2_with (first
    | (go_at_call 53; refine (CT.out _).mono ?_; rintro e w2 ⟨rfl, rfl⟩)
    | (go_at_call 47; refine (IX.out _).mono ?_; rintro e w2 ⟨rfl, rfl⟩))
  all_goals try (exfalso; omega)
  go_quiet (fail)
  replace B := Lib.hid (below_to_drewN (n := nq) B.out)
  go_wp2
  all_goals first
    | (go_ret; exact ⟨rfl, B.out⟩; done)
    | (exfalso; omega)
    | (exfalso; simp_all; done)
    | trace_state
set_option maxRecDepth 100000 in
set_option maxHeartbeats 4000000 in
theorem wv_fbm (mi pl bl ze : Bool) (wd pr : Int) (hp : 0 ≤ pr) (hp2 : pr ≤ 1000) (hp3 : -1000 ≤ pr) (x : Int) (S : ByteArray) (c2 : Bool) (e1 : Int) (n : Nat) (zn : n ≤ 10000) (zS : S.size = n) (w : World) (hT : Tab w) (hT10 : Tab10 w)
    (BD : Hid (∀ w' : World, Tab w' → Tab10 w' → Calls Tryz.prog 48 #[.int .u64 x, .int .i64 pr, .int .i64 0] w' fun e w2 => e = .returned (.tuple #[.string S, .bool c2, .int .i64 e1]) ∧ Below w'.heap.size w' w2))
    (CT : Hid (∀ w' : World, Calls Tryz.prog 53 #[.string S, .string ⟨#[46]⟩] w' fun e w2 => e = .returned (.bool false) ∧ w2 = w'))
    (IX : Hid (∀ w' : World, Calls Tryz.prog 47 #[.string S, .int .u8 101] w' fun e w2 => e = .returned (.int .i64 (-1)) ∧ w2 = w')) :
    Calls Tryz.prog 24 #[.agg #[.int .i64 102, .bool mi, .bool pl, .bool bl, .bool ze, .bool true, .int .i64 wd, .int .i64 pr], .int .u64 x] w fun e w' => e = .returned (.string (S.extract 0 n ++ ⟨#[46]⟩)) ∧ Below w.heap.size w w' := by
  have HT := Lib.hid hT
  have H10 := Lib.hid hT10
  clear hT hT10
  go_enter Tryz.func24, Tryz.ntmps24
  go_wp2_with fail
  refine (BD.out _ (HT.out.alloc _) (H10.out.below ((Below.refl _ _).alloc (Nat.le_refl _) _))).mono ?_
  rintro e w1 ⟨rfl, hb⟩
  have X := Lib.hid ((Bx8.new w _ _ _ _ _ _ _ _ _).below hb)
  have B : Hid (Below w.heap.size w w1) := Lib.hid (bl_thru ((Below.refl w.heap.size w).alloc (Nat.le_refl _) _) (Nat.le_refl _) hb)
  clear hb
  obtain ⟨z10, z11, z12, z13, z14, z15, z16, z17⟩ := X.out.cells
  clear z11 z12 z13 z14 z16
  go_wp2_with (first
    | (go_at_call 53; refine (CT.out _).mono ?_; rintro e w2 ⟨rfl, rfl⟩)
    | (go_at_call 47; refine (IX.out _).mono ?_; rintro e w2 ⟨rfl, rfl⟩))
  all_goals try (exfalso; omega)
  go_quiet (fail)
  replace B := Lib.hid (below_to_drewN (n := nq) B.out)
  go_wp2
  all_goals first
    | (go_ret; exact ⟨rfl, B.out⟩; done)
    | (exfalso; omega)
    | (exfalso; simp_all; done)
    | trace_state
set_option maxRecDepth 100000 in
set_option maxHeartbeats 4000000 in
theorem wv_ean (mi pl bl ze : Bool) (wd pr : Int) (hp : pr < 0) (hp2 : pr ≤ 1000) (hp3 : -1000 ≤ pr) (x : Int) (S : ByteArray) (c2 : Bool) (e1 : Int)  (w : World) (hT : Tab w) (hT10 : Tab10 w)
    (BD : Hid (∀ w' : World, Tab w' → Tab10 w' → Calls Tryz.prog 49 #[.int .u64 x, .int .i64 7, .int .i64 0] w' fun e w2 => e = .returned (.tuple #[.string S, .bool c2, .int .i64 e1]) ∧ Below w'.heap.size w' w2)) :
    Calls Tryz.prog 24 #[.agg #[.int .i64 101, .bool mi, .bool pl, .bool bl, .bool ze, .bool false, .int .i64 wd, .int .i64 pr], .int .u64 x] w fun e w' => e = .returned (.string (S)) ∧ Below w.heap.size w w' := by
  have HT := Lib.hid hT
  have H10 := Lib.hid hT10
  clear hT hT10
  go_enter Tryz.func24, Tryz.ntmps24
  go_wp2_with fail
  refine (BD.out _ (HT.out.alloc _) (H10.out.below ((Below.refl _ _).alloc (Nat.le_refl _) _))).mono ?_
  rintro e w1 ⟨rfl, hb⟩
  have X := Lib.hid ((Bx8.new w _ _ _ _ _ _ _ _ _).below hb)
  have B : Hid (Below w.heap.size w w1) := Lib.hid (bl_thru ((Below.refl w.heap.size w).alloc (Nat.le_refl _) _) (Nat.le_refl _) hb)
  clear hb
  obtain ⟨z10, z11, z12, z13, z14, z15, z16, z17⟩ := X.out.cells
  clear z11 z12 z13 z14 z16
  go_wp2
  go_ret
  exact ⟨rfl, B.out⟩
set_option maxRecDepth 100000 in
set_option maxHeartbeats 4000000 in
theorem wv_ead (mi pl bl ze : Bool) (wd pr : Int) (hp : pr < 0) (hp2 : pr ≤ 1000) (hp3 : -1000 ≤ pr) (x : Int) (S : ByteArray) (c2 : Bool) (e1 : Int)  (w : World) (hT : Tab w) (hT10 : Tab10 w)
    (BD : Hid (∀ w' : World, Tab w' → Tab10 w' → Calls Tryz.prog 49 #[.int .u64 x, .int .i64 7, .int .i64 0] w' fun e w2 => e = .returned (.tuple #[.string S, .bool c2, .int .i64 e1]) ∧ Below w'.heap.size w' w2))
    (CT : Hid (∀ w' : World, Calls Tryz.prog 53 #[.string S, .string ⟨#[46]⟩] w' fun e w2 => e = .returned (.bool true) ∧ w2 = w')) :
    Calls Tryz.prog 24 #[.agg #[.int .i64 101, .bool mi, .bool pl, .bool bl, .bool ze, .bool true, .int .i64 wd, .int .i64 pr], .int .u64 x] w fun e w' => e = .returned (.string (S)) ∧ Below w.heap.size w w' := by
  have HT := Lib.hid hT
  have H10 := Lib.hid hT10
  clear hT hT10
  go_enter Tryz.func24, Tryz.ntmps24
  go_wp2_with fail
  refine (BD.out _ (HT.out.alloc _) (H10.out.below ((Below.refl _ _).alloc (Nat.le_refl _) _))).mono ?_
  rintro e w1 ⟨rfl, hb⟩
  have X := Lib.hid ((Bx8.new w _ _ _ _ _ _ _ _ _).below hb)
  have B : Hid (Below w.heap.size w w1) := Lib.hid (bl_thru ((Below.refl w.heap.size w).alloc (Nat.le_refl _) _) (Nat.le_refl _) hb)
  clear hb
  obtain ⟨z10, z11, z12, z13, z14, z15, z16, z17⟩ := X.out.cells
  clear z11 z12 z13 z14 z16
  go_wp2_with (first
    | (go_at_call 53; refine (CT.out _).mono ?_; rintro e w2 ⟨rfl, rfl⟩))
  all_goals first
    | (go_ret; exact ⟨rfl, B.out⟩; done)
    | (exfalso; omega)
    | (exfalso; simp_all; done)
    | trace_state
set_option maxRecDepth 100000 in
set_option maxHeartbeats 4000000 in
theorem wv_eah (mi pl bl ze : Bool) (wd pr : Int) (hp : pr < 0) (hp2 : pr ≤ 1000) (hp3 : -1000 ≤ pr) (x : Int) (S : ByteArray) (c2 : Bool) (e1 : Int) (k n : Nat) (hk : k < n) (zn : n ≤ 10000) (zS : S.size = n) (w : World) (hT : Tab w) (hT10 : Tab10 w)
    (BD : Hid (∀ w' : World, Tab w' → Tab10 w' → Calls Tryz.prog 49 #[.int .u64 x, .int .i64 7, .int .i64 0] w' fun e w2 => e = .returned (.tuple #[.string S, .bool c2, .int .i64 e1]) ∧ Below w'.heap.size w' w2))
    (CT : Hid (∀ w' : World, Calls Tryz.prog 53 #[.string S, .string ⟨#[46]⟩] w' fun e w2 => e = .returned (.bool false) ∧ w2 = w'))
    (IX : Hid (∀ w' : World, Calls Tryz.prog 47 #[.string S, .int .u8 101] w' fun e w2 => e = .returned (.int .i64 ((k : Nat) : Int)) ∧ w2 = w')) :
    Calls Tryz.prog 24 #[.agg #[.int .i64 101, .bool mi, .bool pl, .bool bl, .bool ze, .bool true, .int .i64 wd, .int .i64 pr], .int .u64 x] w fun e w' => e = .returned (.string (S.extract 0 k ++ ⟨#[46]⟩ ++ S.extract k n)) ∧ Below w.heap.size w w' := by
  have HT := Lib.hid hT
  have H10 := Lib.hid hT10
  clear hT hT10
  have z1 : (S.extract 0 k).size = k := by rw [ByteArray.size_extract]; omega
  have z2 : (S.extract k n).size ≤ 10000 := by rw [ByteArray.size_extract]; omega
  go_enter Tryz.func24, Tryz.ntmps24
  go_wp2_with fail
  refine (BD.out _ (HT.out.alloc _) (H10.out.below ((Below.refl _ _).alloc (Nat.le_refl _) _))).mono ?_
  rintro e w1 ⟨rfl, hb⟩
  have X := Lib.hid ((Bx8.new w _ _ _ _ _ _ _ _ _).below hb)
  have B : Hid (Below w.heap.size w w1) := Lib.hid (bl_thru ((Below.refl w.heap.size w).alloc (Nat.le_refl _) _) (Nat.le_refl _) hb)
  clear hb
  obtain ⟨z10, z11, z12, z13, z14, z15, z16, z17⟩ := X.out.cells
  clear z11 z12 z13 z14 z16
  go_wp2_with (first
    | (go_at_call 53; refine (CT.out _).mono ?_; rintro e w2 ⟨rfl, rfl⟩)
    | (go_at_call 47; refine (IX.out _).mono ?_; rintro e w2 ⟨rfl, rfl⟩))
  all_goals try (exfalso; omega)
  go_quiet (fail)
  replace B := Lib.hid (below_to_drewN (n := nq) B.out)
  go_wp2
  all_goals first
    | (go_ret; exact ⟨rfl, B.out⟩; done)
    | (exfalso; omega)
    | (exfalso; simp_all; done)
    | trace_state
set_option maxRecDepth 100000 in
set_option maxHeartbeats 4000000 in
theorem wv_eam (mi pl bl ze : Bool) (wd pr : Int) (hp : pr < 0) (hp2 : pr ≤ 1000) (hp3 : -1000 ≤ pr) (x : Int) (S : ByteArray) (c2 : Bool) (e1 : Int) (n : Nat) (zn : n ≤ 10000) (zS : S.size = n) (w : World) (hT : Tab w) (hT10 : Tab10 w)
    (BD : Hid (∀ w' : World, Tab w' → Tab10 w' → Calls Tryz.prog 49 #[.int .u64 x, .int .i64 7, .int .i64 0] w' fun e w2 => e = .returned (.tuple #[.string S, .bool c2, .int .i64 e1]) ∧ Below w'.heap.size w' w2))
    (CT : Hid (∀ w' : World, Calls Tryz.prog 53 #[.string S, .string ⟨#[46]⟩] w' fun e w2 => e = .returned (.bool false) ∧ w2 = w'))
    (IX : Hid (∀ w' : World, Calls Tryz.prog 47 #[.string S, .int .u8 101] w' fun e w2 => e = .returned (.int .i64 (-1)) ∧ w2 = w')) :
    Calls Tryz.prog 24 #[.agg #[.int .i64 101, .bool mi, .bool pl, .bool bl, .bool ze, .bool true, .int .i64 wd, .int .i64 pr], .int .u64 x] w fun e w' => e = .returned (.string (S.extract 0 n ++ ⟨#[46]⟩)) ∧ Below w.heap.size w w' := by
  have HT := Lib.hid hT
  have H10 := Lib.hid hT10
  clear hT hT10
  go_enter Tryz.func24, Tryz.ntmps24
  go_wp2_with fail
  refine (BD.out _ (HT.out.alloc _) (H10.out.below ((Below.refl _ _).alloc (Nat.le_refl _) _))).mono ?_
  rintro e w1 ⟨rfl, hb⟩
  have X := Lib.hid ((Bx8.new w _ _ _ _ _ _ _ _ _).below hb)
  have B : Hid (Below w.heap.size w w1) := Lib.hid (bl_thru ((Below.refl w.heap.size w).alloc (Nat.le_refl _) _) (Nat.le_refl _) hb)
  clear hb
  obtain ⟨z10, z11, z12, z13, z14, z15, z16, z17⟩ := X.out.cells
  clear z11 z12 z13 z14 z16
  go_wp2_with (first
    | (go_at_call 53; refine (CT.out _).mono ?_; rintro e w2 ⟨rfl, rfl⟩)
    | (go_at_call 47; refine (IX.out _).mono ?_; rintro e w2 ⟨rfl, rfl⟩))
  all_goals try (exfalso; omega)
  go_quiet (fail)
  replace B := Lib.hid (below_to_drewN (n := nq) B.out)
  go_wp2
  all_goals first
    | (go_ret; exact ⟨rfl, B.out⟩; done)
    | (exfalso; omega)
    | (exfalso; simp_all; done)
    | trace_state
set_option maxRecDepth 100000 in
set_option maxHeartbeats 4000000 in
theorem wv_ebn (mi pl bl ze : Bool) (wd pr : Int) (hp : 0 ≤ pr) (hp2 : pr ≤ 1000) (hp3 : -1000 ≤ pr) (x : Int) (S : ByteArray) (c2 : Bool) (e1 : Int)  (w : World) (hT : Tab w) (hT10 : Tab10 w)
    (BD : Hid (∀ w' : World, Tab w' → Tab10 w' → Calls Tryz.prog 49 #[.int .u64 x, .int .i64 (pr + 1), .int .i64 0] w' fun e w2 => e = .returned (.tuple #[.string S, .bool c2, .int .i64 e1]) ∧ Below w'.heap.size w' w2)) :
    Calls Tryz.prog 24 #[.agg #[.int .i64 101, .bool mi, .bool pl, .bool bl, .bool ze, .bool false, .int .i64 wd, .int .i64 pr], .int .u64 x] w fun e w' => e = .returned (.string (S)) ∧ Below w.heap.size w w' := by
  have HT := Lib.hid hT
  have H10 := Lib.hid hT10
  clear hT hT10
  go_enter Tryz.func24, Tryz.ntmps24
  go_wp2_with fail
  refine (BD.out _ (HT.out.alloc _) (H10.out.below ((Below.refl _ _).alloc (Nat.le_refl _) _))).mono ?_
  rintro e w1 ⟨rfl, hb⟩
  have X := Lib.hid ((Bx8.new w _ _ _ _ _ _ _ _ _).below hb)
  have B : Hid (Below w.heap.size w w1) := Lib.hid (bl_thru ((Below.refl w.heap.size w).alloc (Nat.le_refl _) _) (Nat.le_refl _) hb)
  clear hb
  obtain ⟨z10, z11, z12, z13, z14, z15, z16, z17⟩ := X.out.cells
  clear z11 z12 z13 z14 z16
  go_wp2
  go_ret
  exact ⟨rfl, B.out⟩
set_option maxRecDepth 100000 in
set_option maxHeartbeats 4000000 in
theorem wv_ebd (mi pl bl ze : Bool) (wd pr : Int) (hp : 0 ≤ pr) (hp2 : pr ≤ 1000) (hp3 : -1000 ≤ pr) (x : Int) (S : ByteArray) (c2 : Bool) (e1 : Int)  (w : World) (hT : Tab w) (hT10 : Tab10 w)
    (BD : Hid (∀ w' : World, Tab w' → Tab10 w' → Calls Tryz.prog 49 #[.int .u64 x, .int .i64 (pr + 1), .int .i64 0] w' fun e w2 => e = .returned (.tuple #[.string S, .bool c2, .int .i64 e1]) ∧ Below w'.heap.size w' w2))
    (CT : Hid (∀ w' : World, Calls Tryz.prog 53 #[.string S, .string ⟨#[46]⟩] w' fun e w2 => e = .returned (.bool true) ∧ w2 = w')) :
    Calls Tryz.prog 24 #[.agg #[.int .i64 101, .bool mi, .bool pl, .bool bl, .bool ze, .bool true, .int .i64 wd, .int .i64 pr], .int .u64 x] w fun e w' => e = .returned (.string (S)) ∧ Below w.heap.size w w' := by
  have HT := Lib.hid hT
  have H10 := Lib.hid hT10
  clear hT hT10
  go_enter Tryz.func24, Tryz.ntmps24
  go_wp2_with fail
  refine (BD.out _ (HT.out.alloc _) (H10.out.below ((Below.refl _ _).alloc (Nat.le_refl _) _))).mono ?_
  rintro e w1 ⟨rfl, hb⟩
  have X := Lib.hid ((Bx8.new w _ _ _ _ _ _ _ _ _).below hb)
  have B : Hid (Below w.heap.size w w1) := Lib.hid (bl_thru ((Below.refl w.heap.size w).alloc (Nat.le_refl _) _) (Nat.le_refl _) hb)
  clear hb
  obtain ⟨z10, z11, z12, z13, z14, z15, z16, z17⟩ := X.out.cells
  clear z11 z12 z13 z14 z16
  go_wp2_with (first
    | (go_at_call 53; refine (CT.out _).mono ?_; rintro e w2 ⟨rfl, rfl⟩))
  all_goals first
    | (go_ret; exact ⟨rfl, B.out⟩; done)
    | (exfalso; omega)
    | (exfalso; simp_all; done)
    | trace_state
set_option maxRecDepth 100000 in
set_option maxHeartbeats 4000000 in
theorem wv_ebh (mi pl bl ze : Bool) (wd pr : Int) (hp : 0 ≤ pr) (hp2 : pr ≤ 1000) (hp3 : -1000 ≤ pr) (x : Int) (S : ByteArray) (c2 : Bool) (e1 : Int) (k n : Nat) (hk : k < n) (zn : n ≤ 10000) (zS : S.size = n) (w : World) (hT : Tab w) (hT10 : Tab10 w)
    (BD : Hid (∀ w' : World, Tab w' → Tab10 w' → Calls Tryz.prog 49 #[.int .u64 x, .int .i64 (pr + 1), .int .i64 0] w' fun e w2 => e = .returned (.tuple #[.string S, .bool c2, .int .i64 e1]) ∧ Below w'.heap.size w' w2))
    (CT : Hid (∀ w' : World, Calls Tryz.prog 53 #[.string S, .string ⟨#[46]⟩] w' fun e w2 => e = .returned (.bool false) ∧ w2 = w'))
    (IX : Hid (∀ w' : World, Calls Tryz.prog 47 #[.string S, .int .u8 101] w' fun e w2 => e = .returned (.int .i64 ((k : Nat) : Int)) ∧ w2 = w')) :
    Calls Tryz.prog 24 #[.agg #[.int .i64 101, .bool mi, .bool pl, .bool bl, .bool ze, .bool true, .int .i64 wd, .int .i64 pr], .int .u64 x] w fun e w' => e = .returned (.string (S.extract 0 k ++ ⟨#[46]⟩ ++ S.extract k n)) ∧ Below w.heap.size w w' := by
  have HT := Lib.hid hT
  have H10 := Lib.hid hT10
  clear hT hT10
  have z1 : (S.extract 0 k).size = k := by rw [ByteArray.size_extract]; omega
  have z2 : (S.extract k n).size ≤ 10000 := by rw [ByteArray.size_extract]; omega
  go_enter Tryz.func24, Tryz.ntmps24
  go_wp2_with fail
  refine (BD.out _ (HT.out.alloc _) (H10.out.below ((Below.refl _ _).alloc (Nat.le_refl _) _))).mono ?_
  rintro e w1 ⟨rfl, hb⟩
  have X := Lib.hid ((Bx8.new w _ _ _ _ _ _ _ _ _).below hb)
  have B : Hid (Below w.heap.size w w1) := Lib.hid (bl_thru ((Below.refl w.heap.size w).alloc (Nat.le_refl _) _) (Nat.le_refl _) hb)
  clear hb
  obtain ⟨z10, z11, z12, z13, z14, z15, z16, z17⟩ := X.out.cells
  clear z11 z12 z13 z14 z16
  go_wp2_with (first
    | (go_at_call 53; refine (CT.out _).mono ?_; rintro e w2 ⟨rfl, rfl⟩)
    | (go_at_call 47; refine (IX.out _).mono ?_; rintro e w2 ⟨rfl, rfl⟩))
  all_goals try (exfalso; omega)
  go_quiet (fail)
  replace B := Lib.hid (below_to_drewN (n := nq) B.out)
  go_wp2
  all_goals first
    | (go_ret; exact ⟨rfl, B.out⟩; done)
    | (exfalso; omega)
    | (exfalso; simp_all; done)
    | trace_state
set_option maxRecDepth 100000 in
set_option maxHeartbeats 4000000 in
theorem wv_ebm (mi pl bl ze : Bool) (wd pr : Int) (hp : 0 ≤ pr) (hp2 : pr ≤ 1000) (hp3 : -1000 ≤ pr) (x : Int) (S : ByteArray) (c2 : Bool) (e1 : Int) (n : Nat) (zn : n ≤ 10000) (zS : S.size = n) (w : World) (hT : Tab w) (hT10 : Tab10 w)
    (BD : Hid (∀ w' : World, Tab w' → Tab10 w' → Calls Tryz.prog 49 #[.int .u64 x, .int .i64 (pr + 1), .int .i64 0] w' fun e w2 => e = .returned (.tuple #[.string S, .bool c2, .int .i64 e1]) ∧ Below w'.heap.size w' w2))
    (CT : Hid (∀ w' : World, Calls Tryz.prog 53 #[.string S, .string ⟨#[46]⟩] w' fun e w2 => e = .returned (.bool false) ∧ w2 = w'))
    (IX : Hid (∀ w' : World, Calls Tryz.prog 47 #[.string S, .int .u8 101] w' fun e w2 => e = .returned (.int .i64 (-1)) ∧ w2 = w')) :
    Calls Tryz.prog 24 #[.agg #[.int .i64 101, .bool mi, .bool pl, .bool bl, .bool ze, .bool true, .int .i64 wd, .int .i64 pr], .int .u64 x] w fun e w' => e = .returned (.string (S.extract 0 n ++ ⟨#[46]⟩)) ∧ Below w.heap.size w w' := by
  have HT := Lib.hid hT
  have H10 := Lib.hid hT10
  clear hT hT10
  go_enter Tryz.func24, Tryz.ntmps24
  go_wp2_with fail
  refine (BD.out _ (HT.out.alloc _) (H10.out.below ((Below.refl _ _).alloc (Nat.le_refl _) _))).mono ?_
  rintro e w1 ⟨rfl, hb⟩
  have X := Lib.hid ((Bx8.new w _ _ _ _ _ _ _ _ _).below hb)
  have B : Hid (Below w.heap.size w w1) := Lib.hid (bl_thru ((Below.refl w.heap.size w).alloc (Nat.le_refl _) _) (Nat.le_refl _) hb)
  clear hb
  obtain ⟨z10, z11, z12, z13, z14, z15, z16, z17⟩ := X.out.cells
  clear z11 z12 z13 z14 z16
  go_wp2_with (first
    | (go_at_call 53; refine (CT.out _).mono ?_; rintro e w2 ⟨rfl, rfl⟩)
    | (go_at_call 47; refine (IX.out _).mono ?_; rintro e w2 ⟨rfl, rfl⟩))
  all_goals try (exfalso; omega)
  go_quiet (fail)
  replace B := Lib.hid (below_to_drewN (n := nq) B.out)
  go_wp2
  all_goals first
    | (go_ret; exact ⟨rfl, B.out⟩; done)
    | (exfalso; omega)
    | (exfalso; simp_all; done)
    | trace_state
set_option maxRecDepth 100000 in
set_option maxHeartbeats 4000000 in
theorem wv_gan (mi pl bl ze : Bool) (wd pr : Int) (hp : pr < 0) (hp2 : pr ≤ 1000) (hp3 : -1000 ≤ pr) (x : Int) (S : ByteArray) (c2 : Bool) (e1 : Int)  (w : World) (hT : Tab w) (hT10 : Tab10 w)
    (BD : Hid (∀ w' : World, Tab w' → Tab10 w' → Calls Tryz.prog 50 #[.agg #[.int .i64 103, .bool mi, .bool pl, .bool bl, .bool ze, .bool false, .int .i64 wd, .int .i64 pr], .int .u64 x, .int .i64 6] w' fun e w2 => e = .returned (.string S) ∧ Below w'.heap.size w' w2)) :
    Calls Tryz.prog 24 #[.agg #[.int .i64 103, .bool mi, .bool pl, .bool bl, .bool ze, .bool false, .int .i64 wd, .int .i64 pr], .int .u64 x] w fun e w' => e = .returned (.string (S)) ∧ Below w.heap.size w w' := by
  have HT := Lib.hid hT
  have H10 := Lib.hid hT10
  clear hT hT10
  go_enter Tryz.func24, Tryz.ntmps24
  go_wp2_with fail
  refine (BD.out _ (HT.out.alloc _) (H10.out.below ((Below.refl _ _).alloc (Nat.le_refl _) _))).mono ?_
  rintro e w1 ⟨rfl, hb⟩
  have X := Lib.hid ((Bx8.new w _ _ _ _ _ _ _ _ _).below hb)
  have B : Hid (Below w.heap.size w w1) := Lib.hid (bl_thru ((Below.refl w.heap.size w).alloc (Nat.le_refl _) _) (Nat.le_refl _) hb)
  clear hb
  obtain ⟨z10, z11, z12, z13, z14, z15, z16, z17⟩ := X.out.cells
  clear z11 z12 z13 z14 z16
  go_wp2
  go_ret
  exact ⟨rfl, B.out⟩
set_option maxRecDepth 100000 in
set_option maxHeartbeats 4000000 in
theorem wv_gad (mi pl bl ze : Bool) (wd pr : Int) (hp : pr < 0) (hp2 : pr ≤ 1000) (hp3 : -1000 ≤ pr) (x : Int) (S : ByteArray) (c2 : Bool) (e1 : Int)  (w : World) (hT : Tab w) (hT10 : Tab10 w)
    (BD : Hid (∀ w' : World, Tab w' → Tab10 w' → Calls Tryz.prog 50 #[.agg #[.int .i64 103, .bool mi, .bool pl, .bool bl, .bool ze, .bool true, .int .i64 wd, .int .i64 pr], .int .u64 x, .int .i64 6] w' fun e w2 => e = .returned (.string S) ∧ Below w'.heap.size w' w2))
    (CT : Hid (∀ w' : World, Calls Tryz.prog 53 #[.string S, .string ⟨#[46]⟩] w' fun e w2 => e = .returned (.bool true) ∧ w2 = w')) :
    Calls Tryz.prog 24 #[.agg #[.int .i64 103, .bool mi, .bool pl, .bool bl, .bool ze, .bool true, .int .i64 wd, .int .i64 pr], .int .u64 x] w fun e w' => e = .returned (.string (S)) ∧ Below w.heap.size w w' := by
  have HT := Lib.hid hT
  have H10 := Lib.hid hT10
  clear hT hT10
  go_enter Tryz.func24, Tryz.ntmps24
  go_wp2_with fail
  refine (BD.out _ (HT.out.alloc _) (H10.out.below ((Below.refl _ _).alloc (Nat.le_refl _) _))).mono ?_
  rintro e w1 ⟨rfl, hb⟩
  have X := Lib.hid ((Bx8.new w _ _ _ _ _ _ _ _ _).below hb)
  have B : Hid (Below w.heap.size w w1) := Lib.hid (bl_thru ((Below.refl w.heap.size w).alloc (Nat.le_refl _) _) (Nat.le_refl _) hb)
  clear hb
  obtain ⟨z10, z11, z12, z13, z14, z15, z16, z17⟩ := X.out.cells
  clear z11 z12 z13 z14 z16
  go_wp2_with (first
    | (go_at_call 53; refine (CT.out _).mono ?_; rintro e w2 ⟨rfl, rfl⟩))
  all_goals first
    | (go_ret; exact ⟨rfl, B.out⟩; done)
    | (exfalso; omega)
    | (exfalso; simp_all; done)
    | trace_state
set_option maxRecDepth 100000 in
set_option maxHeartbeats 4000000 in
theorem wv_gah (mi pl bl ze : Bool) (wd pr : Int) (hp : pr < 0) (hp2 : pr ≤ 1000) (hp3 : -1000 ≤ pr) (x : Int) (S : ByteArray) (c2 : Bool) (e1 : Int) (k n : Nat) (hk : k < n) (zn : n ≤ 10000) (zS : S.size = n) (w : World) (hT : Tab w) (hT10 : Tab10 w)
    (BD : Hid (∀ w' : World, Tab w' → Tab10 w' → Calls Tryz.prog 50 #[.agg #[.int .i64 103, .bool mi, .bool pl, .bool bl, .bool ze, .bool true, .int .i64 wd, .int .i64 pr], .int .u64 x, .int .i64 6] w' fun e w2 => e = .returned (.string S) ∧ Below w'.heap.size w' w2))
    (CT : Hid (∀ w' : World, Calls Tryz.prog 53 #[.string S, .string ⟨#[46]⟩] w' fun e w2 => e = .returned (.bool false) ∧ w2 = w'))
    (IX : Hid (∀ w' : World, Calls Tryz.prog 47 #[.string S, .int .u8 101] w' fun e w2 => e = .returned (.int .i64 ((k : Nat) : Int)) ∧ w2 = w')) :
    Calls Tryz.prog 24 #[.agg #[.int .i64 103, .bool mi, .bool pl, .bool bl, .bool ze, .bool true, .int .i64 wd, .int .i64 pr], .int .u64 x] w fun e w' => e = .returned (.string (S.extract 0 k ++ ⟨#[46]⟩ ++ S.extract k n)) ∧ Below w.heap.size w w' := by
  have HT := Lib.hid hT
  have H10 := Lib.hid hT10
  clear hT hT10
  have z1 : (S.extract 0 k).size = k := by rw [ByteArray.size_extract]; omega
  have z2 : (S.extract k n).size ≤ 10000 := by rw [ByteArray.size_extract]; omega
  go_enter Tryz.func24, Tryz.ntmps24
  go_wp2_with fail
  refine (BD.out _ (HT.out.alloc _) (H10.out.below ((Below.refl _ _).alloc (Nat.le_refl _) _))).mono ?_
  rintro e w1 ⟨rfl, hb⟩
  have X := Lib.hid ((Bx8.new w _ _ _ _ _ _ _ _ _).below hb)
  have B : Hid (Below w.heap.size w w1) := Lib.hid (bl_thru ((Below.refl w.heap.size w).alloc (Nat.le_refl _) _) (Nat.le_refl _) hb)
  clear hb
  obtain ⟨z10, z11, z12, z13, z14, z15, z16, z17⟩ := X.out.cells
  clear z11 z12 z13 z14 z16
  go_wp2_with (first
    | (go_at_call 53; refine (CT.out _).mono ?_; rintro e w2 ⟨rfl, rfl⟩)
    | (go_at_call 47; refine (IX.out _).mono ?_; rintro e w2 ⟨rfl, rfl⟩))
  all_goals try (exfalso; omega)
  go_quiet (fail)
  replace B := Lib.hid (below_to_drewN (n := nq) B.out)
  go_wp2
  all_goals first
    | (go_ret; exact ⟨rfl, B.out⟩; done)
    | (exfalso; omega)
    | (exfalso; simp_all; done)
    | trace_state
set_option maxRecDepth 100000 in
set_option maxHeartbeats 4000000 in
theorem wv_gam (mi pl bl ze : Bool) (wd pr : Int) (hp : pr < 0) (hp2 : pr ≤ 1000) (hp3 : -1000 ≤ pr) (x : Int) (S : ByteArray) (c2 : Bool) (e1 : Int) (n : Nat) (zn : n ≤ 10000) (zS : S.size = n) (w : World) (hT : Tab w) (hT10 : Tab10 w)
    (BD : Hid (∀ w' : World, Tab w' → Tab10 w' → Calls Tryz.prog 50 #[.agg #[.int .i64 103, .bool mi, .bool pl, .bool bl, .bool ze, .bool true, .int .i64 wd, .int .i64 pr], .int .u64 x, .int .i64 6] w' fun e w2 => e = .returned (.string S) ∧ Below w'.heap.size w' w2))
    (CT : Hid (∀ w' : World, Calls Tryz.prog 53 #[.string S, .string ⟨#[46]⟩] w' fun e w2 => e = .returned (.bool false) ∧ w2 = w'))
    (IX : Hid (∀ w' : World, Calls Tryz.prog 47 #[.string S, .int .u8 101] w' fun e w2 => e = .returned (.int .i64 (-1)) ∧ w2 = w')) :
    Calls Tryz.prog 24 #[.agg #[.int .i64 103, .bool mi, .bool pl, .bool bl, .bool ze, .bool true, .int .i64 wd, .int .i64 pr], .int .u64 x] w fun e w' => e = .returned (.string (S.extract 0 n ++ ⟨#[46]⟩)) ∧ Below w.heap.size w w' := by
  have HT := Lib.hid hT
  have H10 := Lib.hid hT10
  clear hT hT10
  go_enter Tryz.func24, Tryz.ntmps24
  go_wp2_with fail
  refine (BD.out _ (HT.out.alloc _) (H10.out.below ((Below.refl _ _).alloc (Nat.le_refl _) _))).mono ?_
  rintro e w1 ⟨rfl, hb⟩
  have X := Lib.hid ((Bx8.new w _ _ _ _ _ _ _ _ _).below hb)
  have B : Hid (Below w.heap.size w w1) := Lib.hid (bl_thru ((Below.refl w.heap.size w).alloc (Nat.le_refl _) _) (Nat.le_refl _) hb)
  clear hb
  obtain ⟨z10, z11, z12, z13, z14, z15, z16, z17⟩ := X.out.cells
  clear z11 z12 z13 z14 z16
  go_wp2_with (first
    | (go_at_call 53; refine (CT.out _).mono ?_; rintro e w2 ⟨rfl, rfl⟩)
    | (go_at_call 47; refine (IX.out _).mono ?_; rintro e w2 ⟨rfl, rfl⟩))
  all_goals try (exfalso; omega)
  go_quiet (fail)
  replace B := Lib.hid (below_to_drewN (n := nq) B.out)
  go_wp2
  all_goals first
    | (go_ret; exact ⟨rfl, B.out⟩; done)
    | (exfalso; omega)
    | (exfalso; simp_all; done)
    | trace_state
set_option maxRecDepth 100000 in
set_option maxHeartbeats 4000000 in
theorem wv_gbn (mi pl bl ze : Bool) (wd pr : Int) (hp : 0 ≤ pr) (hp2 : pr ≤ 1000) (hp3 : -1000 ≤ pr) (x : Int) (S : ByteArray) (c2 : Bool) (e1 : Int)  (w : World) (hT : Tab w) (hT10 : Tab10 w)
    (BD : Hid (∀ w' : World, Tab w' → Tab10 w' → Calls Tryz.prog 50 #[.agg #[.int .i64 103, .bool mi, .bool pl, .bool bl, .bool ze, .bool false, .int .i64 wd, .int .i64 pr], .int .u64 x, .int .i64 pr] w' fun e w2 => e = .returned (.string S) ∧ Below w'.heap.size w' w2)) :
    Calls Tryz.prog 24 #[.agg #[.int .i64 103, .bool mi, .bool pl, .bool bl, .bool ze, .bool false, .int .i64 wd, .int .i64 pr], .int .u64 x] w fun e w' => e = .returned (.string (S)) ∧ Below w.heap.size w w' := by
  have HT := Lib.hid hT
  have H10 := Lib.hid hT10
  clear hT hT10
  go_enter Tryz.func24, Tryz.ntmps24
  go_wp2_with fail
  refine (BD.out _ (HT.out.alloc _) (H10.out.below ((Below.refl _ _).alloc (Nat.le_refl _) _))).mono ?_
  rintro e w1 ⟨rfl, hb⟩
  have X := Lib.hid ((Bx8.new w _ _ _ _ _ _ _ _ _).below hb)
  have B : Hid (Below w.heap.size w w1) := Lib.hid (bl_thru ((Below.refl w.heap.size w).alloc (Nat.le_refl _) _) (Nat.le_refl _) hb)
  clear hb
  obtain ⟨z10, z11, z12, z13, z14, z15, z16, z17⟩ := X.out.cells
  clear z11 z12 z13 z14 z16
  go_wp2
  go_ret
  exact ⟨rfl, B.out⟩
set_option maxRecDepth 100000 in
set_option maxHeartbeats 4000000 in
theorem wv_gbd (mi pl bl ze : Bool) (wd pr : Int) (hp : 0 ≤ pr) (hp2 : pr ≤ 1000) (hp3 : -1000 ≤ pr) (x : Int) (S : ByteArray) (c2 : Bool) (e1 : Int)  (w : World) (hT : Tab w) (hT10 : Tab10 w)
    (BD : Hid (∀ w' : World, Tab w' → Tab10 w' → Calls Tryz.prog 50 #[.agg #[.int .i64 103, .bool mi, .bool pl, .bool bl, .bool ze, .bool true, .int .i64 wd, .int .i64 pr], .int .u64 x, .int .i64 pr] w' fun e w2 => e = .returned (.string S) ∧ Below w'.heap.size w' w2))
    (CT : Hid (∀ w' : World, Calls Tryz.prog 53 #[.string S, .string ⟨#[46]⟩] w' fun e w2 => e = .returned (.bool true) ∧ w2 = w')) :
    Calls Tryz.prog 24 #[.agg #[.int .i64 103, .bool mi, .bool pl, .bool bl, .bool ze, .bool true, .int .i64 wd, .int .i64 pr], .int .u64 x] w fun e w' => e = .returned (.string (S)) ∧ Below w.heap.size w w' := by
  have HT := Lib.hid hT
  have H10 := Lib.hid hT10
  clear hT hT10
  go_enter Tryz.func24, Tryz.ntmps24
  go_wp2_with fail
  refine (BD.out _ (HT.out.alloc _) (H10.out.below ((Below.refl _ _).alloc (Nat.le_refl _) _))).mono ?_
  rintro e w1 ⟨rfl, hb⟩
  have X := Lib.hid ((Bx8.new w _ _ _ _ _ _ _ _ _).below hb)
  have B : Hid (Below w.heap.size w w1) := Lib.hid (bl_thru ((Below.refl w.heap.size w).alloc (Nat.le_refl _) _) (Nat.le_refl _) hb)
  clear hb
  obtain ⟨z10, z11, z12, z13, z14, z15, z16, z17⟩ := X.out.cells
  clear z11 z12 z13 z14 z16
  go_wp2_with (first
    | (go_at_call 53; refine (CT.out _).mono ?_; rintro e w2 ⟨rfl, rfl⟩))
  all_goals first
    | (go_ret; exact ⟨rfl, B.out⟩; done)
    | (exfalso; omega)
    | (exfalso; simp_all; done)
    | trace_state
set_option maxRecDepth 100000 in
set_option maxHeartbeats 4000000 in
theorem wv_gbh (mi pl bl ze : Bool) (wd pr : Int) (hp : 0 ≤ pr) (hp2 : pr ≤ 1000) (hp3 : -1000 ≤ pr) (x : Int) (S : ByteArray) (c2 : Bool) (e1 : Int) (k n : Nat) (hk : k < n) (zn : n ≤ 10000) (zS : S.size = n) (w : World) (hT : Tab w) (hT10 : Tab10 w)
    (BD : Hid (∀ w' : World, Tab w' → Tab10 w' → Calls Tryz.prog 50 #[.agg #[.int .i64 103, .bool mi, .bool pl, .bool bl, .bool ze, .bool true, .int .i64 wd, .int .i64 pr], .int .u64 x, .int .i64 pr] w' fun e w2 => e = .returned (.string S) ∧ Below w'.heap.size w' w2))
    (CT : Hid (∀ w' : World, Calls Tryz.prog 53 #[.string S, .string ⟨#[46]⟩] w' fun e w2 => e = .returned (.bool false) ∧ w2 = w'))
    (IX : Hid (∀ w' : World, Calls Tryz.prog 47 #[.string S, .int .u8 101] w' fun e w2 => e = .returned (.int .i64 ((k : Nat) : Int)) ∧ w2 = w')) :
    Calls Tryz.prog 24 #[.agg #[.int .i64 103, .bool mi, .bool pl, .bool bl, .bool ze, .bool true, .int .i64 wd, .int .i64 pr], .int .u64 x] w fun e w' => e = .returned (.string (S.extract 0 k ++ ⟨#[46]⟩ ++ S.extract k n)) ∧ Below w.heap.size w w' := by
  have HT := Lib.hid hT
  have H10 := Lib.hid hT10
  clear hT hT10
  have z1 : (S.extract 0 k).size = k := by rw [ByteArray.size_extract]; omega
  have z2 : (S.extract k n).size ≤ 10000 := by rw [ByteArray.size_extract]; omega
  go_enter Tryz.func24, Tryz.ntmps24
  go_wp2_with fail
  refine (BD.out _ (HT.out.alloc _) (H10.out.below ((Below.refl _ _).alloc (Nat.le_refl _) _))).mono ?_
  rintro e w1 ⟨rfl, hb⟩
  have X := Lib.hid ((Bx8.new w _ _ _ _ _ _ _ _ _).below hb)
  have B : Hid (Below w.heap.size w w1) := Lib.hid (bl_thru ((Below.refl w.heap.size w).alloc (Nat.le_refl _) _) (Nat.le_refl _) hb)
  clear hb
  obtain ⟨z10, z11, z12, z13, z14, z15, z16, z17⟩ := X.out.cells
  clear z11 z12 z13 z14 z16
  go_wp2_with (first
    | (go_at_call 53; refine (CT.out _).mono ?_; rintro e w2 ⟨rfl, rfl⟩)
    | (go_at_call 47; refine (IX.out _).mono ?_; rintro e w2 ⟨rfl, rfl⟩))
  all_goals try (exfalso; omega)
  go_quiet (fail)
  replace B := Lib.hid (below_to_drewN (n := nq) B.out)
  go_wp2
  all_goals first
    | (go_ret; exact ⟨rfl, B.out⟩; done)
    | (exfalso; omega)
    | (exfalso; simp_all; done)
    | trace_state
set_option maxRecDepth 100000 in
set_option maxHeartbeats 4000000 in
theorem wv_gbm (mi pl bl ze : Bool) (wd pr : Int) (hp : 0 ≤ pr) (hp2 : pr ≤ 1000) (hp3 : -1000 ≤ pr) (x : Int) (S : ByteArray) (c2 : Bool) (e1 : Int) (n : Nat) (zn : n ≤ 10000) (zS : S.size = n) (w : World) (hT : Tab w) (hT10 : Tab10 w)
    (BD : Hid (∀ w' : World, Tab w' → Tab10 w' → Calls Tryz.prog 50 #[.agg #[.int .i64 103, .bool mi, .bool pl, .bool bl, .bool ze, .bool true, .int .i64 wd, .int .i64 pr], .int .u64 x, .int .i64 pr] w' fun e w2 => e = .returned (.string S) ∧ Below w'.heap.size w' w2))
    (CT : Hid (∀ w' : World, Calls Tryz.prog 53 #[.string S, .string ⟨#[46]⟩] w' fun e w2 => e = .returned (.bool false) ∧ w2 = w'))
    (IX : Hid (∀ w' : World, Calls Tryz.prog 47 #[.string S, .int .u8 101] w' fun e w2 => e = .returned (.int .i64 (-1)) ∧ w2 = w')) :
    Calls Tryz.prog 24 #[.agg #[.int .i64 103, .bool mi, .bool pl, .bool bl, .bool ze, .bool true, .int .i64 wd, .int .i64 pr], .int .u64 x] w fun e w' => e = .returned (.string (S.extract 0 n ++ ⟨#[46]⟩)) ∧ Below w.heap.size w w' := by
  have HT := Lib.hid hT
  have H10 := Lib.hid hT10
  clear hT hT10
  go_enter Tryz.func24, Tryz.ntmps24
  go_wp2_with fail
  refine (BD.out _ (HT.out.alloc _) (H10.out.below ((Below.refl _ _).alloc (Nat.le_refl _) _))).mono ?_
  rintro e w1 ⟨rfl, hb⟩
  have X := Lib.hid ((Bx8.new w _ _ _ _ _ _ _ _ _).below hb)
  have B : Hid (Below w.heap.size w w1) := Lib.hid (bl_thru ((Below.refl w.heap.size w).alloc (Nat.le_refl _) _) (Nat.le_refl _) hb)
  clear hb
  obtain ⟨z10, z11, z12, z13, z14, z15, z16, z17⟩ := X.out.cells
  clear z11 z12 z13 z14 z16
  go_wp2_with (first
    | (go_at_call 53; refine (CT.out _).mono ?_; rintro e w2 ⟨rfl, rfl⟩)
    | (go_at_call 47; refine (IX.out _).mono ?_; rintro e w2 ⟨rfl, rfl⟩))
  all_goals try (exfalso; omega)
  go_quiet (fail)
  replace B := Lib.hid (below_to_drewN (n := nq) B.out)
  go_wp2
  all_goals first
    | (go_ret; exact ⟨rfl, B.out⟩; done)
    | (exfalso; omega)
    | (exfalso; simp_all; done)
    | trace_state
set_option maxRecDepth 100000 in
set_option maxHeartbeats 4000000 in
theorem wv_aan (mi pl bl ze : Bool) (wd pr : Int) (hp : pr < 0) (hp2 : pr ≤ 1000) (hp3 : -1000 ≤ pr) (x : Int) (S : ByteArray) (c2 : Bool) (e1 : Int)  (w : World) (hT : Tab w) (hT10 : Tab10 w)
    (BD : Hid (∀ w' : World, Tab w' → Tab10 w' → Calls Tryz.prog 51 #[.int .u64 x] w' fun e w2 => e = .returned (.string S) ∧ Below w'.heap.size w' w2)) :
    Calls Tryz.prog 24 #[.agg #[.int .i64 97, .bool mi, .bool pl, .bool bl, .bool ze, .bool false, .int .i64 wd, .int .i64 pr], .int .u64 x] w fun e w' => e = .returned (.string (S)) ∧ Below w.heap.size w w' := by
  have HT := Lib.hid hT
  have H10 := Lib.hid hT10
  clear hT hT10
  go_enter Tryz.func24, Tryz.ntmps24
  go_wp2_with fail
  refine (BD.out _ (HT.out.alloc _) (H10.out.below ((Below.refl _ _).alloc (Nat.le_refl _) _))).mono ?_
  rintro e w1 ⟨rfl, hb⟩
  have X := Lib.hid ((Bx8.new w _ _ _ _ _ _ _ _ _).below hb)
  have B : Hid (Below w.heap.size w w1) := Lib.hid (bl_thru ((Below.refl w.heap.size w).alloc (Nat.le_refl _) _) (Nat.le_refl _) hb)
  clear hb
  obtain ⟨z10, z11, z12, z13, z14, z15, z16, z17⟩ := X.out.cells
  clear z11 z12 z13 z14 z16
  go_wp2
  go_ret
  exact ⟨rfl, B.out⟩
set_option maxRecDepth 100000 in
set_option maxHeartbeats 4000000 in
theorem wv_aad (mi pl bl ze : Bool) (wd pr : Int) (hp : pr < 0) (hp2 : pr ≤ 1000) (hp3 : -1000 ≤ pr) (x : Int) (S : ByteArray) (c2 : Bool) (e1 : Int)  (w : World) (hT : Tab w) (hT10 : Tab10 w)
    (BD : Hid (∀ w' : World, Tab w' → Tab10 w' → Calls Tryz.prog 51 #[.int .u64 x] w' fun e w2 => e = .returned (.string S) ∧ Below w'.heap.size w' w2))
    (CT : Hid (∀ w' : World, Calls Tryz.prog 53 #[.string S, .string ⟨#[46]⟩] w' fun e w2 => e = .returned (.bool true) ∧ w2 = w')) :
    Calls Tryz.prog 24 #[.agg #[.int .i64 97, .bool mi, .bool pl, .bool bl, .bool ze, .bool true, .int .i64 wd, .int .i64 pr], .int .u64 x] w fun e w' => e = .returned (.string (S)) ∧ Below w.heap.size w w' := by
  have HT := Lib.hid hT
  have H10 := Lib.hid hT10
  clear hT hT10
  go_enter Tryz.func24, Tryz.ntmps24
  go_wp2_with fail
  refine (BD.out _ (HT.out.alloc _) (H10.out.below ((Below.refl _ _).alloc (Nat.le_refl _) _))).mono ?_
  rintro e w1 ⟨rfl, hb⟩
  have X := Lib.hid ((Bx8.new w _ _ _ _ _ _ _ _ _).below hb)
  have B : Hid (Below w.heap.size w w1) := Lib.hid (bl_thru ((Below.refl w.heap.size w).alloc (Nat.le_refl _) _) (Nat.le_refl _) hb)
  clear hb
  obtain ⟨z10, z11, z12, z13, z14, z15, z16, z17⟩ := X.out.cells
  clear z11 z12 z13 z14 z16
  go_wp2_with (first
    | (go_at_call 53; refine (CT.out _).mono ?_; rintro e w2 ⟨rfl, rfl⟩))
  all_goals first
    | (go_ret; exact ⟨rfl, B.out⟩; done)
    | (exfalso; omega)
    | (exfalso; simp_all; done)
    | trace_state
set_option maxRecDepth 100000 in
set_option maxHeartbeats 4000000 in
theorem wv_aah (mi pl bl ze : Bool) (wd pr : Int) (hp : pr < 0) (hp2 : pr ≤ 1000) (hp3 : -1000 ≤ pr) (x : Int) (S : ByteArray) (c2 : Bool) (e1 : Int) (k n : Nat) (hk : k < n) (zn : n ≤ 10000) (zS : S.size = n) (w : World) (hT : Tab w) (hT10 : Tab10 w)
    (BD : Hid (∀ w' : World, Tab w' → Tab10 w' → Calls Tryz.prog 51 #[.int .u64 x] w' fun e w2 => e = .returned (.string S) ∧ Below w'.heap.size w' w2))
    (CT : Hid (∀ w' : World, Calls Tryz.prog 53 #[.string S, .string ⟨#[46]⟩] w' fun e w2 => e = .returned (.bool false) ∧ w2 = w'))
    (IX : Hid (∀ w' : World, Calls Tryz.prog 47 #[.string S, .int .u8 112] w' fun e w2 => e = .returned (.int .i64 ((k : Nat) : Int)) ∧ w2 = w')) :
    Calls Tryz.prog 24 #[.agg #[.int .i64 97, .bool mi, .bool pl, .bool bl, .bool ze, .bool true, .int .i64 wd, .int .i64 pr], .int .u64 x] w fun e w' => e = .returned (.string (S.extract 0 k ++ ⟨#[46]⟩ ++ S.extract k n)) ∧ Below w.heap.size w w' := by
  have HT := Lib.hid hT
  have H10 := Lib.hid hT10
  clear hT hT10
  have z1 : (S.extract 0 k).size = k := by rw [ByteArray.size_extract]; omega
  have z2 : (S.extract k n).size ≤ 10000 := by rw [ByteArray.size_extract]; omega
  go_enter Tryz.func24, Tryz.ntmps24
  go_wp2_with fail
  refine (BD.out _ (HT.out.alloc _) (H10.out.below ((Below.refl _ _).alloc (Nat.le_refl _) _))).mono ?_
  rintro e w1 ⟨rfl, hb⟩
  have X := Lib.hid ((Bx8.new w _ _ _ _ _ _ _ _ _).below hb)
  have B : Hid (Below w.heap.size w w1) := Lib.hid (bl_thru ((Below.refl w.heap.size w).alloc (Nat.le_refl _) _) (Nat.le_refl _) hb)
  clear hb
  obtain ⟨z10, z11, z12, z13, z14, z15, z16, z17⟩ := X.out.cells
  clear z11 z12 z13 z14 z16
  go_wp2_with (first
    | (go_at_call 53; refine (CT.out _).mono ?_; rintro e w2 ⟨rfl, rfl⟩)
    | (go_at_call 47; refine (IX.out _).mono ?_; rintro e w2 ⟨rfl, rfl⟩))
  all_goals try (exfalso; omega)
  go_quiet (fail)
  replace B := Lib.hid (below_to_drewN (n := nq) B.out)
  go_wp2
  all_goals first
    | (go_ret; exact ⟨rfl, B.out⟩; done)
    | (exfalso; omega)
    | (exfalso; simp_all; done)
    | trace_state
set_option maxRecDepth 100000 in
set_option maxHeartbeats 4000000 in
theorem wv_aam (mi pl bl ze : Bool) (wd pr : Int) (hp : pr < 0) (hp2 : pr ≤ 1000) (hp3 : -1000 ≤ pr) (x : Int) (S : ByteArray) (c2 : Bool) (e1 : Int) (n : Nat) (zn : n ≤ 10000) (zS : S.size = n) (w : World) (hT : Tab w) (hT10 : Tab10 w)
    (BD : Hid (∀ w' : World, Tab w' → Tab10 w' → Calls Tryz.prog 51 #[.int .u64 x] w' fun e w2 => e = .returned (.string S) ∧ Below w'.heap.size w' w2))
    (CT : Hid (∀ w' : World, Calls Tryz.prog 53 #[.string S, .string ⟨#[46]⟩] w' fun e w2 => e = .returned (.bool false) ∧ w2 = w'))
    (IX : Hid (∀ w' : World, Calls Tryz.prog 47 #[.string S, .int .u8 112] w' fun e w2 => e = .returned (.int .i64 (-1)) ∧ w2 = w')) :
    Calls Tryz.prog 24 #[.agg #[.int .i64 97, .bool mi, .bool pl, .bool bl, .bool ze, .bool true, .int .i64 wd, .int .i64 pr], .int .u64 x] w fun e w' => e = .returned (.string (S.extract 0 n ++ ⟨#[46]⟩)) ∧ Below w.heap.size w w' := by
  have HT := Lib.hid hT
  have H10 := Lib.hid hT10
  clear hT hT10
  go_enter Tryz.func24, Tryz.ntmps24
  go_wp2_with fail
  refine (BD.out _ (HT.out.alloc _) (H10.out.below ((Below.refl _ _).alloc (Nat.le_refl _) _))).mono ?_
  rintro e w1 ⟨rfl, hb⟩
  have X := Lib.hid ((Bx8.new w _ _ _ _ _ _ _ _ _).below hb)
  have B : Hid (Below w.heap.size w w1) := Lib.hid (bl_thru ((Below.refl w.heap.size w).alloc (Nat.le_refl _) _) (Nat.le_refl _) hb)
  clear hb
  obtain ⟨z10, z11, z12, z13, z14, z15, z16, z17⟩ := X.out.cells
  clear z11 z12 z13 z14 z16
  go_wp2_with (first
    | (go_at_call 53; refine (CT.out _).mono ?_; rintro e w2 ⟨rfl, rfl⟩)
    | (go_at_call 47; refine (IX.out _).mono ?_; rintro e w2 ⟨rfl, rfl⟩))
  all_goals try (exfalso; omega)
  go_quiet (fail)
  replace B := Lib.hid (below_to_drewN (n := nq) B.out)
  go_wp2
  all_goals first
    | (go_ret; exact ⟨rfl, B.out⟩; done)
    | (exfalso; omega)
    | (exfalso; simp_all; done)
    | trace_state
set_option maxRecDepth 100000 in
set_option maxHeartbeats 4000000 in
theorem wv_abn (mi pl bl ze : Bool) (wd pr : Int) (hp : 0 ≤ pr) (hp2 : pr ≤ 1000) (hp3 : -1000 ≤ pr) (x : Int) (S : ByteArray) (c2 : Bool) (e1 : Int)  (w : World) (hT : Tab w) (hT10 : Tab10 w)
    (BD : Hid (∀ w' : World, Tab w' → Tab10 w' → Calls Tryz.prog 52 #[.int .u64 x, .int .i64 pr, .int .i64 0] w' fun e w2 => e = .returned (.tuple #[.string S, .bool c2, .int .i64 e1]) ∧ Below w'.heap.size w' w2)) :
    Calls Tryz.prog 24 #[.agg #[.int .i64 97, .bool mi, .bool pl, .bool bl, .bool ze, .bool false, .int .i64 wd, .int .i64 pr], .int .u64 x] w fun e w' => e = .returned (.string (S)) ∧ Below w.heap.size w w' := by
  have HT := Lib.hid hT
  have H10 := Lib.hid hT10
  clear hT hT10
  go_enter Tryz.func24, Tryz.ntmps24
  go_wp2_with fail
  refine (BD.out _ (HT.out.alloc _) (H10.out.below ((Below.refl _ _).alloc (Nat.le_refl _) _))).mono ?_
  rintro e w1 ⟨rfl, hb⟩
  have X := Lib.hid ((Bx8.new w _ _ _ _ _ _ _ _ _).below hb)
  have B : Hid (Below w.heap.size w w1) := Lib.hid (bl_thru ((Below.refl w.heap.size w).alloc (Nat.le_refl _) _) (Nat.le_refl _) hb)
  clear hb
  obtain ⟨z10, z11, z12, z13, z14, z15, z16, z17⟩ := X.out.cells
  clear z11 z12 z13 z14 z16
  go_wp2
  go_ret
  exact ⟨rfl, B.out⟩
set_option maxRecDepth 100000 in
set_option maxHeartbeats 4000000 in
theorem wv_abd (mi pl bl ze : Bool) (wd pr : Int) (hp : 0 ≤ pr) (hp2 : pr ≤ 1000) (hp3 : -1000 ≤ pr) (x : Int) (S : ByteArray) (c2 : Bool) (e1 : Int)  (w : World) (hT : Tab w) (hT10 : Tab10 w)
    (BD : Hid (∀ w' : World, Tab w' → Tab10 w' → Calls Tryz.prog 52 #[.int .u64 x, .int .i64 pr, .int .i64 0] w' fun e w2 => e = .returned (.tuple #[.string S, .bool c2, .int .i64 e1]) ∧ Below w'.heap.size w' w2))
    (CT : Hid (∀ w' : World, Calls Tryz.prog 53 #[.string S, .string ⟨#[46]⟩] w' fun e w2 => e = .returned (.bool true) ∧ w2 = w')) :
    Calls Tryz.prog 24 #[.agg #[.int .i64 97, .bool mi, .bool pl, .bool bl, .bool ze, .bool true, .int .i64 wd, .int .i64 pr], .int .u64 x] w fun e w' => e = .returned (.string (S)) ∧ Below w.heap.size w w' := by
  have HT := Lib.hid hT
  have H10 := Lib.hid hT10
  clear hT hT10
  go_enter Tryz.func24, Tryz.ntmps24
  go_wp2_with fail
  refine (BD.out _ (HT.out.alloc _) (H10.out.below ((Below.refl _ _).alloc (Nat.le_refl _) _))).mono ?_
  rintro e w1 ⟨rfl, hb⟩
  have X := Lib.hid ((Bx8.new w _ _ _ _ _ _ _ _ _).below hb)
  have B : Hid (Below w.heap.size w w1) := Lib.hid (bl_thru ((Below.refl w.heap.size w).alloc (Nat.le_refl _) _) (Nat.le_refl _) hb)
  clear hb
  obtain ⟨z10, z11, z12, z13, z14, z15, z16, z17⟩ := X.out.cells
  clear z11 z12 z13 z14 z16
  go_wp2_with (first
    | (go_at_call 53; refine (CT.out _).mono ?_; rintro e w2 ⟨rfl, rfl⟩))
  all_goals first
    | (go_ret; exact ⟨rfl, B.out⟩; done)
    | (exfalso; omega)
    | (exfalso; simp_all; done)
    | trace_state
set_option maxRecDepth 100000 in
set_option maxHeartbeats 4000000 in
theorem wv_abh (mi pl bl ze : Bool) (wd pr : Int) (hp : 0 ≤ pr) (hp2 : pr ≤ 1000) (hp3 : -1000 ≤ pr) (x : Int) (S : ByteArray) (c2 : Bool) (e1 : Int) (k n : Nat) (hk : k < n) (zn : n ≤ 10000) (zS : S.size = n) (w : World) (hT : Tab w) (hT10 : Tab10 w)
    (BD : Hid (∀ w' : World, Tab w' → Tab10 w' → Calls Tryz.prog 52 #[.int .u64 x, .int .i64 pr, .int .i64 0] w' fun e w2 => e = .returned (.tuple #[.string S, .bool c2, .int .i64 e1]) ∧ Below w'.heap.size w' w2))
    (CT : Hid (∀ w' : World, Calls Tryz.prog 53 #[.string S, .string ⟨#[46]⟩] w' fun e w2 => e = .returned (.bool false) ∧ w2 = w'))
    (IX : Hid (∀ w' : World, Calls Tryz.prog 47 #[.string S, .int .u8 112] w' fun e w2 => e = .returned (.int .i64 ((k : Nat) : Int)) ∧ w2 = w')) :
    Calls Tryz.prog 24 #[.agg #[.int .i64 97, .bool mi, .bool pl, .bool bl, .bool ze, .bool true, .int .i64 wd, .int .i64 pr], .int .u64 x] w fun e w' => e = .returned (.string (S.extract 0 k ++ ⟨#[46]⟩ ++ S.extract k n)) ∧ Below w.heap.size w w' := by
  have HT := Lib.hid hT
  have H10 := Lib.hid hT10
  clear hT hT10
  have z1 : (S.extract 0 k).size = k := by rw [ByteArray.size_extract]; omega
  have z2 : (S.extract k n).size ≤ 10000 := by rw [ByteArray.size_extract]; omega
  go_enter Tryz.func24, Tryz.ntmps24
  go_wp2_with fail
  refine (BD.out _ (HT.out.alloc _) (H10.out.below ((Below.refl _ _).alloc (Nat.le_refl _) _))).mono ?_
  rintro e w1 ⟨rfl, hb⟩
  have X := Lib.hid ((Bx8.new w _ _ _ _ _ _ _ _ _).below hb)
  have B : Hid (Below w.heap.size w w1) := Lib.hid (bl_thru ((Below.refl w.heap.size w).alloc (Nat.le_refl _) _) (Nat.le_refl _) hb)
  clear hb
  obtain ⟨z10, z11, z12, z13, z14, z15, z16, z17⟩ := X.out.cells
  clear z11 z12 z13 z14 z16
  go_wp2_with (first
    | (go_at_call 53; refine (CT.out _).mono ?_; rintro e w2 ⟨rfl, rfl⟩)
    | (go_at_call 47; refine (IX.out _).mono ?_; rintro e w2 ⟨rfl, rfl⟩))
  all_goals try (exfalso; omega)
  go_quiet (fail)
  replace B := Lib.hid (below_to_drewN (n := nq) B.out)
  go_wp2
  all_goals first
    | (go_ret; exact ⟨rfl, B.out⟩; done)
    | (exfalso; omega)
    | (exfalso; simp_all; done)
    | trace_state
set_option maxRecDepth 100000 in
set_option maxHeartbeats 4000000 in
theorem wv_abm (mi pl bl ze : Bool) (wd pr : Int) (hp : 0 ≤ pr) (hp2 : pr ≤ 1000) (hp3 : -1000 ≤ pr) (x : Int) (S : ByteArray) (c2 : Bool) (e1 : Int) (n : Nat) (zn : n ≤ 10000) (zS : S.size = n) (w : World) (hT : Tab w) (hT10 : Tab10 w)
    (BD : Hid (∀ w' : World, Tab w' → Tab10 w' → Calls Tryz.prog 52 #[.int .u64 x, .int .i64 pr, .int .i64 0] w' fun e w2 => e = .returned (.tuple #[.string S, .bool c2, .int .i64 e1]) ∧ Below w'.heap.size w' w2))
    (CT : Hid (∀ w' : World, Calls Tryz.prog 53 #[.string S, .string ⟨#[46]⟩] w' fun e w2 => e = .returned (.bool false) ∧ w2 = w'))
    (IX : Hid (∀ w' : World, Calls Tryz.prog 47 #[.string S, .int .u8 112] w' fun e w2 => e = .returned (.int .i64 (-1)) ∧ w2 = w')) :
    Calls Tryz.prog 24 #[.agg #[.int .i64 97, .bool mi, .bool pl, .bool bl, .bool ze, .bool true, .int .i64 wd, .int .i64 pr], .int .u64 x] w fun e w' => e = .returned (.string (S.extract 0 n ++ ⟨#[46]⟩)) ∧ Below w.heap.size w w' := by
  have HT := Lib.hid hT
  have H10 := Lib.hid hT10
  clear hT hT10
  go_enter Tryz.func24, Tryz.ntmps24
  go_wp2_with fail
  refine (BD.out _ (HT.out.alloc _) (H10.out.below ((Below.refl _ _).alloc (Nat.le_refl _) _))).mono ?_
  rintro e w1 ⟨rfl, hb⟩
  have X := Lib.hid ((Bx8.new w _ _ _ _ _ _ _ _ _).below hb)
  have B : Hid (Below w.heap.size w w1) := Lib.hid (bl_thru ((Below.refl w.heap.size w).alloc (Nat.le_refl _) _) (Nat.le_refl _) hb)
  clear hb
  obtain ⟨z10, z11, z12, z13, z14, z15, z16, z17⟩ := X.out.cells
  clear z11 z12 z13 z14 z16
  go_wp2_with (first
    | (go_at_call 53; refine (CT.out _).mono ?_; rintro e w2 ⟨rfl, rfl⟩)
    | (go_at_call 47; refine (IX.out _).mono ?_; rintro e w2 ⟨rfl, rfl⟩))
  all_goals try (exfalso; omega)
  go_quiet (fail)
  replace B := Lib.hid (below_to_drewN (n := nq) B.out)
  go_wp2
  all_goals first
    | (go_ret; exact ⟨rfl, B.out⟩; done)
    | (exfalso; omega)
    | (exfalso; simp_all; done)
    | trace_state
theorem wvx_fa (mi pl bl ze al : Bool) (wd pr : Int) (hp : pr < 0) (hp2 : pr ≤ 1000) (hp3 : -1000 ≤ pr) (x : Int) (s : List UInt8) (S : ByteArray) (hS : S = ⟨s.toArray⟩) (hl : s.length ≤ 10000) (c2 : Bool) (e1 : Int) (w : World) (hT : Tab w) (hT10 : Tab10 w)
    (BD : Hid (∀ w' : World, Tab w' → Tab10 w' → Calls Tryz.prog 48 #[.int .u64 x, .int .i64 6, .int .i64 0] w' fun e w2 => e = .returned (.tuple #[.string S, .bool c2, .int .i64 e1]) ∧ Below w'.heap.size w' w2)) :
    Calls Tryz.prog 24 #[.agg #[.int .i64 102, .bool mi, .bool pl, .bool bl, .bool ze, .bool al, .int .i64 wd, .int .i64 pr], .int .u64 x] w fun e w' => e = .returned (.string ⟨(if al = true ∧ 46 ∉ s then wIns 101 s else s).toArray⟩) ∧ Below w.heap.size w w' := by
  have zS : S.size = s.length := by rw [hS]; rfl
  cases al
  · have := wv_fan mi pl bl ze wd pr hp hp2 hp3 x S c2 e1 w hT hT10 BD
    rw [hS] at this
    rw [if_neg (by simp)]
    exact this
  have CT := Lib.hid (fun w' => contains_any S 46 w')
  rw [w_has, show S.data.toList = s by rw [hS]] at CT
  by_cases hd : (46 : UInt8) ∈ s
  · rw [decide_eq_true hd] at CT
    have := wv_fad mi pl bl ze wd pr hp hp2 hp3 x S c2 e1 w hT hT10 BD CT
    rw [hS] at this
    rw [if_neg (fun h => h.2 hd)]
    exact this
  · rw [decide_eq_false hd] at CT
    have IX := Lib.hid (fun w' => indexByteS_any S 101 w')
    rw [show S.data.toList = s by rw [hS], show Int.toNat 101 = 101 from rfl, show Nat.toUInt8 101 = 101 from rfl] at IX
    rw [if_pos ⟨rfl, hd⟩]
    have el := w_left hS 101
    have er := w_right hS 101
    rcases w_index 101 s with ⟨g1, g2, g3⟩ | ⟨g1, g2, g3⟩
    · rw [g3] at IX
      have := wv_fam mi pl bl ze wd pr hp hp2 hp3 x S c2 e1 s.length hl zS w hT hT10 BD CT IX
      rw [← zS, ByteArray.extract_zero_size] at this
      have e2 : S ++ ⟨#[46]⟩ = ⟨(wIns 101 s).toArray⟩ := by
        rw [hS]
        unfold wIns
        rw [g1, g2, List.append_nil]
        exact ba_app s [46] rfl rfl
      rw [e2] at this
      exact this
    · rw [g3] at IX
      have := wv_fah mi pl bl ze wd pr hp hp2 hp3 x S c2 e1 (wA 101 s).length s.length g2 hl zS w hT hT10 BD CT IX
      have e2 : S.extract 0 (wA 101 s).length ++ ⟨#[46]⟩ ++ S.extract (wA 101 s).length s.length = ⟨(wIns 101 s).toArray⟩ := by
        rw [el, er]
        unfold wIns
        rw [ba_app (wA 101 s) [46] rfl rfl, ba_app (wA 101 s ++ [46]) (wB 101 s) rfl rfl]
      rw [e2] at this
      exact this
theorem wvx_fb (mi pl bl ze al : Bool) (wd pr : Int) (hp : 0 ≤ pr) (hp2 : pr ≤ 1000) (hp3 : -1000 ≤ pr) (x : Int) (s : List UInt8) (S : ByteArray) (hS : S = ⟨s.toArray⟩) (hl : s.length ≤ 10000) (c2 : Bool) (e1 : Int) (w : World) (hT : Tab w) (hT10 : Tab10 w)
    (BD : Hid (∀ w' : World, Tab w' → Tab10 w' → Calls Tryz.prog 48 #[.int .u64 x, .int .i64 pr, .int .i64 0] w' fun e w2 => e = .returned (.tuple #[.string S, .bool c2, .int .i64 e1]) ∧ Below w'.heap.size w' w2)) :
    Calls Tryz.prog 24 #[.agg #[.int .i64 102, .bool mi, .bool pl, .bool bl, .bool ze, .bool al, .int .i64 wd, .int .i64 pr], .int .u64 x] w fun e w' => e = .returned (.string ⟨(if al = true ∧ 46 ∉ s then wIns 101 s else s).toArray⟩) ∧ Below w.heap.size w w' := by
  have zS : S.size = s.length := by rw [hS]; rfl
  cases al
  · have := wv_fbn mi pl bl ze wd pr hp hp2 hp3 x S c2 e1 w hT hT10 BD
    rw [hS] at this
    rw [if_neg (by simp)]
    exact this
  have CT := Lib.hid (fun w' => contains_any S 46 w')
  rw [w_has, show S.data.toList = s by rw [hS]] at CT
  by_cases hd : (46 : UInt8) ∈ s
  · rw [decide_eq_true hd] at CT
    have := wv_fbd mi pl bl ze wd pr hp hp2 hp3 x S c2 e1 w hT hT10 BD CT
    rw [hS] at this
    rw [if_neg (fun h => h.2 hd)]
    exact this
  · rw [decide_eq_false hd] at CT
    have IX := Lib.hid (fun w' => indexByteS_any S 101 w')
    rw [show S.data.toList = s by rw [hS], show Int.toNat 101 = 101 from rfl, show Nat.toUInt8 101 = 101 from rfl] at IX
    rw [if_pos ⟨rfl, hd⟩]
    have el := w_left hS 101
    have er := w_right hS 101
    rcases w_index 101 s with ⟨g1, g2, g3⟩ | ⟨g1, g2, g3⟩
    · rw [g3] at IX
      have := wv_fbm mi pl bl ze wd pr hp hp2 hp3 x S c2 e1 s.length hl zS w hT hT10 BD CT IX
      rw [← zS, ByteArray.extract_zero_size] at this
      have e2 : S ++ ⟨#[46]⟩ = ⟨(wIns 101 s).toArray⟩ := by
        rw [hS]
        unfold wIns
        rw [g1, g2, List.append_nil]
        exact ba_app s [46] rfl rfl
      rw [e2] at this
      exact this
    · rw [g3] at IX
      have := wv_fbh mi pl bl ze wd pr hp hp2 hp3 x S c2 e1 (wA 101 s).length s.length g2 hl zS w hT hT10 BD CT IX
      have e2 : S.extract 0 (wA 101 s).length ++ ⟨#[46]⟩ ++ S.extract (wA 101 s).length s.length = ⟨(wIns 101 s).toArray⟩ := by
        rw [el, er]
        unfold wIns
        rw [ba_app (wA 101 s) [46] rfl rfl, ba_app (wA 101 s ++ [46]) (wB 101 s) rfl rfl]
      rw [e2] at this
      exact this
theorem wvx_ea (mi pl bl ze al : Bool) (wd pr : Int) (hp : pr < 0) (hp2 : pr ≤ 1000) (hp3 : -1000 ≤ pr) (x : Int) (s : List UInt8) (S : ByteArray) (hS : S = ⟨s.toArray⟩) (hl : s.length ≤ 10000) (c2 : Bool) (e1 : Int) (w : World) (hT : Tab w) (hT10 : Tab10 w)
    (BD : Hid (∀ w' : World, Tab w' → Tab10 w' → Calls Tryz.prog 49 #[.int .u64 x, .int .i64 7, .int .i64 0] w' fun e w2 => e = .returned (.tuple #[.string S, .bool c2, .int .i64 e1]) ∧ Below w'.heap.size w' w2)) :
    Calls Tryz.prog 24 #[.agg #[.int .i64 101, .bool mi, .bool pl, .bool bl, .bool ze, .bool al, .int .i64 wd, .int .i64 pr], .int .u64 x] w fun e w' => e = .returned (.string ⟨(if al = true ∧ 46 ∉ s then wIns 101 s else s).toArray⟩) ∧ Below w.heap.size w w' := by
  have zS : S.size = s.length := by rw [hS]; rfl
  cases al
  · have := wv_ean mi pl bl ze wd pr hp hp2 hp3 x S c2 e1 w hT hT10 BD
    rw [hS] at this
    rw [if_neg (by simp)]
    exact this
  have CT := Lib.hid (fun w' => contains_any S 46 w')
  rw [w_has, show S.data.toList = s by rw [hS]] at CT
  by_cases hd : (46 : UInt8) ∈ s
  · rw [decide_eq_true hd] at CT
    have := wv_ead mi pl bl ze wd pr hp hp2 hp3 x S c2 e1 w hT hT10 BD CT
    rw [hS] at this
    rw [if_neg (fun h => h.2 hd)]
    exact this
  · rw [decide_eq_false hd] at CT
    have IX := Lib.hid (fun w' => indexByteS_any S 101 w')
    rw [show S.data.toList = s by rw [hS], show Int.toNat 101 = 101 from rfl, show Nat.toUInt8 101 = 101 from rfl] at IX
    rw [if_pos ⟨rfl, hd⟩]
    have el := w_left hS 101
    have er := w_right hS 101
    rcases w_index 101 s with ⟨g1, g2, g3⟩ | ⟨g1, g2, g3⟩
    · rw [g3] at IX
      have := wv_eam mi pl bl ze wd pr hp hp2 hp3 x S c2 e1 s.length hl zS w hT hT10 BD CT IX
      rw [← zS, ByteArray.extract_zero_size] at this
      have e2 : S ++ ⟨#[46]⟩ = ⟨(wIns 101 s).toArray⟩ := by
        rw [hS]
        unfold wIns
        rw [g1, g2, List.append_nil]
        exact ba_app s [46] rfl rfl
      rw [e2] at this
      exact this
    · rw [g3] at IX
      have := wv_eah mi pl bl ze wd pr hp hp2 hp3 x S c2 e1 (wA 101 s).length s.length g2 hl zS w hT hT10 BD CT IX
      have e2 : S.extract 0 (wA 101 s).length ++ ⟨#[46]⟩ ++ S.extract (wA 101 s).length s.length = ⟨(wIns 101 s).toArray⟩ := by
        rw [el, er]
        unfold wIns
        rw [ba_app (wA 101 s) [46] rfl rfl, ba_app (wA 101 s ++ [46]) (wB 101 s) rfl rfl]
      rw [e2] at this
      exact this
theorem wvx_eb (mi pl bl ze al : Bool) (wd pr : Int) (hp : 0 ≤ pr) (hp2 : pr ≤ 1000) (hp3 : -1000 ≤ pr) (x : Int) (s : List UInt8) (S : ByteArray) (hS : S = ⟨s.toArray⟩) (hl : s.length ≤ 10000) (c2 : Bool) (e1 : Int) (w : World) (hT : Tab w) (hT10 : Tab10 w)
    (BD : Hid (∀ w' : World, Tab w' → Tab10 w' → Calls Tryz.prog 49 #[.int .u64 x, .int .i64 (pr + 1), .int .i64 0] w' fun e w2 => e = .returned (.tuple #[.string S, .bool c2, .int .i64 e1]) ∧ Below w'.heap.size w' w2)) :
    Calls Tryz.prog 24 #[.agg #[.int .i64 101, .bool mi, .bool pl, .bool bl, .bool ze, .bool al, .int .i64 wd, .int .i64 pr], .int .u64 x] w fun e w' => e = .returned (.string ⟨(if al = true ∧ 46 ∉ s then wIns 101 s else s).toArray⟩) ∧ Below w.heap.size w w' := by
  have zS : S.size = s.length := by rw [hS]; rfl
  cases al
  · have := wv_ebn mi pl bl ze wd pr hp hp2 hp3 x S c2 e1 w hT hT10 BD
    rw [hS] at this
    rw [if_neg (by simp)]
    exact this
  have CT := Lib.hid (fun w' => contains_any S 46 w')
  rw [w_has, show S.data.toList = s by rw [hS]] at CT
  by_cases hd : (46 : UInt8) ∈ s
  · rw [decide_eq_true hd] at CT
    have := wv_ebd mi pl bl ze wd pr hp hp2 hp3 x S c2 e1 w hT hT10 BD CT
    rw [hS] at this
    rw [if_neg (fun h => h.2 hd)]
    exact this
  · rw [decide_eq_false hd] at CT
    have IX := Lib.hid (fun w' => indexByteS_any S 101 w')
    rw [show S.data.toList = s by rw [hS], show Int.toNat 101 = 101 from rfl, show Nat.toUInt8 101 = 101 from rfl] at IX
    rw [if_pos ⟨rfl, hd⟩]
    have el := w_left hS 101
    have er := w_right hS 101
    rcases w_index 101 s with ⟨g1, g2, g3⟩ | ⟨g1, g2, g3⟩
    · rw [g3] at IX
      have := wv_ebm mi pl bl ze wd pr hp hp2 hp3 x S c2 e1 s.length hl zS w hT hT10 BD CT IX
      rw [← zS, ByteArray.extract_zero_size] at this
      have e2 : S ++ ⟨#[46]⟩ = ⟨(wIns 101 s).toArray⟩ := by
        rw [hS]
        unfold wIns
        rw [g1, g2, List.append_nil]
        exact ba_app s [46] rfl rfl
      rw [e2] at this
      exact this
    · rw [g3] at IX
      have := wv_ebh mi pl bl ze wd pr hp hp2 hp3 x S c2 e1 (wA 101 s).length s.length g2 hl zS w hT hT10 BD CT IX
      have e2 : S.extract 0 (wA 101 s).length ++ ⟨#[46]⟩ ++ S.extract (wA 101 s).length s.length = ⟨(wIns 101 s).toArray⟩ := by
        rw [el, er]
        unfold wIns
        rw [ba_app (wA 101 s) [46] rfl rfl, ba_app (wA 101 s ++ [46]) (wB 101 s) rfl rfl]
      rw [e2] at this
      exact this
theorem wvx_ga (mi pl bl ze al : Bool) (wd pr : Int) (hp : pr < 0) (hp2 : pr ≤ 1000) (hp3 : -1000 ≤ pr) (x : Int) (s : List UInt8) (S : ByteArray) (hS : S = ⟨s.toArray⟩) (hl : s.length ≤ 10000) (c2 : Bool) (e1 : Int) (w : World) (hT : Tab w) (hT10 : Tab10 w)
    (BD : Hid (∀ w' : World, Tab w' → Tab10 w' → Calls Tryz.prog 50 #[.agg #[.int .i64 103, .bool mi, .bool pl, .bool bl, .bool ze, .bool al, .int .i64 wd, .int .i64 pr], .int .u64 x, .int .i64 6] w' fun e w2 => e = .returned (.string S) ∧ Below w'.heap.size w' w2)) :
    Calls Tryz.prog 24 #[.agg #[.int .i64 103, .bool mi, .bool pl, .bool bl, .bool ze, .bool al, .int .i64 wd, .int .i64 pr], .int .u64 x] w fun e w' => e = .returned (.string ⟨(if al = true ∧ 46 ∉ s then wIns 101 s else s).toArray⟩) ∧ Below w.heap.size w w' := by
  have zS : S.size = s.length := by rw [hS]; rfl
  cases al
  · have := wv_gan mi pl bl ze wd pr hp hp2 hp3 x S c2 e1 w hT hT10 BD
    rw [hS] at this
    rw [if_neg (by simp)]
    exact this
  have CT := Lib.hid (fun w' => contains_any S 46 w')
  rw [w_has, show S.data.toList = s by rw [hS]] at CT
  by_cases hd : (46 : UInt8) ∈ s
  · rw [decide_eq_true hd] at CT
    have := wv_gad mi pl bl ze wd pr hp hp2 hp3 x S c2 e1 w hT hT10 BD CT
    rw [hS] at this
    rw [if_neg (fun h => h.2 hd)]
    exact this
  · rw [decide_eq_false hd] at CT
    have IX := Lib.hid (fun w' => indexByteS_any S 101 w')
    rw [show S.data.toList = s by rw [hS], show Int.toNat 101 = 101 from rfl, show Nat.toUInt8 101 = 101 from rfl] at IX
    rw [if_pos ⟨rfl, hd⟩]
    have el := w_left hS 101
    have er := w_right hS 101
    rcases w_index 101 s with ⟨g1, g2, g3⟩ | ⟨g1, g2, g3⟩
    · rw [g3] at IX
      have := wv_gam mi pl bl ze wd pr hp hp2 hp3 x S c2 e1 s.length hl zS w hT hT10 BD CT IX
      rw [← zS, ByteArray.extract_zero_size] at this
      have e2 : S ++ ⟨#[46]⟩ = ⟨(wIns 101 s).toArray⟩ := by
        rw [hS]
        unfold wIns
        rw [g1, g2, List.append_nil]
        exact ba_app s [46] rfl rfl
      rw [e2] at this
      exact this
    · rw [g3] at IX
      have := wv_gah mi pl bl ze wd pr hp hp2 hp3 x S c2 e1 (wA 101 s).length s.length g2 hl zS w hT hT10 BD CT IX
      have e2 : S.extract 0 (wA 101 s).length ++ ⟨#[46]⟩ ++ S.extract (wA 101 s).length s.length = ⟨(wIns 101 s).toArray⟩ := by
        rw [el, er]
        unfold wIns
        rw [ba_app (wA 101 s) [46] rfl rfl, ba_app (wA 101 s ++ [46]) (wB 101 s) rfl rfl]
      rw [e2] at this
      exact this
theorem wvx_gb (mi pl bl ze al : Bool) (wd pr : Int) (hp : 0 ≤ pr) (hp2 : pr ≤ 1000) (hp3 : -1000 ≤ pr) (x : Int) (s : List UInt8) (S : ByteArray) (hS : S = ⟨s.toArray⟩) (hl : s.length ≤ 10000) (c2 : Bool) (e1 : Int) (w : World) (hT : Tab w) (hT10 : Tab10 w)
    (BD : Hid (∀ w' : World, Tab w' → Tab10 w' → Calls Tryz.prog 50 #[.agg #[.int .i64 103, .bool mi, .bool pl, .bool bl, .bool ze, .bool al, .int .i64 wd, .int .i64 pr], .int .u64 x, .int .i64 pr] w' fun e w2 => e = .returned (.string S) ∧ Below w'.heap.size w' w2)) :
    Calls Tryz.prog 24 #[.agg #[.int .i64 103, .bool mi, .bool pl, .bool bl, .bool ze, .bool al, .int .i64 wd, .int .i64 pr], .int .u64 x] w fun e w' => e = .returned (.string ⟨(if al = true ∧ 46 ∉ s then wIns 101 s else s).toArray⟩) ∧ Below w.heap.size w w' := by
  have zS : S.size = s.length := by rw [hS]; rfl
  cases al
  · have := wv_gbn mi pl bl ze wd pr hp hp2 hp3 x S c2 e1 w hT hT10 BD
    rw [hS] at this
    rw [if_neg (by simp)]
    exact this
  have CT := Lib.hid (fun w' => contains_any S 46 w')
  rw [w_has, show S.data.toList = s by rw [hS]] at CT
  by_cases hd : (46 : UInt8) ∈ s
  · rw [decide_eq_true hd] at CT
    have := wv_gbd mi pl bl ze wd pr hp hp2 hp3 x S c2 e1 w hT hT10 BD CT
    rw [hS] at this
    rw [if_neg (fun h => h.2 hd)]
    exact this
  · rw [decide_eq_false hd] at CT
    have IX := Lib.hid (fun w' => indexByteS_any S 101 w')
    rw [show S.data.toList = s by rw [hS], show Int.toNat 101 = 101 from rfl, show Nat.toUInt8 101 = 101 from rfl] at IX
    rw [if_pos ⟨rfl, hd⟩]
    have el := w_left hS 101
    have er := w_right hS 101
    rcases w_index 101 s with ⟨g1, g2, g3⟩ | ⟨g1, g2, g3⟩
    · rw [g3] at IX
      have := wv_gbm mi pl bl ze wd pr hp hp2 hp3 x S c2 e1 s.length hl zS w hT hT10 BD CT IX
      rw [← zS, ByteArray.extract_zero_size] at this
      have e2 : S ++ ⟨#[46]⟩ = ⟨(wIns 101 s).toArray⟩ := by
        rw [hS]
        unfold wIns
        rw [g1, g2, List.append_nil]
        exact ba_app s [46] rfl rfl
      rw [e2] at this
      exact this
    · rw [g3] at IX
      have := wv_gbh mi pl bl ze wd pr hp hp2 hp3 x S c2 e1 (wA 101 s).length s.length g2 hl zS w hT hT10 BD CT IX
      have e2 : S.extract 0 (wA 101 s).length ++ ⟨#[46]⟩ ++ S.extract (wA 101 s).length s.length = ⟨(wIns 101 s).toArray⟩ := by
        rw [el, er]
        unfold wIns
        rw [ba_app (wA 101 s) [46] rfl rfl, ba_app (wA 101 s ++ [46]) (wB 101 s) rfl rfl]
      rw [e2] at this
      exact this
theorem wvx_aa (mi pl bl ze al : Bool) (wd pr : Int) (hp : pr < 0) (hp2 : pr ≤ 1000) (hp3 : -1000 ≤ pr) (x : Int) (s : List UInt8) (S : ByteArray) (hS : S = ⟨s.toArray⟩) (hl : s.length ≤ 10000) (c2 : Bool) (e1 : Int) (w : World) (hT : Tab w) (hT10 : Tab10 w)
    (BD : Hid (∀ w' : World, Tab w' → Tab10 w' → Calls Tryz.prog 51 #[.int .u64 x] w' fun e w2 => e = .returned (.string S) ∧ Below w'.heap.size w' w2)) :
    Calls Tryz.prog 24 #[.agg #[.int .i64 97, .bool mi, .bool pl, .bool bl, .bool ze, .bool al, .int .i64 wd, .int .i64 pr], .int .u64 x] w fun e w' => e = .returned (.string ⟨(if al = true ∧ 46 ∉ s then wIns 112 s else s).toArray⟩) ∧ Below w.heap.size w w' := by
  have zS : S.size = s.length := by rw [hS]; rfl
  cases al
  · have := wv_aan mi pl bl ze wd pr hp hp2 hp3 x S c2 e1 w hT hT10 BD
    rw [hS] at this
    rw [if_neg (by simp)]
    exact this
  have CT := Lib.hid (fun w' => contains_any S 46 w')
  rw [w_has, show S.data.toList = s by rw [hS]] at CT
  by_cases hd : (46 : UInt8) ∈ s
  · rw [decide_eq_true hd] at CT
    have := wv_aad mi pl bl ze wd pr hp hp2 hp3 x S c2 e1 w hT hT10 BD CT
    rw [hS] at this
    rw [if_neg (fun h => h.2 hd)]
    exact this
  · rw [decide_eq_false hd] at CT
    have IX := Lib.hid (fun w' => indexByteS_any S 112 w')
    rw [show S.data.toList = s by rw [hS], show Int.toNat 112 = 112 from rfl, show Nat.toUInt8 112 = 112 from rfl] at IX
    rw [if_pos ⟨rfl, hd⟩]
    have el := w_left hS 112
    have er := w_right hS 112
    rcases w_index 112 s with ⟨g1, g2, g3⟩ | ⟨g1, g2, g3⟩
    · rw [g3] at IX
      have := wv_aam mi pl bl ze wd pr hp hp2 hp3 x S c2 e1 s.length hl zS w hT hT10 BD CT IX
      rw [← zS, ByteArray.extract_zero_size] at this
      have e2 : S ++ ⟨#[46]⟩ = ⟨(wIns 112 s).toArray⟩ := by
        rw [hS]
        unfold wIns
        rw [g1, g2, List.append_nil]
        exact ba_app s [46] rfl rfl
      rw [e2] at this
      exact this
    · rw [g3] at IX
      have := wv_aah mi pl bl ze wd pr hp hp2 hp3 x S c2 e1 (wA 112 s).length s.length g2 hl zS w hT hT10 BD CT IX
      have e2 : S.extract 0 (wA 112 s).length ++ ⟨#[46]⟩ ++ S.extract (wA 112 s).length s.length = ⟨(wIns 112 s).toArray⟩ := by
        rw [el, er]
        unfold wIns
        rw [ba_app (wA 112 s) [46] rfl rfl, ba_app (wA 112 s ++ [46]) (wB 112 s) rfl rfl]
      rw [e2] at this
      exact this
theorem wvx_ab (mi pl bl ze al : Bool) (wd pr : Int) (hp : 0 ≤ pr) (hp2 : pr ≤ 1000) (hp3 : -1000 ≤ pr) (x : Int) (s : List UInt8) (S : ByteArray) (hS : S = ⟨s.toArray⟩) (hl : s.length ≤ 10000) (c2 : Bool) (e1 : Int) (w : World) (hT : Tab w) (hT10 : Tab10 w)
    (BD : Hid (∀ w' : World, Tab w' → Tab10 w' → Calls Tryz.prog 52 #[.int .u64 x, .int .i64 pr, .int .i64 0] w' fun e w2 => e = .returned (.tuple #[.string S, .bool c2, .int .i64 e1]) ∧ Below w'.heap.size w' w2)) :
    Calls Tryz.prog 24 #[.agg #[.int .i64 97, .bool mi, .bool pl, .bool bl, .bool ze, .bool al, .int .i64 wd, .int .i64 pr], .int .u64 x] w fun e w' => e = .returned (.string ⟨(if al = true ∧ 46 ∉ s then wIns 112 s else s).toArray⟩) ∧ Below w.heap.size w w' := by
  have zS : S.size = s.length := by rw [hS]; rfl
  cases al
  · have := wv_abn mi pl bl ze wd pr hp hp2 hp3 x S c2 e1 w hT hT10 BD
    rw [hS] at this
    rw [if_neg (by simp)]
    exact this
  have CT := Lib.hid (fun w' => contains_any S 46 w')
  rw [w_has, show S.data.toList = s by rw [hS]] at CT
  by_cases hd : (46 : UInt8) ∈ s
  · rw [decide_eq_true hd] at CT
    have := wv_abd mi pl bl ze wd pr hp hp2 hp3 x S c2 e1 w hT hT10 BD CT
    rw [hS] at this
    rw [if_neg (fun h => h.2 hd)]
    exact this
  · rw [decide_eq_false hd] at CT
    have IX := Lib.hid (fun w' => indexByteS_any S 112 w')
    rw [show S.data.toList = s by rw [hS], show Int.toNat 112 = 112 from rfl, show Nat.toUInt8 112 = 112 from rfl] at IX
    rw [if_pos ⟨rfl, hd⟩]
    have el := w_left hS 112
    have er := w_right hS 112
    rcases w_index 112 s with ⟨g1, g2, g3⟩ | ⟨g1, g2, g3⟩
    · rw [g3] at IX
      have := wv_abm mi pl bl ze wd pr hp hp2 hp3 x S c2 e1 s.length hl zS w hT hT10 BD CT IX
      rw [← zS, ByteArray.extract_zero_size] at this
      have e2 : S ++ ⟨#[46]⟩ = ⟨(wIns 112 s).toArray⟩ := by
        rw [hS]
        unfold wIns
        rw [g1, g2, List.append_nil]
        exact ba_app s [46] rfl rfl
      rw [e2] at this
      exact this
    · rw [g3] at IX
      have := wv_abh mi pl bl ze wd pr hp hp2 hp3 x S c2 e1 (wA 112 s).length s.length g2 hl zS w hT hT10 BD CT IX
      have e2 : S.extract 0 (wA 112 s).length ++ ⟨#[46]⟩ ++ S.extract (wA 112 s).length s.length = ⟨(wIns 112 s).toArray⟩ := by
        rw [el, er]
        unfold wIns
        rw [ba_app (wA 112 s) [46] rfl rfl, ba_app (wA 112 s ++ [46]) (wB 112 s) rfl rfl]
      rw [e2] at this
      exact this
end Go.Proofs.YtofdjfdnckmmmaaGreatDoor
