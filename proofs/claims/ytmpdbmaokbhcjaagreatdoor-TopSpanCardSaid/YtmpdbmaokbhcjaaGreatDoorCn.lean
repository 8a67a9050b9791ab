/-
  SOME OF MY TEXTS in one: Sd2 Cd Cp Mcm Mw. Each says what it proves.
-/
import Derived.Test.YtmpdbmaokbhcjaaGreatDoorSh
import Derived.Test.YtmpdbmaokbhcjaaGreatDoorBp
import Derived.Test.YtmpdbmaokbhcjaaGreatDoorSb
set_option linter.unusedVariables false
set_option linter.unusedSimpArgs false
/-
  THE WALK of span.Add.
-/
namespace Go.Proofs.YtmpdbmaokbhcjaaGreatDoor
open Go.RowKit Nt Fm Fl

def saLo (a b c d : Int) : Int := if spE2 a b c d = 0 then plV (adV a c 2) else 0
def saHi (a b c d : Int) : Int := if spE2 a b c d = 0 then plV (adV b d 1) else 0
set_option maxRecDepth 100000 in
set_option maxHeartbeats 8000000 in
theorem spAdd_any (a b c d : Int) (a0 : 0 ≤ a) (a1 : a ≤ 18446744073709551615) (b0 : 0 ≤ b) (b1 : b ≤ 18446744073709551615) (c0 : 0 ≤ c) (c1 : c ≤ 18446744073709551615) (d0 : 0 ≤ d) (d1 : d ≤ 18446744073709551615) (w : World) (hT : Tab w) :
    Calls Tryz.prog 11 #[.agg #[.int .u64 a, .int .u64 b], .agg #[.int .u64 c, .int .u64 d]] w fun e w' => e = .returned (.tuple #[.agg #[.int .u64 (saLo a b c d), .int .u64 (saHi a b c d)], .int .i64 (spE2 a b c d)]) ∧ Below w.heap.size w w' := by
  have C1 := Lib.hid (fun w' => spcheck_any a b c d a0 a1 b0 b1 c0 c1 d0 d1 w')
  have A1 := Lib.hid (fun w' h => sadd_any a c 2 a0 a1 c0 c1 w' h)
  have A2 := Lib.hid (fun w' h => sadd_any b d 1 b0 b1 d0 d1 w' h)
  have hcase : ((spE2 a b c d != 0) = true ∧ saLo a b c d = 0 ∧ saHi a b c d = 0) ∨ (spE2 a b c d = 0 ∧ saLo a b c d = plV (adV a c 2) ∧ saHi a b c d = plV (adV b d 1)) := by
    unfold saLo saHi
    by_cases h : spE2 a b c d = 0
    · right; simp [h]
    · left; simp [h]
  have HT := Lib.hid hT
  clear hT
  generalize saLo a b c d = lo at *
  generalize saHi a b c d = hi at *
  generalize spE2 a b c d = E at *
  rcases hcase with ⟨k1, rfl, rfl⟩ | ⟨rfl, rfl, rfl⟩
  all_goals
    go_enter Tryz.func11, Tryz.ntmps11
    go_wp2_with fail
    refine (C1.out _).mono ?_
    rintro e w1 ⟨rfl, hb⟩
    have X := Lib.hid (((Bx2.new w (.int .u64 a) (.int .u64 b) 24).alloc (.cells #[.int .u64 c, .int .u64 d] 24) |>.alloc (.cells #[.int .u64 0, .int .u64 0] 24)).below hb)
    have Y := Lib.hid (((Bx2.new2 w (.cells #[.int .u64 a, .int .u64 b] 24) (.int .u64 c) (.int .u64 d) 24).alloc (.cells #[.int .u64 0, .int .u64 0] 24)).below hb)
    have Z := Lib.hid ((Bx2.new3 w (.cells #[.int .u64 a, .int .u64 b] 24) (.cells #[.int .u64 c, .int .u64 d] 24) (.int .u64 0) (.int .u64 0) 24).below hb)
    have B1 := Lib.hid (bl_thru (bl_alloc3 w (.cells #[.int .u64 a, .int .u64 b] 24) (.cells #[.int .u64 c, .int .u64 d] 24) (.cells #[.int .u64 0, .int .u64 0] 24)) (Nat.le_refl _) hb)
    clear hb
  · obtain ⟨z0, z1, z2, z3⟩ := Z.out.cells
    go_wp2
    refine bodyPost_ret (v := .tuple #[.agg #[.int .u64 0, .int .u64 0], .int .i64 E]) (by simp [results, Tryz.results11, go_sem, z0, z1, z2, z3]) rfl ?_
    exact ⟨rfl, (B1.out.setCell (p := ⟨w.heap.size + 1 + 1, 0, none⟩) (by show _ ≤ w.heap.size + 1 + 1; omega) _).setCell (p := ⟨w.heap.size + 1 + 1, 1, none⟩) (by show _ ≤ w.heap.size + 1 + 1; omega) _⟩
  · obtain ⟨x0, x1, -, -⟩ := X.out.cells
    obtain ⟨y0, y1, -, -⟩ := Y.out.cells
    go_wp2_with fail
    refine (A1.out _ (HT.out.below B1.out)).mono ?_
    rintro e w2 ⟨rfl, hb⟩
    have X2 := Lib.hid (X.out.below hb)
    have Y2 := Lib.hid (Y.out.below hb)
    have Z2 := Lib.hid (Z.out.below hb)
    have B2 := Lib.hid (bl_thru B1.out (Nat.le_refl _) hb)
    clear hb x0 x1 y0 y1
    obtain ⟨x0, x1, -, -⟩ := X2.out.cells
    obtain ⟨y0, y1, -, -⟩ := Y2.out.cells
    go_wp2_with fail
    refine (A2.out _ (HT.out.below B2.out)).mono ?_
    rintro e w3 ⟨rfl, hb⟩
    have Z3 := Lib.hid (Z2.out.below hb)
    have B3 := Lib.hid (bl_thru B2.out (Nat.le_refl _) hb)
    clear hb x0 x1 y0 y1
    obtain ⟨z0, z1, z2, z3⟩ := Z3.out.cells
    go_wp2_with (go_at_call 41; refine (plain_any _ _).mono ?_; rintro e w' ⟨rfl, rfl⟩)
    refine bodyPost_ret (v := .tuple #[.agg #[.int .u64 (plV (adV a c 2)), .int .u64 (plV (adV b d 1))], .int .i64 0]) (by simp [results, Tryz.results11, go_sem, z0, z1, z2, z3]) rfl ?_
    exact ⟨rfl, (B3.out.setCell (p := ⟨w.heap.size + 1 + 1, 0, none⟩) (by show _ ≤ w.heap.size + 1 + 1; omega) _).setCell (p := ⟨w.heap.size + 1 + 1, 1, none⟩) (by show _ ≤ w.heap.size + 1 + 1; omega) _⟩
end Go.Proofs.YtmpdbmaokbhcjaaGreatDoor

/-
  Aids for the walk of span.corners.
-/
namespace Go.Proofs.YtmpdbmaokbhcjaaGreatDoor
open Go.RowKit Nt Fm Fl

def cnX (a b : Int) (k : Nat) : Int := if k = 0 then a else b
def cnN (ok : Int → Int → Bool) (v : Int → Int → Int → Int) (c d x : Int) (s : Cn) : Nat → Cn
  | 0 => s
  | j + 1 => cnS ok v (cnN ok v c d x s j) x (cnX c d j)
def cnO (ok : Int → Int → Bool) (v : Int → Int → Int → Int) (a b c d : Int) : Nat → Cn
  | 0 => ⟨true, 0, 0⟩
  | k + 1 => cnN ok v c d (cnX a b k) (cnO ok v a b c d k) 2
theorem cnO_2 (ok : Int → Int → Bool) (v : Int → Int → Int → Int) (a b c d : Int) : cnO ok v a b c d 2 = cnF ok v a b c d := rfl
def CnB (s : Cn) : Prop := 0 ≤ s.lo ∧ s.lo ≤ 18446744073709551615 ∧ 0 ≤ s.hi ∧ s.hi ≤ 18446744073709551615
/-- what the memory holds in a round -/
structure CnW (w wr : World) (a b c d : Int) (s : Cn) : Prop where
  bd : CnB s
  bl : Below w.heap.size w wr
  b : Bx2 wr (w.heap.size + 1) 24 (.int .u64 c) (.int .u64 d)
  r : Bx2 wr (w.heap.size + 1 + 1) 24 (.int .u64 0) (.int .u64 0)
  o : Bx2 wr (w.heap.size + 1 + 1 + 1) 24 (.int .u64 s.lo) (.int .u64 s.hi)
theorem CnW.below {w wr w' : World} {a b c d : Int} {s : Cn} (h : CnW w wr a b c d s) (hb : Below wr.heap.size wr w') : CnW w w' a b c d s :=
  ⟨h.bd, bl_thru h.bl (Nat.le_refl _) hb, h.b.below hb, h.r.below hb, h.o.below hb⟩
theorem CnW.set0 {w wr : World} {a b c d : Int} {s s' : Cn} (h : CnW w wr a b c d s) (h1 : s'.hi = s.hi) (h2 : 0 ≤ s'.lo ∧ s'.lo ≤ 18446744073709551615) : CnW w (wr.setCell ⟨w.heap.size + 1 + 1 + 1, 0, none⟩ (.int .u64 s'.lo)) a b c d s' :=
  ⟨⟨h2.1, h2.2, by rw [h1]; exact h.bd.2.2.1, by rw [h1]; exact h.bd.2.2.2⟩, h.bl.setCell (p := ⟨w.heap.size + 1 + 1 + 1, 0, none⟩) (by show _ ≤ w.heap.size + 1 + 1 + 1; omega) _, h.b.set (by omega) _, h.r.set (by omega) _, by rw [h1]; exact h.o.set0 _⟩
theorem CnW.set1 {w wr : World} {a b c d : Int} {s s' : Cn} (h : CnW w wr a b c d s) (h1 : s'.lo = s.lo) (h2 : 0 ≤ s'.hi ∧ s'.hi ≤ 18446744073709551615) : CnW w (wr.setCell ⟨w.heap.size + 1 + 1 + 1, 1, none⟩ (.int .u64 s'.hi)) a b c d s' :=
  ⟨⟨by rw [h1]; exact h.bd.1, by rw [h1]; exact h.bd.2.1, h2.1, h2.2⟩, h.bl.setCell (p := ⟨w.heap.size + 1 + 1 + 1, 1, none⟩) (by show _ ≤ w.heap.size + 1 + 1 + 1; omega) _, h.b.set (by omega) _, h.r.set (by omega) _, by rw [h1]; exact h.o.set1 _⟩
theorem CnW.fst {w wr : World} {a b c d : Int} {s s' : Cn} (h : CnW w wr a b c d s) (h1 : s'.lo = s.lo) (h2 : s'.hi = s.hi) : CnW w wr a b c d s' :=
  ⟨by unfold CnB; rw [h1, h2]; exact h.bd, h.bl, h.b, h.r, by rw [h1, h2]; exact h.o⟩
theorem cn_below4 (w : World) (o p q r : Obj) : Below w.heap.size w ((((w.alloc o).alloc p).alloc q).alloc r) := by go_grown
theorem cn_b3 (w : World) (o p q : Obj) (x y : Value) (T : TypeId) : Bx2 ((((w.alloc o).alloc p).alloc q).alloc (.cells #[x, y] T)) (w.heap.size + 1 + 1 + 1) T x y := by
  have h := Bx2.new (((w.alloc o).alloc p).alloc q) x y T
  rw [show (((w.alloc o).alloc p).alloc q).heap.size = w.heap.size + 1 + 1 + 1 from by simp] at h; exact h
theorem cn_b2 (w : World) (o p q : Obj) (x y : Value) (T : TypeId) : Bx2 ((((w.alloc o).alloc p).alloc (.cells #[x, y] T)).alloc q) (w.heap.size + 1 + 1) T x y := (Bx2.new3 w o p x y T).alloc q
theorem cn_b1 (w : World) (o p q : Obj) (x y : Value) (T : TypeId) : Bx2 ((((w.alloc o).alloc (.cells #[x, y] T)).alloc p).alloc q) (w.heap.size + 1) T x y := ((Bx2.new2 w o x y T).alloc p).alloc q
end Go.Proofs.YtmpdbmaokbhcjaaGreatDoor

/-
  THE WALK of span.corners at span.Mul$1.
-/
namespace Go.Proofs.YtmpdbmaokbhcjaaGreatDoor
open Go.RowKit Nt Fm Fl

set_option maxRecDepth 100000 in
set_option maxHeartbeats 16000000 in
theorem corners_any (ok : Int → Int → Bool) (v : Int → Int → Int → Int) (a b c d : Int) (a0 : 0 ≤ a) (a1 : a ≤ 18446744073709551615) (b0 : 0 ≤ b) (b1 : b ≤ 18446744073709551615) (c0 : 0 ≤ c) (c1 : c ≤ 18446744073709551615) (d0 : 0 ≤ d) (d1 : d ≤ 18446744073709551615) (w : World) (hT : Tab w)
    (hv : ∀ x y m, 0 ≤ v x y m ∧ v x y m ≤ 18446744073709551615)
    (hf : ∀ x y m w', 0 ≤ x → x ≤ 18446744073709551615 → 0 ≤ y → y ≤ 18446744073709551615 → (m = 1 ∨ m = 2) → Tab w' → Calls Tryz.prog 43 #[.int .u64 x, .int .u64 y, .int .i64 m] w' fun e w'' => e = .returned (.tuple #[.int .u64 (v x y m), .bool (ok x y)]) ∧ Below w'.heap.size w' w'') :
    Calls Tryz.prog 42 #[.agg #[.int .u64 a, .int .u64 b], .agg #[.int .u64 c, .int .u64 d], .func (.func 43) #[] #[]] w fun e w' => e = .returned (.agg #[.int .u64 (cnLo ok v a b c d), .int .u64 (cnHi ok v a b c d)]) ∧ Below w.heap.size w w' := by
  have HT := Lib.hid hT
  have HV := Lib.hid hv
  have HF := Lib.hid hf
  have I1 : Hid (∀ k : Nat, k < 2 → (∀ w : World, (Instr.index 137 (.agg #[.int .u64 a, .int .u64 b]) (.int .i64 (k : Int))).run Tryz.prog w = .ok (.int .u64 (cnX a b k)) w) ∧ 0 ≤ cnX a b k ∧ cnX a b k ≤ 18446744073709551615) := Lib.hid (by
    intro k hk
    have : k = 0 ∨ k = 1 := by omega
    rcases this with rfl | rfl
    · exact ⟨fun _ => by kernel_rfl, a0, a1⟩
    · exact ⟨fun _ => by kernel_rfl, b0, b1⟩)
  have I2 : Hid (∀ k : Nat, k < 2 → (∀ w : World, (Instr.index 137 (.agg #[.int .u64 c, .int .u64 d]) (.int .i64 (k : Int))).run Tryz.prog w = .ok (.int .u64 (cnX c d k)) w) ∧ 0 ≤ cnX c d k ∧ cnX c d k ≤ 18446744073709551615) := Lib.hid (by
    intro k hk
    have : k = 0 ∨ k = 1 := by omega
    rcases this with rfl | rfl
    · exact ⟨fun _ => by kernel_rfl, c0, c1⟩
    · exact ⟨fun _ => by kernel_rfl, d0, d1⟩)
  clear hT hv hf
  go_enter Tryz.func42, Tryz.ntmps42
  go_wp2
  go_loopw [7, 22] (fun f i wr => ∃ (k : Nat) (s : Cn), k ≤ 2 ∧ i = .int .i64 k ∧ f = .bool s.fst ∧ Hid (s = cnO ok v a b c d k) ∧ Hid (CnW w wr a b c d s)) (fun _ i _ => 2 - (intOf i).toNat)
  case atStart =>
    have Z := Lib.hid (⟨⟨by show (0 : Int) ≤ 0; decide, by show (0 : Int) ≤ _; decide, by show (0 : Int) ≤ 0; decide, by show (0 : Int) ≤ _; decide⟩, cn_below4 w _ _ _ _, cn_b1 w _ _ _ _ _ _, cn_b2 w _ _ _ _ _ _, cn_b3 w _ _ _ _ _ _⟩ : CnW w ((((w.alloc (.cells #[.int .u64 a, .int .u64 b] 24)).alloc (.cells #[.int .u64 c, .int .u64 d] 24)).alloc (.cells #[.int .u64 0, .int .u64 0] 24)).alloc (.cells #[.int .u64 0, .int .u64 0] 24)) a b c d ⟨true, 0, 0⟩)
    exact ⟨0, ⟨true, 0, 0⟩, by omega, rfl, rfl, Lib.hid rfl, Z⟩
  case round =>
    obtain ⟨k, s, hk, rfl, rfl, HS, HW⟩ := hrel
    by_cases hlt : k < 2
    · have i1 := (I1.out k hlt).1
      have xb := (I1.out k hlt).2
      have hlt2 : (k : Int) < 2 := by omega
      obtain ⟨q0, q1, -, -⟩ := HW.out.b.cells
      obtain ⟨x, hx⟩ : ∃ x, cnX a b k = x := ⟨_, rfl⟩
      rw [hx] at i1 xb
      obtain ⟨x0, x1⟩ := xb
      have HX := Lib.hid hx
      clear hx
      go_wp2
      clear q0 q1 i1
      go_loopw [7, 30] (fun f i wr' => ∃ (j : Nat) (s' : Cn), j ≤ 2 ∧ i = .int .i64 j ∧ f = .bool s'.fst ∧ Hid (s' = cnN ok v c d x s j) ∧ Hid (CnW w wr' a b c d s')) (fun _ i _ => 2 - (intOf i).toNat)
      case atStart => exact ⟨0, s, by omega, rfl, rfl, Lib.hid rfl, HW⟩
      case round =>
        obtain ⟨j, s', hj, rfl, rfl, HS', HW'⟩ := hrel
        by_cases hjt : j < 2
        · have i2 := (I2.out j hjt).1
          have yb := (I2.out j hjt).2
          have hjt2 : (j : Int) < 2 := by omega
          obtain ⟨y, hy⟩ : ∃ y, cnX c d j = y := ⟨_, rfl⟩
          rw [hy] at i2 yb
          obtain ⟨y0, y1⟩ := yb
          have HN : Hid (cnN ok v c d x s (j + 1) = cnS ok v s' x y) := Lib.hid (by show cnS ok v (cnN ok v c d x s j) x (cnX c d j) = _; rw [hy, ← HS'.out])
          clear hy
          have F2 := Lib.hid (fun w' => HF.out x y 2 w' x0 x1 y0 y1 (Or.inr rfl))
          have F1 := Lib.hid (fun w' => HF.out x y 1 w' x0 x1 y0 y1 (Or.inl rfl))
          have HC : Hid ((ok x y = false ∧ cnS ok v s' x y = s') ∨ (ok x y = true ∧ s'.fst = true ∧ (cnS ok v s' x y).fst = false ∧ (cnS ok v s' x y).lo = v x y 2 ∧ (cnS ok v s' x y).hi = v x y 1) ∨
              (ok x y = true ∧ s'.fst = false ∧ (cnS ok v s' x y).fst = false ∧ (cnS ok v s' x y).lo = (if amB (v x y 2) s'.lo = true then v x y 2 else s'.lo) ∧ (cnS ok v s' x y).hi = (if amB s'.hi (v x y 1) = true then v x y 1 else s'.hi))) := Lib.hid (by
            unfold cnS
            cases ok x y <;> cases s'.fst <;> simp)
          have V2 := HV.out x y 2
          have V1 := HV.out x y 1
          obtain ⟨s2, hs2⟩ : ∃ s2, s2 = cnS ok v s' x y := ⟨_, rfl⟩
          rw [← hs2] at HC HN
          have N2 : Hid (cnN ok v c d x s (j + 1) = s2 ∧ True) := Lib.hid ⟨HN.out, trivial⟩
          obtain ⟨l2, e2⟩ : ∃ l2, l2 = v x y 2 := ⟨_, rfl⟩
          obtain ⟨l1, e1⟩ : ∃ l1, l1 = v x y 1 := ⟨_, rfl⟩
          obtain ⟨bo, eb⟩ : ∃ bo, bo = ok x y := ⟨_, rfl⟩
          rw [← e2, ← e1, ← eb] at HC
          rw [← e2] at V2
          rw [← e1] at V1
          rw [← e2, ← eb] at F2
          rw [← e1, ← eb] at F1
          clear e1 e2 eb hs2 HN
          obtain ⟨f', lo', hi'⟩ := s'
          have bd := HW'.out.bd
          unfold CnB at bd
          obtain ⟨f2, lo2, hi2⟩ := s2
          simp only [Cn.mk.injEq] at HC bd
          obtain ⟨p0, p1, p2, p3⟩ := bd
          obtain ⟨v0, v1⟩ := V2
          obtain ⟨v2, v3⟩ := V1
          have A1 := Lib.hid (fun w' => atMost_any l2 lo' v0 v1 p0 p1 w')
          have A2 := Lib.hid (fun w' => atMost_any hi' l1 p2 p3 v2 v3 w')
          obtain ⟨m1, hm1⟩ : ∃ m1, m1 = amB l2 lo' := ⟨_, rfl⟩
          obtain ⟨m2, hm2⟩ : ∃ m2, m2 = amB hi' l1 := ⟨_, rfl⟩
          rw [← hm1] at A1
          rw [← hm2] at A2
          rw [← hm1, ← hm2] at HC
          clear hm1 hm2
          rcases HC.out with ⟨rfl, rfl, rfl, rfl⟩ | ⟨rfl, rfl, rfl, rfl, rfl⟩ | ⟨rfl, rfl, rfl, h4, h5⟩
          · clear HC
            go_wp2_with fail
            refine (F2.out _ (HT.out.below HW'.out.bl)).mono ?_
            rintro e w1 ⟨rfl, hb⟩
            have W1 := Lib.hid (HW'.out.below hb)
            clear hb
            go_wp2
            go_roundw
            case rel => exact ⟨j + 1, ⟨f2, lo2, hi2⟩, by omega, by go_num, rfl, Lib.hid (N2.out.1.symm), W1⟩
            case measure => simp [intOf]; omega
          · clear HC
            go_wp2_with fail
            refine (F2.out _ (HT.out.below HW'.out.bl)).mono ?_
            rintro e w1 ⟨rfl, hb⟩
            have W1 := Lib.hid (HW'.out.below hb)
            clear hb
            go_wp2_with fail
            refine (F1.out _ (HT.out.below W1.out.bl)).mono ?_
            rintro e w2 ⟨rfl, hb⟩
            have W2 := Lib.hid (W1.out.below hb)
            clear hb
            obtain ⟨o0, o1, o2, o3⟩ := W2.out.o.cells
            have W3 := Lib.hid ((W2.out.set0 (s' := ⟨true, lo2, hi'⟩) rfl ⟨v0, v1⟩).set1 (s' := ⟨false, lo2, hi2⟩) rfl ⟨v2, v3⟩)
            go_wp2
            go_roundw
            case rel => exact ⟨j + 1, ⟨false, lo2, hi2⟩, by omega, by go_num, rfl, Lib.hid (N2.out.1.symm), W3⟩
            case measure => simp [intOf]; omega
          · cases m1 <;> cases m2
            all_goals
              simp only [Bool.false_eq_true, if_true, if_false] at h4 h5
              subst h4 h5
              clear HC
              go_wp2_with fail
              refine (F2.out _ (HT.out.below HW'.out.bl)).mono ?_
              rintro e w1 ⟨rfl, hb⟩
              have W1 := Lib.hid (HW'.out.below hb)
              clear hb
              go_wp2_with fail
              refine (F1.out _ (HT.out.below W1.out.bl)).mono ?_
              rintro e w2 ⟨rfl, hb⟩
              have W2 := Lib.hid (W1.out.below hb)
              clear hb
              obtain ⟨o0, o1, o2, o3⟩ := W2.out.o.cells
              go_wp2_with (go_at_call 100; first | ((with_reducible refine (A1.out _).mono ?_); rintro e w' ⟨rfl, rfl⟩) | ((with_reducible refine (A2.out _).mono ?_); rintro e w' ⟨rfl, rfl⟩))
              go_roundw
              case rel => first
                | exact ⟨j + 1, ⟨false, lo2, hi2⟩, by omega, by go_num, rfl, Lib.hid (N2.out.1.symm), W2⟩
                | exact ⟨j + 1, ⟨false, lo2, hi2⟩, by omega, by go_num, rfl, Lib.hid (N2.out.1.symm), Lib.hid (W2.out.set1 (s' := ⟨false, lo2, hi2⟩) rfl ⟨v2, v3⟩)⟩
                | exact ⟨j + 1, ⟨false, lo2, hi2⟩, by omega, by go_num, rfl, Lib.hid (N2.out.1.symm), Lib.hid (W2.out.set0 (s' := ⟨false, lo2, hi2⟩) rfl ⟨v0, v1⟩)⟩
                | exact ⟨j + 1, ⟨false, lo2, hi2⟩, by omega, by go_num, rfl, Lib.hid (N2.out.1.symm), Lib.hid ((W2.out.set0 (s' := ⟨false, lo2, hi'⟩) rfl ⟨v0, v1⟩).set1 (s' := ⟨false, lo2, hi2⟩) rfl ⟨v2, v3⟩)⟩
              case measure => simp [intOf]; omega
        · have hj2 : j = 2 := by omega
          subst hj2
          have HS2 : Hid (s' = cnO ok v a b c d (k + 1) ∧ True) := Lib.hid ⟨by
            show s' = cnN ok v c d (cnX a b k) (cnO ok v a b c d k) 2
            rw [HX.out, ← HS.out]; exact HS'.out, trivial⟩
          clear HS HS' HX
          go_wp2
          go_roundw
          case rel => exact ⟨k + 1, s', by omega, by go_num, rfl, Lib.hid HS2.out.1, HW'⟩
          case measure => simp [intOf]; omega
    · have hk2 : k = 2 := by omega
      subst hk2
      obtain ⟨f', lo, hi⟩ := s
      have E : cnLo ok v a b c d = plV lo ∧ cnHi ok v a b c d = plV hi := by unfold cnLo cnHi; rw [← cnO_2, ← HS.out]; exact ⟨rfl, rfl⟩
      have PL1 := Lib.hid (fun w' => plain_any lo w')
      have PL2 := Lib.hid (fun w' => plain_any hi w')
      clear HS
      generalize plV lo = pl at *
      generalize plV hi = ph at *
      have HE := Lib.hid E
      clear E
      go_wp2_with fail
      obtain ⟨x0, x1, x2, x3⟩ := HW.out.o.drew.cells
      obtain ⟨z0, z1, z2, z3⟩ := HW.out.r.drew.cells
      obtain ⟨v0, v1, v2, v3⟩ := HW.out.r.cells
      go_region_held3 (fun w' => w'.cell? ⟨w.heap.size + 1 + 1 + 1, 0, none⟩ = some (.int .u64 lo) ∧ w'.cell? ⟨w.heap.size + 1 + 1 + 1, 1, none⟩ = some (.int .u64 hi))
        (first
          | exact ⟨x0, x1⟩
          | (obtain ⟨x0, x1, -, -⟩ := ((HW.out.o.set (b' := w.heap.size + 1 + 1) (o := 0) (by omega) (.int .u64 pl)).set (b' := w.heap.size + 1 + 1) (o := 1) (by omega) (.int .u64 ph)).drew.cells
             exact ⟨x0, x1⟩)
          | (go_keep; done))
        (first
          | (go_at_call 41; (with_reducible refine (PL1.out _).mono ?_); rintro e w' ⟨rfl, rfl⟩)
          | (go_at_call 41; (with_reducible refine (PL2.out _).mono ?_); rintro e w' ⟨rfl, rfl⟩))
      have Z2 := Lib.hid ((HW.out.r.set2 (.int .u64 pl) (.int .u64 ph)).drew)
      have BB := Lib.hid ((HW.out.bl.setCell (p := ⟨w.heap.size + 1 + 1, 0, none⟩) (by show _ ≤ w.heap.size + 1 + 1; omega) (.int .u64 pl)).setCell (p := ⟨w.heap.size + 1 + 1, 1, none⟩) (by show _ ≤ w.heap.size + 1 + 1; omega) (.int .u64 ph)).drew
      clear z0 z1 z2 z3 v0 v1 v2 v3
      obtain ⟨z0, z1, z2, z3⟩ := Z2.out.cells
      go_wp2
      refine bodyPost_ret (v := .agg #[.int .u64 pl, .int .u64 ph]) (by simp [results, Tryz.results42, go_sem, z0, z1, z2, z3]) rfl ?_
      exact ⟨by rw [HE.out.1, HE.out.2], BB.out⟩
end Go.Proofs.YtmpdbmaokbhcjaaGreatDoor

/-
  THE WALK of span.Mul$1.
-/
namespace Go.Proofs.YtmpdbmaokbhcjaaGreatDoor
open Go.RowKit Nt Fm Fl

theorem known12 {m : Int} (h : m = 1 ∨ m = 2) : knownB m = true := by rcases h with rfl | rfl <;> decide
set_option maxHeartbeats 4000000 in
theorem mulc_any (x y m : Int) (w : World) (x0 : 0 ≤ x) (x1 : x ≤ 18446744073709551615) (y0 : 0 ≤ y) (y1 : y ≤ 18446744073709551615) (hm : m = 1 ∨ m = 2) (hT : Tab w) :
    Calls Tryz.prog 43 #[.int .u64 x, .int .u64 y, .int .i64 m] w fun e w' => e = .returned (.tuple #[.int .u64 (clV x y m), .bool (clOk x y)]) ∧ Below w.heap.size w w' := by
  have PM := Lib.hid (fun w' h => pmul_any x y m x0 x1 y0 y1 w' h)
  have HT := Lib.hid hT
  have m0 : -9223372036854775808 ≤ m := by omega
  have m1 : m ≤ 9223372036854775807 := by omega
  have hc : ((x == 0) = true ∧ clV x y m = 0) ∨ ((x == 0) = false ∧ (y == 0) = true ∧ clV x y m = 0) ∨ ((x == 0) = false ∧ (y == 0) = false ∧ clV x y m = muV x y m) := by
    unfold clV
    by_cases h1 : x = 0
    · left; simp [h1]
    · by_cases h2 : y = 0
      · right; left; simp [h1, h2]
      · right; right; simp [h1, h2]
  unfold clOk
  generalize clV x y m = cv at *
  generalize muV x y m = mv at *
  clear hT hm
  rcases hc with ⟨k1, rfl⟩ | ⟨k1, k2, rfl⟩ | ⟨k1, k2, rfl⟩
  all_goals
    go_enter Tryz.func43, Tryz.ntmps43
    go_wp2_with fail
    first
      | (go_ret2
         exact ⟨rfl, Below.refl _ _⟩)
      | (refine (PM.out _ HT.out).mono ?_
         rintro e w1 ⟨rfl, hb⟩
         have HB := Lib.hid hb
         clear hb
         go_wp2
         go_ret2
         exact ⟨rfl, HB.out⟩)
end Go.Proofs.YtmpdbmaokbhcjaaGreatDoor

/-
  THE WALK of span.Mul.
-/
namespace Go.Proofs.YtmpdbmaokbhcjaaGreatDoor
open Go.RowKit Nt Fm Fl

def mlLo (a b c d : Int) : Int := if spE2 a b c d = 0 then cnLo clOk clV a b c d else 0
def mlHi (a b c d : Int) : Int := if spE2 a b c d = 0 then cnHi clOk clV a b c d else 0
set_option maxRecDepth 100000 in
set_option maxHeartbeats 8000000 in
theorem spMul_any (a b c d : Int) (a0 : 0 ≤ a) (a1 : a ≤ 18446744073709551615) (b0 : 0 ≤ b) (b1 : b ≤ 18446744073709551615) (c0 : 0 ≤ c) (c1 : c ≤ 18446744073709551615) (d0 : 0 ≤ d) (d1 : d ≤ 18446744073709551615) (w : World) (hT : Tab w) :
    Calls Tryz.prog 12 #[.agg #[.int .u64 a, .int .u64 b], .agg #[.int .u64 c, .int .u64 d]] w fun e w' => e = .returned (.tuple #[.agg #[.int .u64 (mlLo a b c d), .int .u64 (mlHi a b c d)], .int .i64 (spE2 a b c d)]) ∧ Below w.heap.size w w' := by
  have C1 := Lib.hid (fun w' => spcheck_any a b c d a0 a1 b0 b1 c0 c1 d0 d1 w')
  have CN := Lib.hid (fun w' h => corners_any clOk clV a b c d a0 a1 b0 b1 c0 c1 d0 d1 w' h clV_bd (fun x y m w'' p1 p2 p3 p4 p5 p6 => mulc_any x y m w'' p1 p2 p3 p4 p5 p6))
  have HT := Lib.hid hT
  clear hT
  have hcase : ((spE2 a b c d != 0) = true ∧ mlLo a b c d = 0 ∧ mlHi a b c d = 0) ∨ (spE2 a b c d = 0 ∧ mlLo a b c d = cnLo clOk clV a b c d ∧ mlHi a b c d = cnHi clOk clV a b c d) := by
    unfold mlLo mlHi
    by_cases h : spE2 a b c d = 0
    · right; simp [h]
    · left; simp [h]
  generalize mlLo a b c d = lo at *
  generalize mlHi a b c d = hi at *
  generalize spE2 a b c d = E at *
  generalize cnLo clOk clV a b c d = m at *
  generalize cnHi clOk clV a b c d = n at *
  rcases hcase with ⟨k1, rfl, rfl⟩ | ⟨rfl, rfl, rfl⟩
  all_goals
    go_enter Tryz.func12, Tryz.ntmps12
    go_wp2_with fail
    refine (C1.out _).mono ?_
    rintro e w1 ⟨rfl, hb⟩
    have X := Lib.hid (((Bx2.new w (.int .u64 a) (.int .u64 b) 24).alloc (.cells #[.int .u64 c, .int .u64 d] 24) |>.alloc (.cells #[.int .u64 0, .int .u64 0] 24)).below hb)
    have Y := Lib.hid (((Bx2.new2 w (.cells #[.int .u64 a, .int .u64 b] 24) (.int .u64 c) (.int .u64 d) 24).alloc (.cells #[.int .u64 0, .int .u64 0] 24)).below hb)
    have Z := Lib.hid ((Bx2.new3 w (.cells #[.int .u64 a, .int .u64 b] 24) (.cells #[.int .u64 c, .int .u64 d] 24) (.int .u64 0) (.int .u64 0) 24).below hb)
    have B1 := Lib.hid (bl_thru (bl_alloc3 w (.cells #[.int .u64 a, .int .u64 b] 24) (.cells #[.int .u64 c, .int .u64 d] 24) (.cells #[.int .u64 0, .int .u64 0] 24)) (Nat.le_refl _) hb)
    clear hb
  · obtain ⟨z0, z1, z2, z3⟩ := Z.out.cells
    go_wp2
    refine bodyPost_ret (v := .tuple #[.agg #[.int .u64 0, .int .u64 0], .int .i64 E]) (by simp [results, Tryz.results12, go_sem, z0, z1, z2, z3]) rfl ?_
    exact ⟨rfl, (B1.out.setCell (p := ⟨w.heap.size + 1 + 1, 0, none⟩) (by show _ ≤ w.heap.size + 1 + 1; omega) _).setCell (p := ⟨w.heap.size + 1 + 1, 1, none⟩) (by show _ ≤ w.heap.size + 1 + 1; omega) _⟩
  · obtain ⟨x0, x1, -, -⟩ := X.out.cells
    obtain ⟨y0, y1, -, -⟩ := Y.out.cells
    go_wp2_with fail
    refine (CN.out _ (HT.out.below B1.out)).mono ?_
    rintro e w2 ⟨rfl, hb⟩
    clear x0 x1 y0 y1
    have Z2 := Lib.hid (Z.out.below hb)
    have B2 := Lib.hid (bl_thru B1.out (Nat.le_refl _) hb)
    clear hb
    obtain ⟨z0, z1, z2, z3⟩ := Z2.out.cells
    go_wp2
    clear z0 z1 z2 z3
    obtain ⟨z0, z1, z2, z3⟩ := (Z2.out.set2 (.int .u64 lo) (.int .u64 hi)).cells
    refine bodyPost_ret (v := .tuple #[.agg #[.int .u64 lo, .int .u64 hi], .int .i64 0]) (by simp [results, Tryz.results12, go_sem, z0, z1, z2, z3]) rfl ?_
    exact ⟨rfl, (B2.out.setCell (p := ⟨w.heap.size + 1 + 1, 0, none⟩) (by show _ ≤ w.heap.size + 1 + 1; omega) _).setCell (p := ⟨w.heap.size + 1 + 1, 1, none⟩) (by show _ ≤ w.heap.size + 1 + 1; omega) _⟩
end Go.Proofs.YtmpdbmaokbhcjaaGreatDoor
