/-
  EXACT NUMBERS in blocks; the walk of series.signed.
-/
import Derived.Test.YtmpdbmaokbhcjaaDoorPre
import Derived.Test.YtmpdbmaokbhcjaaDoorBw
import Derived.Test.YtmpdbmaokbhcjaaDoorPl
set_option linter.unusedVariables false
set_option linter.unusedSimpArgs false
namespace Go.Proofs.YtmpdbmaokbhcjaaDoor
open Go.RowKit Nt Fm
open Ea (Pr)

theorem NV.dr {w : World} {v : Value} {n : Nat} (h : NV w v n) : NV w.drew v n := h
/-- block b holds the exact number d -/
def GD (w : World) (b : Nat) (d : D) : Prop := ∃ a n c, Box w b 24 (.bool d.neg) (.slice a n c) (.int .i64 d.e) ∧ NV w (.slice a n c) d.m
theorem GD.below {w w' : World} {b : Nat} {d : D} (h : GD w b d) (hb : Below w.heap.size w w') : GD w' b d := by
  obtain ⟨a, n, c, h1, h2⟩ := h; exact ⟨a, n, c, h1.below hb, h2.below hb⟩
theorem GD.lt {w : World} {b : Nat} {d : D} (h : GD w b d) : b < w.heap.size := by obtain ⟨a, n, c, h1, h2⟩ := h; exact h1.lt
theorem GD.drew {w : World} {b : Nat} {d : D} (h : GD w b d) : GD w.drew b d := h
theorem GD.drewN {w : World} {b : Nat} {d : D} (h : GD w b d) (n : Nat) : GD (w.drewN n) b d := h
theorem GD.alloc {w : World} {b : Nat} {d : D} (h : GD w b d) (o : Obj) : GD (w.alloc o) b d := h.below ((Below.refl _ _).alloc (Nat.le_refl _) o)
theorem GD.new {w : World} {d : D} {a : Option Addr} {n c : Nat} (h : NV w (.slice a n c) d.m) : GD (w.alloc (.cells #[.bool d.neg, .slice a n c, .int .i64 d.e] 24)) w.heap.size d := ⟨a, n, c, Box.new w _ _ _ _, h.alloc _⟩
theorem GD.new2 {w : World} {o : Obj} {d : D} {a : Option Addr} {n c : Nat} (h : NV w (.slice a n c) d.m) : GD ((w.alloc o).alloc (.cells #[.bool d.neg, .slice a n c, .int .i64 d.e] 24)) (w.heap.size + 1) d := by
  have := GD.new (h.alloc o)
  rwa [size_alloc] at this
theorem GD.nil (w : World) : GD (w.alloc (.cells #[.bool false, .slice none 0 0, .int .i64 0] 24)) w.heap.size nz := GD.new (d := nz) (NV.nil w)
theorem GD.nil2 (w : World) (o : Obj) : GD ((w.alloc o).alloc (.cells #[.bool false, .slice none 0 0, .int .i64 0] 24)) (w.heap.size + 1) nz := GD.new2 (d := nz) (NV.nil w)
theorem GD.nil3 (w : World) (o p : Obj) : GD (((w.alloc o).alloc p).alloc (.cells #[.bool false, .slice none 0 0, .int .i64 0] 24)) (w.heap.size + 1 + 1) nz := by
  have := GD.nil2 (w.alloc o) p
  rwa [size_alloc] at this
/-- a store into another block that holds one -/
theorem GD.store {w : World} {b b' : Nat} {d e : D} (h : GD w b d) (h' : GD w b' e) (hne : b ≠ b') (g : Bool) (a' : Option Addr) (n' c' : Nat) (x : Int) :
    GD (((w.setCell ⟨b', 0, none⟩ (.bool g)).setCell ⟨b', 1, none⟩ (.slice a' n' c')).setCell ⟨b', 2, none⟩ (.int .i64 x)) b d := by
  obtain ⟨a, n, c, h1, h2⟩ := h
  obtain ⟨a2, n2, c2, h3, h4⟩ := h'
  exact ⟨a, n, c, ((h1.set hne _).set hne _).set hne _, h2.setD h3⟩
theorem GD.put {w : World} {b : Nat} {d e : D} (h : GD w b d) {a' : Option Addr} {n' c' : Nat} (hv : NV w (.slice a' n' c') e.m) :
    GD (((w.setCell ⟨b, 0, none⟩ (.bool e.neg)).setCell ⟨b, 1, none⟩ (.slice a' n' c')).setCell ⟨b, 2, none⟩ (.int .i64 e.e)) b e := by
  obtain ⟨a, n, c, h1, h2⟩ := h
  exact ⟨a', n', c', h1.set3 _ _ _, hv.setD h1⟩
theorem GD.keep {w : World} {b : Nat} {d : D} (h : GD w b d) {v : Value} {m : Nat} (hv : NV w v m) (g : Bool) (a' : Option Addr) (n' c' : Nat) (x : Int) :
    NV (((w.setCell ⟨b, 0, none⟩ (.bool g)).setCell ⟨b, 1, none⟩ (.slice a' n' c')).setCell ⟨b, 2, none⟩ (.int .i64 x)) v m := by
  obtain ⟨a, n, c, h1, h2⟩ := h
  exact hv.setD h1
theorem Box.st {w : World} {b b' : Nat} {T : TypeId} {x y z : Value} (h : Box w b T x y z) (hne : b ≠ b') (u v t : Value) : Box (((w.setCell ⟨b', 0, none⟩ u).setCell ⟨b', 1, none⟩ v).setCell ⟨b', 2, none⟩ t) b T x y z := ((h.set hne _).set hne _).set hne _
theorem DV.parts {w : World} {v : Value} {d : D} (h : DV w v d) : ∃ a n c, v = .agg #[.bool d.neg, .slice a n c, .int .i64 d.e] ∧ NV w (.slice a n c) d.m := by
  obtain ⟨s, h1, h2⟩ := h
  obtain ⟨a, n, c, rfl⟩ := h2.shape
  exact ⟨a, n, c, h1, h2⟩

/-- the cells of one block, where another one was written -/
theorem GD.two {u : World} {b c : Nat} {x y : D} (h : GD u b x) (h' : GD u c y) (hne : c ≠ b) (p q r : Value) : ∃ a n k,
    (((u.setCell ⟨b, 0, none⟩ p).setCell ⟨b, 1, none⟩ q).setCell ⟨b, 2, none⟩ r).cell? ⟨c, 0, none⟩ = some (.bool y.neg) ∧
    (((u.setCell ⟨b, 0, none⟩ p).setCell ⟨b, 1, none⟩ q).setCell ⟨b, 2, none⟩ r).cell? ⟨c, 1, none⟩ = some (.slice a n k) ∧
    (((u.setCell ⟨b, 0, none⟩ p).setCell ⟨b, 1, none⟩ q).setCell ⟨b, 2, none⟩ r).cell? ⟨c, 2, none⟩ = some (.int .i64 y.e) ∧
    (((u.setCell ⟨b, 0, none⟩ p).setCell ⟨b, 1, none⟩ q).setCell ⟨b, 2, none⟩ r).frozen? ⟨c, 0, none⟩ = false ∧
    (((u.setCell ⟨b, 0, none⟩ p).setCell ⟨b, 1, none⟩ q).setCell ⟨b, 2, none⟩ r).frozen? ⟨c, 1, none⟩ = false ∧
    (((u.setCell ⟨b, 0, none⟩ p).setCell ⟨b, 1, none⟩ q).setCell ⟨b, 2, none⟩ r).frozen? ⟨c, 2, none⟩ = false := by
  obtain ⟨a, n, k, h1, -⟩ := h'
  exact ⟨a, n, k, (h1.st hne p q r).cells⟩
theorem GD.cells {u : World} {c : Nat} {y : D} (h : GD u c y) : ∃ a n k, u.cell? ⟨c, 0, none⟩ = some (.bool y.neg) ∧ u.cell? ⟨c, 1, none⟩ = some (.slice a n k) ∧ u.cell? ⟨c, 2, none⟩ = some (.int .i64 y.e) ∧
    u.frozen? ⟨c, 0, none⟩ = false ∧ u.frozen? ⟨c, 1, none⟩ = false ∧ u.frozen? ⟨c, 2, none⟩ = false := by
  obtain ⟨a, n, k, h1, -⟩ := h
  exact ⟨a, n, k, h1.cells⟩
theorem bl_a1 {V P : World} (h : Below V.heap.size V P) (o : Obj) : Below V.heap.size V (P.alloc o) := h.alloc h.size o
theorem bl_a2 {V P : World} (h : Below V.heap.size V P) (o o' : Obj) : Below V.heap.size V ((P.alloc o).alloc o') := (bl_a1 h o).alloc (by have := h.size; simp; omega) o'
theorem bl_r0 (V : World) : Below V.heap.size V V := Below.refl _ _
/-- two blocks laid since V hold C and E -/
def FIN (V w : World) (b c : Nat) (C E : D) : Prop := b ≠ c ∧ V.heap.size ≤ b ∧ V.heap.size ≤ c ∧ Below V.heap.size V w ∧ GD w b C ∧ GD w c E
theorem fin_cc {V u : World} {b c : Nat} {C E : D} {a1 : Option Addr} {n1 c1 : Nat} {a2 : Option Addr} {n2 c2 : Nat} {x1 y1 : D} (h : Below V.heap.size V u) (hb : GD u b x1) (hc : GD u c y1) (hne : b ≠ c) (h1 : V.heap.size ≤ b) (h2 : V.heap.size ≤ c) (hC : NV u (.slice a1 n1 c1) C.m) (hE : NV u (.slice a2 n2 c2) E.m) :
    FIN V (((((((u.setCell ⟨b, 0, none⟩ (.bool C.neg)).setCell ⟨b, 1, none⟩ (.slice a1 n1 c1)).setCell ⟨b, 2, none⟩ (.int .i64 C.e)).setCell ⟨c, 0, none⟩ (.bool E.neg)).setCell ⟨c, 1, none⟩ (.slice a2 n2 c2)).setCell ⟨c, 2, none⟩ (.int .i64 E.e))) b c C E :=
  ⟨hne, h1, h2, bl_set3 (bl_set3 h h1 _ _ _) h2 _ _ _, (hb.put hC).store (hc.store hb (Ne.symm hne) _ _ _ _ _) hne _ _ _ _ _, (hc.store hb (Ne.symm hne) _ _ _ _ _).put (hb.keep hE _ _ _ _ _)⟩
theorem fin_cl {V u : World} {b : Nat} {C E : D} {a1 : Option Addr} {n1 c1 : Nat} {a2 : Option Addr} {n2 c2 : Nat} {x1 : D} (h : Below V.heap.size V u) (hb : GD u b x1) (h1 : V.heap.size ≤ b) (hC : NV u (.slice a1 n1 c1) C.m) (hE : NV u (.slice a2 n2 c2) E.m) :
    FIN V ((((u.setCell ⟨b, 0, none⟩ (.bool C.neg)).setCell ⟨b, 1, none⟩ (.slice a1 n1 c1)).setCell ⟨b, 2, none⟩ (.int .i64 C.e)).alloc (.cells #[.bool E.neg, .slice a2 n2 c2, .int .i64 E.e] 24)) b u.heap.size C E := by
  have hs : (((u.setCell ⟨b, 0, none⟩ (.bool C.neg)).setCell ⟨b, 1, none⟩ (.slice a1 n1 c1)).setCell ⟨b, 2, none⟩ (.int .i64 C.e)).heap.size = u.heap.size := by simp [World.setCell]
  refine ⟨by have := hb.lt; omega, h1, h.size, (bl_set3 h h1 _ _ _).alloc (by rw [hs]; exact h.size) _, (hb.put hC).alloc _, ?_⟩
  have := GD.new (d := E) (hb.keep hE C.neg a1 n1 c1 C.e)
  rwa [hs] at this
theorem fin_lc {V u : World} {c : Nat} {C E : D} {a1 : Option Addr} {n1 c1 : Nat} {a2 : Option Addr} {n2 c2 : Nat} {x1 : D} (h : Below V.heap.size V u) (hc : GD u c x1) (h1 : V.heap.size ≤ c) (hC : NV u (.slice a1 n1 c1) C.m) (hE : NV u (.slice a2 n2 c2) E.m) :
    FIN V ((((u.setCell ⟨c, 0, none⟩ (.bool E.neg)).setCell ⟨c, 1, none⟩ (.slice a2 n2 c2)).setCell ⟨c, 2, none⟩ (.int .i64 E.e)).alloc (.cells #[.bool C.neg, .slice a1 n1 c1, .int .i64 C.e] 24)) u.heap.size c C E := by
  obtain ⟨h2, h3, h4, h5, h6, h7⟩ := fin_cl (C := E) (E := C) h hc h1 hE hC
  exact ⟨Ne.symm h2, h4, h3, h5, h7, h6⟩
theorem fin_ll {V u : World} {C E : D} {a1 : Option Addr} {n1 c1 : Nat} {a2 : Option Addr} {n2 c2 : Nat} (h : Below V.heap.size V u) (hC : NV u (.slice a1 n1 c1) C.m) (hE : NV u (.slice a2 n2 c2) E.m) :
    FIN V ((u.alloc (.cells #[.bool C.neg, .slice a1 n1 c1, .int .i64 C.e] 24)).alloc (.cells #[.bool E.neg, .slice a2 n2 c2, .int .i64 E.e] 24)) u.heap.size (u.heap.size + 1) C E :=
  ⟨by omega, h.size, by have := h.size; omega, (h.alloc h.size _).alloc (by have := h.size; simp; omega) _, (GD.new hC).alloc _, GD.new2 hE⟩
theorem fin_ll2 {V u : World} {C E : D} {a1 : Option Addr} {n1 c1 : Nat} {a2 : Option Addr} {n2 c2 : Nat} (h : Below V.heap.size V u) (hC : NV u (.slice a1 n1 c1) C.m) (hE : NV u (.slice a2 n2 c2) E.m) :
    FIN V ((u.alloc (.cells #[.bool E.neg, .slice a2 n2 c2, .int .i64 E.e] 24)).alloc (.cells #[.bool C.neg, .slice a1 n1 c1, .int .i64 C.e] 24)) (u.heap.size + 1) u.heap.size C E := by
  obtain ⟨h2, h3, h4, h5, h6, h7⟩ := fin_ll (C := E) (E := C) h hE hC
  exact ⟨Ne.symm h2, h4, h3, h5, h7, h6⟩

set_option maxRecDepth 100000 in
set_option maxHeartbeats 8000000 in
theorem signed_any (v : Value) (x : Pr) (neg : Bool) (p k0 : Nat) (P : Int) (w : World) (hT : Tab w) (hv : PV w v x) (hP : P = (p : Int)) (hl : x.l < 2 ^ k0) (hh : x.h < 2 ^ k0) (hk0 : k0 ≤ 15000000000000) (hp : p ≤ 15000000000000) :
    Calls Tryd.prog 123 #[v, .bool neg, .int .i64 P] w
      (RetD2 w (if neg then opp (norm false x.h (-(p : Int))) else norm false x.l (-(p : Int))) (if neg then opp (norm false x.l (-(p : Int))) else norm false x.h (-(p : Int)))) := by
  subst hP
  obtain ⟨a1, n1, c1, a2, n2, c2, rfl, h1, h2⟩ := hv.parts
  have DY := Lib.hid (fun w' ht hv => dyads_any (.agg #[.slice a1 n1 c1, .slice a2 n2 c2]) x p k0 p w' ht hv rfl hl hh (by omega) (by omega))
  have hCm : (norm false x.l (-(p : Int))).m < 2 ^ k0 := Nat.lt_of_le_of_lt (norm_m_le _ _ _) hl
  have hEm : (norm false x.h (-(p : Int))).m < 2 ^ k0 := Nat.lt_of_le_of_lt (norm_m_le _ _ _) hh
  generalize norm false x.l (-(p : Int)) = C at *
  generalize norm false x.h (-(p : Int)) = E at *
  have OC := Lib.hid (fun v w' hd => opp_any v C k0 w' hd hCm (by omega))
  have OE := Lib.hid (fun v w' hd => opp_any v E k0 w' hd hEm (by omega))
  have HP := Lib.hid hv
  have HT := Lib.hid hT
  clear h1 h2 hv hl hh hT hCm hEm
  cases neg
  · simp only [Bool.false_eq_true, if_false]
    clear OC OE
    go_enter Tryd.func123, Tryd.ntmps123
    go_wp2_with fail
    refine (DY.out _ (HT.out.below (bl_alloc3 _ _ _ _)) (HP.out.below (bl_alloc3 _ _ _ _))).mono ?_
    rintro r w1 ⟨u1, u2, rfl, hu1, hu2, hb1⟩
    obtain ⟨e1, f1, g1, rfl, hv1⟩ := hu1.parts
    obtain ⟨e2, f2, g2, rfl, hv2⟩ := hu2.parts
    have B1 := bl_thru (bl_alloc3 w _ _ _) (Nat.le_refl _) hb1
    have L1 := ((GD.nil2 w (.cells #[.slice a1 n1 c1, .slice a2 n2 c2] 111)).alloc (.cells #[.bool false, .slice none 0 0, .int .i64 0] 24)).below hb1
    have M1 := (GD.nil3 w (.cells #[.slice a1 n1 c1, .slice a2 n2 c2] 111) (.cells #[.bool false, .slice none 0 0, .int .i64 0] 24)).below hb1
    have hz : w.heap.size + 1 + 1 < w1.heap.size := M1.lt
    obtain ⟨V1, hV1⟩ : ∃ V, V = ((w1.alloc (.cells #[.bool C.neg, .slice e1 f1 g1, .int .i64 C.e] 24)).alloc (.cells #[.bool E.neg, .slice e2 f2 g2, .int .i64 E.e] 24)) := ⟨_, rfl⟩
    have HL := Lib.hid (show GD V1 (w.heap.size + 1) nz from by rw [hV1]; exact (L1.alloc _).alloc _)
    have HM := Lib.hid (show GD V1 (w.heap.size + 1 + 1) nz from by rw [hV1]; exact (M1.alloc _).alloc _)
    have HC := Lib.hid (show Box V1 w1.heap.size 24 (.bool C.neg) (.slice e1 f1 g1) (.int .i64 C.e) from by rw [hV1]; exact (Box.new w1 _ _ _ _).alloc _)
    have HE := Lib.hid (show Box V1 (w1.heap.size + 1) 24 (.bool E.neg) (.slice e2 f2 g2) (.int .i64 E.e) from by rw [hV1]; exact Box.new2 w1 _ _ _ _ _)
    have NC := Lib.hid (show NV V1 (.slice e1 f1 g1) C.m from by rw [hV1]; exact (hv1.alloc _).alloc _)
    have NE := Lib.hid (show NV V1 (.slice e2 f2 g2) E.m from by rw [hV1]; exact (hv2.alloc _).alloc _)
    have BB := Lib.hid (show Below w.heap.size w V1 from by rw [hV1]; exact (B1.alloc (by omega) _).alloc (by simp; omega) _)
    obtain ⟨b8, hb8⟩ : ∃ b8, b8 = w1.heap.size := ⟨_, rfl⟩
    rw [← hb8] at HC HE hz
    clear hu1 hu2 hb1 hv1 hv2 B1 L1 M1
    go_wp2_with fail
    rw [← hV1, ← hb8]
    clear hV1 hb8
    obtain ⟨q0, q1, q2, -, -, -⟩ := HC.out.drew.cells
    obtain ⟨r0, r1, r2, -, -, -⟩ := HE.out.drew.cells
    obtain ⟨y1, y2, y3, hY, -⟩ := HL.out.drew
    have HY := Lib.hid hY
    obtain ⟨z1, z2, z3, hZ, -⟩ := (HM.out.store HL.out (by omega) C.neg e1 f1 g1 C.e).drew
    have HZ := Lib.hid hZ
    obtain ⟨s0, s1, s2, t0, t1, t2⟩ := HY.out.cells
    obtain ⟨x0, x1, x2, x3, x4, x5⟩ := HZ.out.cells
    have HY0 := Lib.hid (show Box V1 _ _ _ _ _ from HY.out)
    have HZ0 := Lib.hid (show Box (((V1.setCell ⟨w.heap.size + 1, 0, none⟩ (.bool C.neg)).setCell ⟨w.heap.size + 1, 1, none⟩ (.slice e1 f1 g1)).setCell ⟨w.heap.size + 1, 2, none⟩ (.int .i64 C.e)) _ _ _ _ _ from HZ.out)
    obtain ⟨sa0, sa1, sa2, ta0, ta1, ta2⟩ := HY0.out.cells
    obtain ⟨xa0, xa1, xa2, xa3, xa4, xa5⟩ := HZ0.out.cells
    clear hY hZ
    go_region_held3 (fun w' => (w'.cell? ⟨b8, 0, none⟩ = some (.bool C.neg) ∧ w'.cell? ⟨b8, 1, none⟩ = some (.slice e1 f1 g1) ∧ w'.cell? ⟨b8, 2, none⟩ = some (.int .i64 C.e)) ∧ (w'.cell? ⟨b8 + 1, 0, none⟩ = some (.bool E.neg) ∧ w'.cell? ⟨b8 + 1, 1, none⟩ = some (.slice e2 f2 g2) ∧ w'.cell? ⟨b8 + 1, 2, none⟩ = some (.int .i64 E.e)))
      (first
        | with_reducible exact ⟨⟨q0, q1, q2⟩, ⟨r0, r1, r2⟩⟩
        | (obtain ⟨q0, q1, q2, -, -, -⟩ := (HC.out.st (b' := w.heap.size + 1) (by omega) (.bool C.neg) (.slice e1 f1 g1) (.int .i64 C.e)).drew.cells
           obtain ⟨r0, r1, r2, -, -, -⟩ := (HE.out.st (b' := w.heap.size + 1) (by omega) (.bool C.neg) (.slice e1 f1 g1) (.int .i64 C.e)).drew.cells
           with_reducible exact ⟨⟨q0, q1, q2⟩, ⟨r0, r1, r2⟩⟩)
        | (obtain ⟨q0, q1, q2, -, -, -⟩ := ((HC.out.st (b' := w.heap.size + 1) (by omega) (.bool C.neg) (.slice e1 f1 g1) (.int .i64 C.e)).st (b' := w.heap.size + 1 + 1) (by omega) (.bool E.neg) (.slice e2 f2 g2) (.int .i64 E.e)).drew.cells
           obtain ⟨r0, r1, r2, -, -, -⟩ := ((HE.out.st (b' := w.heap.size + 1) (by omega) (.bool C.neg) (.slice e1 f1 g1) (.int .i64 C.e)).st (b' := w.heap.size + 1 + 1) (by omega) (.bool E.neg) (.slice e2 f2 g2) (.int .i64 E.e)).drew.cells
           with_reducible exact ⟨⟨q0, q1, q2⟩, ⟨r0, r1, r2⟩⟩))
      (fail)
    clear q0 q1 q2 r0 r1 r2 s0 s1 s2 t0 t1 t2 x0 x1 x2 x3 x4 x5 sa0 sa1 sa2 ta0 ta1 ta2 xa0 xa1 xa2 xa3 xa4 xa5
    go_wp2
    have K0 := Lib.hid (HM.out.store HL.out (by omega) C.neg e1 f1 g1 C.e)
    have K1 := Lib.hid (((HL.out.put (e := C) NC.out).store K0.out (by omega) E.neg e2 f2 g2 E.e).drew)
    have K2 := Lib.hid ((K0.out.put (e := E) (HL.out.keep NE.out C.neg e1 f1 g1 C.e)).drew)
    have R1 := Lib.hid (((HY0.out.set3 (.bool C.neg) (.slice e1 f1 g1) (.int .i64 C.e)).st (b' := w.heap.size + 1 + 1) (by omega) (.bool E.neg) (.slice e2 f2 g2) (.int .i64 E.e)).drew)
    have R2 := Lib.hid ((HZ0.out.set3 (.bool E.neg) (.slice e2 f2 g2) (.int .i64 E.e)).drew)
    have N1 := Lib.hid (K0.out.keep (HL.out.keep NC.out C.neg e1 f1 g1 C.e) E.neg e2 f2 g2 E.e)
    have N2 := Lib.hid (K0.out.keep (HL.out.keep NE.out C.neg e1 f1 g1 C.e) E.neg e2 f2 g2 E.e)
    obtain ⟨W, hW⟩ : ∃ W, W = ((((((V1.setCell ⟨w.heap.size + 1, 0, none⟩ (.bool C.neg)).setCell ⟨w.heap.size + 1, 1, none⟩ (.slice e1 f1 g1)).setCell ⟨w.heap.size + 1, 2, none⟩ (.int .i64 C.e)).setCell ⟨w.heap.size + 1 + 1, 0, none⟩ (.bool E.neg)).setCell ⟨w.heap.size + 1 + 1, 1, none⟩ (.slice e2 f2 g2)).setCell ⟨w.heap.size + 1 + 1, 2, none⟩ (.int .i64 E.e)).drew := ⟨_, rfl⟩
    have BBW := Lib.hid (show Below w.heap.size w W from by rw [hW]; exact (bl_set3 (bl_set3 BB.out (by omega) _ _ _) (by omega) _ _ _).drew)
    have RW1 := Lib.hid (show Box W (w.heap.size + 1) 24 (.bool C.neg) (.slice e1 f1 g1) (.int .i64 C.e) from by rw [hW]; exact R1.out)
    have RW2 := Lib.hid (show Box W (w.heap.size + 1 + 1) 24 (.bool E.neg) (.slice e2 f2 g2) (.int .i64 E.e) from by rw [hW]; exact R2.out)
    have NW1 := Lib.hid (show NV W (.slice e1 f1 g1) C.m from by rw [hW]; exact N1.out.dr)
    have NW2 := Lib.hid (show NV W (.slice e2 f2 g2) E.m from by rw [hW]; exact N2.out.dr)
    rw [← hW]
    clear hW R1 R2 N1 N2 K0 K1 K2
    obtain ⟨s0, s1, s2, -, -, -⟩ := RW1.out.cells
    obtain ⟨r0, r1, r2, -, -, -⟩ := RW2.out.cells
    refine bodyPost_ret (v := .tuple #[.agg #[.bool C.neg, .slice e1 f1 g1, .int .i64 C.e], .agg #[.bool E.neg, .slice e2 f2 g2, .int .i64 E.e]]) (by simp [results, Tryd.results123, go_sem, s0, s1, s2, r0, r1, r2]) rfl ?_
    exact ⟨_, _, rfl, ⟨_, rfl, NW1.out⟩, ⟨_, rfl, NW2.out⟩, BBW.out⟩
  · simp only [if_true]
    go_enter Tryd.func123, Tryd.ntmps123
    go_wp2_with fail
    refine (DY.out _ (HT.out.below (bl_alloc3 _ _ _ _)) (HP.out.below (bl_alloc3 _ _ _ _))).mono ?_
    rintro r w1 ⟨u1, u2, rfl, hu1, hu2, hb1⟩
    obtain ⟨e1, f1, g1, rfl, hv1⟩ := hu1.parts
    obtain ⟨e2, f2, g2, rfl, hv2⟩ := hu2.parts
    have B1 := bl_thru (bl_alloc3 w _ _ _) (Nat.le_refl _) hb1
    have L1 := ((GD.nil2 w (.cells #[.slice a1 n1 c1, .slice a2 n2 c2] 111)).alloc (.cells #[.bool false, .slice none 0 0, .int .i64 0] 24)).below hb1
    have M1 := (GD.nil3 w (.cells #[.slice a1 n1 c1, .slice a2 n2 c2] 111) (.cells #[.bool false, .slice none 0 0, .int .i64 0] 24)).below hb1
    have hz : w.heap.size + 1 + 1 < w1.heap.size := M1.lt
    obtain ⟨V1, hV1⟩ : ∃ V, V = ((w1.alloc (.cells #[.bool C.neg, .slice e1 f1 g1, .int .i64 C.e] 24)).alloc (.cells #[.bool E.neg, .slice e2 f2 g2, .int .i64 E.e] 24)) := ⟨_, rfl⟩
    have HL := Lib.hid (show GD V1 (w.heap.size + 1) nz from by rw [hV1]; exact (L1.alloc _).alloc _)
    have HM := Lib.hid (show GD V1 (w.heap.size + 1 + 1) nz from by rw [hV1]; exact (M1.alloc _).alloc _)
    have HC := Lib.hid (show Box V1 w1.heap.size 24 (.bool C.neg) (.slice e1 f1 g1) (.int .i64 C.e) from by rw [hV1]; exact (Box.new w1 _ _ _ _).alloc _)
    have HE := Lib.hid (show Box V1 (w1.heap.size + 1) 24 (.bool E.neg) (.slice e2 f2 g2) (.int .i64 E.e) from by rw [hV1]; exact Box.new2 w1 _ _ _ _ _)
    have NC := Lib.hid (show NV V1 (.slice e1 f1 g1) C.m from by rw [hV1]; exact (hv1.alloc _).alloc _)
    have NE := Lib.hid (show NV V1 (.slice e2 f2 g2) E.m from by rw [hV1]; exact (hv2.alloc _).alloc _)
    have BB := Lib.hid (show Below w.heap.size w V1 from by rw [hV1]; exact (B1.alloc (by omega) _).alloc (by simp; omega) _)
    obtain ⟨b8, hb8⟩ : ∃ b8, b8 = w1.heap.size := ⟨_, rfl⟩
    rw [← hb8] at HC HE hz
    clear hu1 hu2 hb1 hv1 hv2 B1 L1 M1
    go_wp2_with fail
    rw [← hV1, ← hb8]
    clear hV1 hb8
    obtain ⟨q0, q1, q2, -, -, -⟩ := HC.out.drew.cells
    obtain ⟨r0, r1, r2, -, -, -⟩ := HE.out.drew.cells
    go_region_held3 (fun w' => (w'.cell? ⟨b8, 0, none⟩ = some (.bool C.neg) ∧ w'.cell? ⟨b8, 1, none⟩ = some (.slice e1 f1 g1) ∧ w'.cell? ⟨b8, 2, none⟩ = some (.int .i64 C.e)) ∧ (w'.cell? ⟨b8 + 1, 0, none⟩ = some (.bool E.neg) ∧ w'.cell? ⟨b8 + 1, 1, none⟩ = some (.slice e2 f2 g2) ∧ w'.cell? ⟨b8 + 1, 2, none⟩ = some (.int .i64 E.e)))
      (first
        | with_reducible exact ⟨⟨q0, q1, q2⟩, ⟨r0, r1, r2⟩⟩
        | (obtain ⟨q0, q1, q2, -, -, -⟩ := (HC.out.drew.below hb2).cells
           obtain ⟨r0, r1, r2, -, -, -⟩ := (HE.out.drew.below hb2).cells
           with_reducible exact ⟨⟨q0, q1, q2⟩, ⟨r0, r1, r2⟩⟩)
        | (obtain ⟨q0, q1, q2, -, -, -⟩ := ((HC.out.drew.below HB2.out).below hb3).cells
           obtain ⟨r0, r1, r2, -, -, -⟩ := ((HE.out.drew.below HB2.out).below hb3).cells
           with_reducible exact ⟨⟨q0, q1, q2⟩, ⟨r0, r1, r2⟩⟩)
        | (obtain ⟨q0, q1, q2, -, -, -⟩ := (((HC.out.drew.below HB2.out).below HB3.out).st (b' := w.heap.size + 1) (by omega) (.bool (opp E).neg) (.slice k1 k2 k3) (.int .i64 (opp E).e)).cells
           obtain ⟨r0, r1, r2, -, -, -⟩ := (((HE.out.drew.below HB2.out).below HB3.out).st (b' := w.heap.size + 1) (by omega) (.bool (opp E).neg) (.slice k1 k2 k3) (.int .i64 (opp E).e)).cells
           with_reducible exact ⟨⟨q0, q1, q2⟩, ⟨r0, r1, r2⟩⟩)
        | (obtain ⟨q0, q1, q2, -, -, -⟩ := ((((HC.out.drew.below HB2.out).below HB3.out).st (b' := w.heap.size + 1) (by omega) (.bool (opp E).neg) (.slice k1 k2 k3) (.int .i64 (opp E).e)).st (b' := w.heap.size + 1 + 1) (by omega) (.bool (opp C).neg) (.slice k4 k5 k6) (.int .i64 (opp C).e)).cells
           obtain ⟨r0, r1, r2, -, -, -⟩ := ((((HE.out.drew.below HB2.out).below HB3.out).st (b' := w.heap.size + 1) (by omega) (.bool (opp E).neg) (.slice k1 k2 k3) (.int .i64 (opp E).e)).st (b' := w.heap.size + 1 + 1) (by omega) (.bool (opp C).neg) (.slice k4 k5 k6) (.int .i64 (opp C).e)).cells
           with_reducible exact ⟨⟨q0, q1, q2⟩, ⟨r0, r1, r2⟩⟩))
      (first
        | (go_at_call_of 59 (Value.slice e2 f2 g2); refine (OE.out _ _ ⟨_, rfl, NE.out.dr⟩).mono ?_; rintro r w2 ⟨v2, rfl, hu2, hb2⟩; obtain ⟨k1, k2, k3, rfl, hv2⟩ := hu2.parts; have HB2 := Lib.hid hb2; have HV2 := Lib.hid hv2; have B2 := Lib.hid (bl_thru BB.out.drew (Nat.le_refl _) hb2))
        | (go_at_call_of 59 (Value.slice e1 f1 g1); refine (OC.out _ _ ⟨_, rfl, NC.out.dr.below HB2.out⟩).mono ?_; rintro r w3 ⟨v3, rfl, hu3, hb3⟩; obtain ⟨k4, k5, k6, rfl, hv3⟩ := hu3.parts; have HB3 := Lib.hid hb3; have HV3 := Lib.hid hv3; have HV23 := Lib.hid (HV2.out.below hb3); have B3 := Lib.hid (bl_thru B2.out (Nat.le_refl _) hb3); have HL3 := Lib.hid ((HL.out.drew.below HB2.out).below hb3); have HM3 := Lib.hid ((HM.out.drew.below HB2.out).below hb3); obtain ⟨y1, y2, y3, hY, -⟩ := HL3.out; have HY := Lib.hid hY; obtain ⟨z1, z2, z3, hZ, -⟩ := (HM3.out.store HL3.out (by omega) (opp E).neg k1 k2 k3 (opp E).e); have HZ := Lib.hid hZ; obtain ⟨s0, s1, s2, t0, t1, t2⟩ := HY.out.cells; obtain ⟨x0, x1, x2, x3, x4, x5⟩ := HZ.out.cells; clear hY hZ))
    clear q0 q1 q2 r0 r1 r2 s0 s1 s2 t0 t1 t2 x0 x1 x2 x3 x4 x5 hb2 hb3 hv2 hv3 hu2 hu3
    go_wp2
    have K0 := Lib.hid (HM3.out.store HL3.out (by omega) (opp E).neg k1 k2 k3 (opp E).e)
    have R1 := Lib.hid ((HY.out.set3 (.bool (opp E).neg) (.slice k1 k2 k3) (.int .i64 (opp E).e)).st (b' := w.heap.size + 1 + 1) (by omega) (.bool (opp C).neg) (.slice k4 k5 k6) (.int .i64 (opp C).e))
    have R2 := Lib.hid (HZ.out.set3 (.bool (opp C).neg) (.slice k4 k5 k6) (.int .i64 (opp C).e))
    have N1 := Lib.hid (K0.out.keep (HL3.out.keep HV23.out (opp E).neg k1 k2 k3 (opp E).e) (opp C).neg k4 k5 k6 (opp C).e)
    have N2 := Lib.hid (K0.out.keep (HL3.out.keep HV3.out (opp E).neg k1 k2 k3 (opp E).e) (opp C).neg k4 k5 k6 (opp C).e)
    obtain ⟨s0, s1, s2, t0, t1, t2⟩ := R1.out.cells
    obtain ⟨r0, r1, r2, u0, u1, u2⟩ := R2.out.cells
    refine bodyPost_ret (v := .tuple #[.agg #[.bool (opp E).neg, .slice k1 k2 k3, .int .i64 (opp E).e], .agg #[.bool (opp C).neg, .slice k4 k5 k6, .int .i64 (opp C).e]]) (by simp [results, Tryd.results123, go_sem, s0, s1, s2, r0, r1, r2]) rfl ?_
    exact ⟨_, _, rfl, ⟨_, rfl, N1.out⟩, ⟨_, rfl, N2.out⟩, bl_set3 (bl_set3 B3.out (by omega) _ _ _) (by omega) _ _ _⟩

end Go.Proofs.YtmpdbmaokbhcjaaDoor
