/-
  BOUNDS in memory: a pair of numbers; the walk of series.half.
-/
import Derived.Test.YtmpdbmaokbhcjaaDoorOv
import Derived.Test.YtmpdbmaokbhcjaaDoorBd
import Derived.Test.YtmpdbmaokbhcjaaDoorNa
import Derived.Test.YtmpdbmaokbhcjaaDoorNat7
import Derived.Test.YtmpdbmaokbhcjaaDoorEkm
set_option linter.unusedVariables false
set_option linter.unusedSimpArgs false
namespace Go.Proofs.YtmpdbmaokbhcjaaDoor
open Go.RowKit Nt Fm
open Ea (Pr halfP timesP overP plusP fixedP cdv)

/-- the struct value v reads as the pair x -/
def PV (w : World) (v : Value) (x : Pr) : Prop := ∃ a b, v = .agg #[a, b] ∧ NV w a x.l ∧ NV w b x.h
theorem PV.below {w w' : World} {v : Value} {x : Pr} (h : PV w v x) (hb : Below w.heap.size w w') : PV w' v x := by
  obtain ⟨a, b, h1, h2, h3⟩ := h; exact ⟨a, b, h1, h2.below hb, h3.below hb⟩
theorem PV.parts {w : World} {v : Value} {x : Pr} (h : PV w v x) : ∃ a1 n1 c1 a2 n2 c2, v = .agg #[.slice a1 n1 c1, .slice a2 n2 c2] ∧ NV w (.slice a1 n1 c1) x.l ∧ NV w (.slice a2 n2 c2) x.h := by
  obtain ⟨a, b, h1, h2, h3⟩ := h
  obtain ⟨a1, n1, c1, rfl⟩ := h2.shape
  obtain ⟨a2, n2, c2, rfl⟩ := h3.shape
  exact ⟨a1, n1, c1, a2, n2, c2, h1, h2, h3⟩
def RetP (w : World) (x : Pr) (e : Ending) (w' : World) : Prop := ∃ v, e = .returned v ∧ PV w' v x ∧ Below w.heap.size w w'

/-- a struct of two in a block -/
def Bp (w : World) (b : Nat) (x y : Value) : Prop := w.heap[b]? = some (.cells #[x, y] 111 (0, 0))
theorem Bp.new (w : World) (x y : Value) : Bp (w.alloc (.cells #[x, y] 111)) w.heap.size x y := heap_alloc_new w _
theorem Bp.new2 (w : World) (o : Obj) (x y : Value) : Bp ((w.alloc o).alloc (.cells #[x, y] 111)) (w.heap.size + 1) x y := by
  have := Bp.new (w.alloc o) x y
  rwa [size_alloc] at this
theorem Bp.new3 (w : World) (o p : Obj) (x y : Value) : Bp (((w.alloc o).alloc p).alloc (.cells #[x, y] 111)) (w.heap.size + 1 + 1) x y := by
  have h := Bp.new ((w.alloc o).alloc p) x y
  rw [show ((w.alloc o).alloc p).heap.size = w.heap.size + 1 + 1 from by simp] at h; exact h
theorem Bp.lt {w : World} {b : Nat} {x y : Value} (h : Bp w b x y) : b < w.heap.size := (Array.getElem?_eq_some_iff.1 h).1
theorem Bp.below {w w' : World} {b : Nat} {x y : Value} (h : Bp w b x y) (hb : Below w.heap.size w w') : Bp w' b x y := (hb.block b h.lt).trans h
theorem Bp.alloc {w : World} {b : Nat} {x y : Value} (h : Bp w b x y) (o : Obj) : Bp (w.alloc o) b x y := h.below ((Below.refl _ _).alloc (Nat.le_refl _) o)
theorem Bp.drew {w : World} {b : Nat} {x y : Value} (h : Bp w b x y) : Bp w.drew b x y := h
theorem Bp.drewN {w : World} {b : Nat} {x y : Value} (h : Bp w b x y) (n : Nat) : Bp (w.drewN n) b x y := h
theorem Bp.cells {w : World} {b : Nat} {x y : Value} (h : Bp w b x y) :
    w.cell? ⟨b, 0, none⟩ = some x ∧ w.cell? ⟨b, 1, none⟩ = some y ∧ w.frozen? ⟨b, 0, none⟩ = false ∧ w.frozen? ⟨b, 1, none⟩ = false := by
  unfold Bp at h
  refine ⟨?_, ?_, ?_, ?_⟩ <;> simp [World.cell?, World.frozen?, h, Array.getElem?_eq_getElem]
theorem Bp.set0 {w : World} {b : Nat} {x y : Value} (h : Bp w b x y) (v : Value) : Bp (w.setCell ⟨b, 0, none⟩ v) b v y := heap_set h
theorem Bp.set1 {w : World} {b : Nat} {x y : Value} (h : Bp w b x y) (v : Value) : Bp (w.setCell ⟨b, 1, none⟩ v) b x v := heap_set h
theorem Bp.set2 {w : World} {b : Nat} {x y : Value} (h : Bp w b x y) (x' y' : Value) : Bp ((w.setCell ⟨b, 0, none⟩ x').setCell ⟨b, 1, none⟩ y') b x' y' := (h.set0 x').set1 y'
theorem Bp.set {w : World} {b b' o : Nat} {x y : Value} (h : Bp w b x y) (hb : b ≠ b') (v : Value) : Bp (w.setCell ⟨b', o, none⟩ v) b x y := (Below.heap_setCell _ _ _ _ hb).trans h
theorem NV.setP {w : World} {b : Nat} {a1 a2 : Option Addr} {n1 c1 n2 c2 : Nat} {v : Value} {n : Nat} (h : NV w v n) (hb : Bp w b (.slice a1 n1 c1) (.slice a2 n2 c2)) (o : Nat) (u : Value) : NV (w.setCell ⟨b, o, none⟩ u) v n := by
  refine h.other (B := b) ?_ (by simp [World.setCell]) (fun k hk => Below.heap_setCell _ _ _ _ hk)
  intro o
  unfold Bp at hb
  simp only [World.cell?, hb]
  match o with
  | 0 => simpa using noLimb_slice _ _ _
  | 1 => simpa using noLimb_slice _ _ _
  | o + 2 => simp
theorem NV.setP2 {w : World} {b : Nat} {a1 a2 a1' a2' : Option Addr} {n1 c1 n2 c2 n1' c1' n2' c2' : Nat} {v : Value} {n : Nat} (h : NV w v n) (hb : Bp w b (.slice a1 n1 c1) (.slice a2 n2 c2)) :
    NV ((w.setCell ⟨b, 0, none⟩ (.slice a1' n1' c1')).setCell ⟨b, 1, none⟩ (.slice a2' n2' c2')) v n := (h.setP hb 0 _).setP (hb.set0 _) 1 _
theorem bl_set2 {B b : Nat} {w w1 : World} (h : Below B w w1) (hb : B ≤ b) (x y : Value) : Below B w ((w1.setCell ⟨b, 0, none⟩ x).setCell ⟨b, 1, none⟩ y) := (h.setCell hb _).setCell hb _
theorem cdv_two (a n : Nat) : cdv a (2 ^ n) = if lostB a n = true then a / 2 ^ n + 1 else a / 2 ^ n := by
  unfold cdv lostB
  by_cases h : a % 2 ^ n = 0 <;> simp [h]

/-- block b holds the pair x -/
def GI (w : World) (b : Nat) (x : Pr) : Prop := ∃ a1 n1 c1 a2 n2 c2, Bp w b (.slice a1 n1 c1) (.slice a2 n2 c2) ∧ NV w (.slice a1 n1 c1) x.l ∧ NV w (.slice a2 n2 c2) x.h
theorem GI.below {w w' : World} {b : Nat} {x : Pr} (h : GI w b x) (hb : Below w.heap.size w w') : GI w' b x := by
  obtain ⟨a1, n1, c1, a2, n2, c2, h1, h2, h3⟩ := h
  exact ⟨a1, n1, c1, a2, n2, c2, h1.below hb, h2.below hb, h3.below hb⟩
theorem GI.lt {w : World} {b : Nat} {x : Pr} (h : GI w b x) : b < w.heap.size := by
  obtain ⟨a1, n1, c1, a2, n2, c2, h1, h2, h3⟩ := h; exact h1.lt
theorem GI.store {w : World} {b b' : Nat} {x y : Pr} (h : GI w b x) (h' : GI w b' y) (hne : b ≠ b') (a1' : Option Addr) (n1' c1' : Nat) (a2' : Option Addr) (n2' c2' : Nat) :
    GI ((w.setCell ⟨b', 0, none⟩ (.slice a1' n1' c1')).setCell ⟨b', 1, none⟩ (.slice a2' n2' c2')) b x := by
  obtain ⟨a1, n1, c1, a2, n2, c2, h1, h2, h3⟩ := h
  obtain ⟨e1, f1, g1, e2, f2, g2, h4, -, -⟩ := h'
  exact ⟨a1, n1, c1, a2, n2, c2, (h1.set hne _).set hne _, h2.setP2 h4, h3.setP2 h4⟩
theorem GI.put {w : World} {b : Nat} {x y : Pr} (h : GI w b x) {a1 : Option Addr} {n1 c1 : Nat} {a2 : Option Addr} {n2 c2 : Nat} (hl : NV w (.slice a1 n1 c1) y.l) (hh : NV w (.slice a2 n2 c2) y.h) :
    GI ((w.setCell ⟨b, 0, none⟩ (.slice a1 n1 c1)).setCell ⟨b, 1, none⟩ (.slice a2 n2 c2)) b y := by
  obtain ⟨e1, f1, g1, e2, f2, g2, h1, -, -⟩ := h
  exact ⟨a1, n1, c1, a2, n2, c2, h1.set2 _ _, hl.setP2 h1, hh.setP2 h1⟩
theorem GI.keep {w : World} {b : Nat} {x : Pr} (h : GI w b x) {v : Value} {n : Nat} (hv : NV w v n) (a1 : Option Addr) (n1 c1 : Nat) (a2 : Option Addr) (n2 c2 : Nat) :
    NV ((w.setCell ⟨b, 0, none⟩ (.slice a1 n1 c1)).setCell ⟨b, 1, none⟩ (.slice a2 n2 c2)) v n := by
  obtain ⟨e1, f1, g1, e2, f2, g2, h1, -, -⟩ := h
  exact hv.setP2 h1
theorem GI.drew {w : World} {b : Nat} {x : Pr} (h : GI w b x) : GI w.drew b x := h
theorem GI.drewN {w : World} {b : Nat} {x : Pr} (h : GI w b x) (n : Nat) : GI (w.drewN n) b x := h
theorem GI.new {w : World} {x : Pr} {a1 : Option Addr} {n1 c1 : Nat} {a2 : Option Addr} {n2 c2 : Nat} (hl : NV w (.slice a1 n1 c1) x.l) (hh : NV w (.slice a2 n2 c2) x.h) :
    GI (w.alloc (.cells #[.slice a1 n1 c1, .slice a2 n2 c2] 111)) w.heap.size x := ⟨a1, n1, c1, a2, n2, c2, Bp.new w _ _, hl.alloc _, hh.alloc _⟩
theorem GI.alloc {w : World} {b : Nat} {x : Pr} (h : GI w b x) (o : Obj) : GI (w.alloc o) b x := h.below ((Below.refl _ _).alloc (Nat.le_refl _) o)

set_option maxRecDepth 100000 in
set_option maxHeartbeats 4000000 in
theorem half_any (v : Value) (x : Pr) (n k0 : Nat) (X : Int) (w : World) (h : PV w v x) (hX : X = (n : Int)) (hl : x.l < 2 ^ k0) (hh : x.h < 2 ^ k0) (hk0 : k0 ≤ 110000000000000) (hn : n ≤ 120000000000000) :
    Calls Tryd.prog 145 #[v, .int .i64 X] w (RetP w (halfP x n)) := by
  subst hX
  obtain ⟨a1, n1, c1, a2, n2, c2, rfl, h1, h2⟩ := h.parts
  obtain ⟨lo, hi⟩ := x
  simp only at hl hh h1 h2
  have hq : hi / 2 ^ n < 2 ^ (k0 + 1) := by
    have := Nat.div_le_self hi (2 ^ n)
    rw [Nat.pow_succ]; omega
  have h1q : 1 < 2 ^ (k0 + 1) := by rw [Nat.pow_succ]; have := Nat.two_pow_pos k0; omega
  have R1 := Lib.hid (fun w' hv => right_any (.slice a1 n1 c1) lo n k0 n w' hv rfl hl (by omega) hn)
  have R2 := Lib.hid (fun w' hv => right_any (.slice a2 n2 c2) hi n k0 n w' hv rfl hh (by omega) hn)
  have OF := Lib.hid (fun w' => natOf_any 1 (by omega) (by omega) w')
  have PL := Lib.hid (fun va vb w' (ha : NV w' va (hi / 2 ^ n)) (hb : NV w' vb 1) => plus_any va vb _ 1 (k0 + 1) w' ha hb hq h1q (by omega))
  have hcase : (lostB hi n = true ∧ halfP ⟨lo, hi⟩ n = ⟨lo / 2 ^ n, hi / 2 ^ n + 1⟩) ∨ (lostB hi n = false ∧ halfP ⟨lo, hi⟩ n = ⟨lo / 2 ^ n, hi / 2 ^ n⟩) := by
    unfold halfP
    cases hb : lostB hi n
    · right; rw [cdv_two, hb]; exact ⟨rfl, rfl⟩
    · left; rw [cdv_two, hb]; exact ⟨rfl, rfl⟩
  generalize halfP ⟨lo, hi⟩ n = Y at *
  generalize lo / 2 ^ n = ql at *
  generalize hi / 2 ^ n = qh at *
  generalize lostB lo n = b1 at *
  generalize lostB hi n = b2 at *
  have H1 := Lib.hid h1
  have H2 := Lib.hid h2
  clear h1 h2 hl hh hq h1q h
  rcases hcase with ⟨rfl, rfl⟩ | ⟨rfl, rfl⟩
  all_goals
    go_enter Tryd.func145, Tryd.ntmps145
    go_wp2_with fail
    refine (R1.out _ (H1.out.below (bl_alloc2 _ _ _))).mono ?_
    rintro e w1 ⟨v1, rfl, hv1, hb1⟩
    have B1 := Lib.hid (bl_thru (bl_alloc2 w _ _) (Nat.le_refl _) hb1)
    have X1 := Lib.hid (((Bp.new w (.slice a1 n1 c1) (.slice a2 n2 c2)).alloc _).below hb1)
    have Z1 := Lib.hid ((Bp.new2 w _ (.slice none 0 0) (.slice none 0 0)).below hb1)
    have V1 := Lib.hid hv1
    clear hv1 hb1
    obtain ⟨x0, x1, -, -⟩ := X1.out.cells
    go_wp2_with fail
    refine (R2.out _ (H2.out.below B1.out)).mono ?_
    rintro e w2 ⟨v2, rfl, hv2, hb2⟩
    have B2 := Lib.hid (bl_thru B1.out (Nat.le_refl _) hb2)
    have Z2 := Lib.hid (Z1.out.below hb2)
    have V12 := Lib.hid (V1.out.below hb2)
    have V2 := Lib.hid hv2
    clear hv2 hb2 x0 x1
  · go_wp2_with fail
    refine (OF.out _).mono ?_
    rintro e w3 ⟨v3, rfl, hv3, hb3⟩
    have B3 := Lib.hid (bl_thru B2.out (Nat.le_refl _) hb3)
    have Z3 := Lib.hid (Z2.out.below hb3)
    have V13 := Lib.hid (V12.out.below hb3)
    have V23 := Lib.hid (V2.out.below hb3)
    have V3 := Lib.hid hv3
    clear hv3 hb3
    go_wp2_with fail
    refine (PL.out _ _ _ V23.out V3.out).mono ?_
    rintro e w4 ⟨v4, rfl, hv4, hb4⟩
    have B4 := Lib.hid (bl_thru B3.out (Nat.le_refl _) hb4)
    have Z4 := Lib.hid (Z3.out.below hb4)
    have V14 := Lib.hid (V13.out.below hb4)
    obtain ⟨p1, q1, r1, rfl⟩ := V14.out.shape
    obtain ⟨p4, q4, r4, rfl⟩ := hv4.shape
    have V4 := Lib.hid hv4
    clear hv4 hb4
    obtain ⟨s0, s1, t0, t1⟩ := Z4.out.cells
    go_wp2
    refine bodyPost_ret (v := .agg #[.slice p1 q1 r1, .slice p4 q4 r4]) (by simp [results, Tryd.results145, go_sem, s0, s1]) rfl ?_
    exact ⟨_, rfl, ⟨_, _, rfl, V14.out.setP2 Z4.out, V4.out.setP2 Z4.out⟩, bl_set2 B4.out (by omega) _ _⟩
  · obtain ⟨p1, q1, r1, rfl⟩ := V12.out.shape
    obtain ⟨p4, q4, r4, rfl⟩ := V2.out.shape
    obtain ⟨s0, s1, t0, t1⟩ := Z2.out.cells
    go_wp2
    refine bodyPost_ret (v := .agg #[.slice p1 q1 r1, .slice p4 q4 r4]) (by simp [results, Tryd.results145, go_sem, s0, s1]) rfl ?_
    exact ⟨_, rfl, ⟨_, _, rfl, V12.out.setP2 Z2.out, V2.out.setP2 Z2.out⟩, bl_set2 B2.out (by omega) _ _⟩
end Go.Proofs.YtmpdbmaokbhcjaaDoor
