/-
  THE WALK of series.dyads.
-/
import Derived.Test.YtmpdbmaokbhcjaaDoorPrc
import Derived.Test.YtmpdbmaokbhcjaaDoorTzy
set_option linter.unusedVariables false
set_option linter.unusedSimpArgs false
namespace Go.Proofs.YtmpdbmaokbhcjaaDoor
open Go.RowKit Nt Fm
open Ea (Pr halfP timesP overP plusP fixedP cdv)

/-- a call that tells two exact numbers, in new memory -/
def RetD2 (w : World) (c d : D) (e : Ending) (w' : World) : Prop := ∃ v u, e = .returned (.tuple #[v, u]) ∧ DV w' v c ∧ DV w' u d ∧ Below w.heap.size w w'
set_option maxRecDepth 100000 in
set_option maxHeartbeats 8000000 in
theorem dyads_any (v : Value) (x : Pr) (p k0 : Nat) (P : Int) (w : World) (hT : Tab w) (hv : PV w v x) (hP : P = (p : Int)) (hl : x.l < 2 ^ k0) (hh : x.h < 2 ^ k0) (hk0 : k0 ≤ 110000000000000) (hp : p ≤ 40000000000000) :
    Calls Tryd.prog 90 #[v, .int .i64 P] w (RetD2 w (norm false x.l (-(p : Int))) (norm false x.h (-(p : Int)))) := by
  subst hP
  obtain ⟨a1, n1, c1, a2, n2, c2, rfl, h1, h2⟩ := hv.parts
  obtain ⟨xl, xh⟩ := x
  simp only at *
  have N1 : Hid (∀ (x : Int) w', x = -(p : Int) → Tab w' → NV w' (.slice a1 n1 c1) xl → Calls Tryd.prog 38 #[.bool false, .slice a1 n1 c1, .int .i64 x] w' (RetD w' (norm false xl (-(p : Int))))) := Lib.hid (fun x w' hx ht ha => by subst hx; exact dnorm_any false (.slice a1 n1 c1) xl k0 (-(p : Int)) w' ht ha hl (by omega) (by omega) (by omega))
  have N2 : Hid (∀ (x : Int) w', x = -(p : Int) → Tab w' → NV w' (.slice a2 n2 c2) xh → Calls Tryd.prog 38 #[.bool false, .slice a2 n2 c2, .int .i64 x] w' (RetD w' (norm false xh (-(p : Int))))) := Lib.hid (fun x w' hx ht ha => by subst hx; exact dnorm_any false (.slice a2 n2 c2) xh k0 (-(p : Int)) w' ht ha hh (by omega) (by omega) (by omega))
  generalize norm false xl (-(p : Int)) = C at *
  generalize norm false xh (-(p : Int)) = E at *
  have H1 := Lib.hid h1
  have H2 := Lib.hid h2
  have HT := Lib.hid hT
  clear h1 h2 hv hl hh hT
  go_enter Tryd.func90, Tryd.ntmps90
  go_wp2_with fail
  obtain ⟨V, hV⟩ : ∃ V, V = (((w.alloc (.cells #[.slice a1 n1 c1, .slice a2 n2 c2] 111)).alloc (.cells #[.bool false, .slice none 0 0, .int .i64 0] 24)).alloc (.cells #[.bool false, .slice none 0 0, .int .i64 0] 24)) := ⟨_, rfl⟩
  have XC : Hid (Bp V w.heap.size (.slice a1 n1 c1) (.slice a2 n2 c2)) := Lib.hid (by rw [hV]; exact ((Bp.new w (.slice a1 n1 c1) (.slice a2 n2 c2)).alloc _ |>.alloc _))
  have XD : Hid (Box V (w.heap.size + 1) 24 (.bool false) (.slice none 0 0) (.int .i64 0)) := Lib.hid (by rw [hV]; exact ((Box.new2 w _ (.bool false) (.slice none 0 0) (.int .i64 0) 24).alloc _))
  have XE : Hid (Box V (w.heap.size + 1 + 1) 24 (.bool false) (.slice none 0 0) (.int .i64 0)) := Lib.hid (by rw [hV]; exact (Box.new3 w _ _ (.bool false) (.slice none 0 0) (.int .i64 0) 24))
  have B0 : Hid (Below w.heap.size w V) := Lib.hid (by rw [hV]; exact bl_alloc3 w _ _ _)
  rw [← hV]
  clear hV
  obtain ⟨p0, p1, -, -⟩ := XC.out.drew.cells
  go_region_held3 (fun w' => w'.cell? ⟨w.heap.size, 0, none⟩ = some (.slice a1 n1 c1) ∧ w'.cell? ⟨w.heap.size, 1, none⟩ = some (.slice a2 n2 c2))
    (first
      | with_reducible exact ⟨p0, p1⟩
      | (obtain ⟨p0, p1, -, -⟩ := (XC.out.drew.below hb1).cells
         with_reducible exact ⟨p0, p1⟩)
      | (obtain ⟨p0, p1, -, -⟩ := ((XC.out.drew.below HB1.out).below hb2).cells
         with_reducible exact ⟨p0, p1⟩)
      | (obtain ⟨p0, p1, -, -⟩ := (((((XC.out.drew.below HB1.out).below HB2.out).set (b' := w.heap.size + 1) (o := 0) (by omega) (.bool C.neg)).set (b' := w.heap.size + 1) (o := 1) (by omega) (.slice e1 f1 g1)).set (b' := w.heap.size + 1) (o := 2) (by omega) (.int .i64 C.e)).cells
         with_reducible exact ⟨p0, p1⟩)
      | (obtain ⟨p0, p1, -, -⟩ := ((((((((XC.out.drew.below HB1.out).below HB2.out).set (b' := w.heap.size + 1) (o := 0) (by omega) (.bool C.neg)).set (b' := w.heap.size + 1) (o := 1) (by omega) (.slice e1 f1 g1)).set (b' := w.heap.size + 1) (o := 2) (by omega) (.int .i64 C.e)).set (b' := w.heap.size + 1 + 1) (o := 0) (by omega) (.bool E.neg)).set (b' := w.heap.size + 1 + 1) (o := 1) (by omega) (.slice e2 f2 g2)).set (b' := w.heap.size + 1 + 1) (o := 2) (by omega) (.int .i64 E.e)).cells
         with_reducible exact ⟨p0, p1⟩)
      | (go_keep; done))
    (first
    | (go_at_call_of 38 (Value.slice a1 n1 c1); refine (N1.out _ _ (IntWalk.i64_in _ (by omega)) (HT.out.below B0.out.drew) (H1.out.below B0.out.drew)).mono ?_; rintro r w1 ⟨v1, rfl, ⟨s1, rfl, hv1⟩, hb1⟩; obtain ⟨e1, f1, g1, rfl⟩ := hv1.shape; have HB1 := Lib.hid hb1; have HV1 := Lib.hid hv1; have B1 := Lib.hid (bl_thru B0.out.drew (Nat.le_refl _) hb1))
    | (go_at_call_of 38 (Value.slice a2 n2 c2); refine (N2.out _ _ (IntWalk.i64_in _ (by omega)) (HT.out.below B1.out) (H2.out.below B1.out)).mono ?_; rintro r w2 ⟨v2, rfl, ⟨s2, rfl, hv2⟩, hb2⟩; obtain ⟨e2, f2, g2, rfl⟩ := hv2.shape; have HB2 := Lib.hid hb2; have HV2 := Lib.hid hv2; have HV12 := Lib.hid (HV1.out.below hb2); have B2 := Lib.hid (bl_thru B1.out (Nat.le_refl _) hb2); have D2 := Lib.hid ((XD.out.drew.below HB1.out).below hb2); have E2 := Lib.hid ((XE.out.drew.below HB1.out).below hb2); obtain ⟨z0, z1, z2, z3, z4, z5⟩ := D2.out.cells; obtain ⟨y0, y1, y2, y3, y4, y5⟩ := ((((E2.out.set (b' := w.heap.size + 1) (o := 0) (by omega) (.bool C.neg)).set (b' := w.heap.size + 1) (o := 1) (by omega) (.slice e1 f1 g1)).set (b' := w.heap.size + 1) (o := 2) (by omega) (.int .i64 C.e))).cells))
  have D3 := Lib.hid (((((D2.out.set3 (.bool C.neg) (.slice e1 f1 g1) (.int .i64 C.e))).set (b' := w.heap.size + 1 + 1) (o := 0) (by omega) (.bool E.neg)).set (b' := w.heap.size + 1 + 1) (o := 1) (by omega) (.slice e2 f2 g2)).set (b' := w.heap.size + 1 + 1) (o := 2) (by omega) (.int .i64 E.e))
  have E3 := Lib.hid ((((E2.out.set (b' := w.heap.size + 1) (o := 0) (by omega) (.bool C.neg)).set (b' := w.heap.size + 1) (o := 1) (by omega) (.slice e1 f1 g1)).set (b' := w.heap.size + 1) (o := 2) (by omega) (.int .i64 C.e)))
  have E4 := Lib.hid (E3.out.set3 (.bool E.neg) (.slice e2 f2 g2) (.int .i64 E.e))
  have K1 := Lib.hid ((HV12.out.setD (g' := C.neg) (ao' := e1) (n' := f1) (c' := g1) (e' := C.e) D2.out).setD (g' := E.neg) (ao' := e2) (n' := f2) (c' := g2) (e' := E.e) E3.out)
  have K2 := Lib.hid ((HV2.out.setD (g' := C.neg) (ao' := e1) (n' := f1) (c' := g1) (e' := C.e) D2.out).setD (g' := E.neg) (ao' := e2) (n' := f2) (c' := g2) (e' := E.e) E3.out)
  clear z0 z1 z2 z3 z4 z5 y0 y1 y2 y3 y4 y5 hb1 hb2 hv1 hv2 p0 p1
  obtain ⟨s0, s1, s2, t0, t1, t2⟩ := D3.out.cells
  obtain ⟨r0, r1, r2, u0, u1, u2⟩ := E4.out.cells
  go_wp2
  refine bodyPost_ret (v := .tuple #[.agg #[.bool C.neg, .slice e1 f1 g1, .int .i64 C.e], .agg #[.bool E.neg, .slice e2 f2 g2, .int .i64 E.e]]) (by simp [results, Tryd.results90, go_sem, s0, s1, s2, r0, r1, r2]) rfl ?_
  exact ⟨_, _, rfl, ⟨_, rfl, K1.out⟩, ⟨_, rfl, K2.out⟩, bl_set3 (bl_set3 B2.out (by omega) _ _ _) (by omega) _ _ _⟩
end Go.Proofs.YtmpdbmaokbhcjaaDoor
