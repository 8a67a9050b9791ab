/-
  THE WALK of dyad.Align.
-/
import Derived.Test.YtmpdbmaokbhcjaaGreatDoorBd
import Derived.Test.YtmpdbmaokbhcjaaGreatDoorNa
import Derived.Deep.RegionHeld3
import Derived.Deep.RegionWith
set_option linter.unusedVariables false
set_option linter.unusedSimpArgs false
namespace Go.Proofs.YtmpdbmaokbhcjaaGreatDoor
open Go.RowKit Nt Fm

/-- two numbers with one exponent -/
def RetAl (w : World) (a b : Nat) (x : Int) (e : Ending) (w' : World) : Prop := ∃ va vb, e = .returned (.tuple #[va, vb, .int .i64 x]) ∧ NV w' va a ∧ NV w' vb b ∧ Below w.heap.size w w'

set_option maxRecDepth 100000 in
set_option maxHeartbeats 4000000 in
theorem align_any (vc vd : Value) (c d : D) (k0 : Nat) (w : World) (hc : DV w vc c) (hd : DV w vd d) (hcm : c.m < 2 ^ k0) (hdm : d.m < 2 ^ k0) (hk0 : k0 ≤ 16000000000000) (ec0 : -16000000000000 ≤ c.e) (ec1 : c.e ≤ 16000000000000) (ed0 : -16000000000000 ≤ d.e) (ed1 : d.e ≤ 16000000000000) :
    Calls Tryz.prog 110 #[vc, vd] w (RetAl w (c.m * 2 ^ (c.e - min c.e d.e).toNat) (d.m * 2 ^ (d.e - min c.e d.e).toNat) (min c.e d.e)) := by
  obtain ⟨gc, mc, xc⟩ := c
  obtain ⟨gd, md, xd⟩ := d
  obtain ⟨sc, rfl, hsc⟩ := hc
  obtain ⟨sd, rfl, hsd⟩ := hd
  simp only at *
  obtain ⟨ac, nc, cc, rfl⟩ := hsc.shape
  obtain ⟨ad, nd, cd, rfl⟩ := hsd.shape
  obtain ⟨nx, ny, X, hX, h1, h2, hcase⟩ : ∃ (nx ny : Nat) (X : Int), X = min xc xd ∧ nx = (xc - min xc xd).toNat ∧ ny = (xd - min xc xd).toNat ∧ ((xd < xc ∧ X = xd ∧ xc - xd = nx ∧ xd - xd = (ny : Int)) ∨ (xc ≤ xd ∧ X = xc ∧ xc - xc = (nx : Int) ∧ xd - xc = ny)) :=
    ⟨_, _, _, rfl, rfl, rfl, by omega⟩
  rw [← h1, ← h2, ← hX]
  have HSC := Lib.hid hsc
  have HSD := Lib.hid hsd
  have HCM := Lib.hid hcm
  have HDM := Lib.hid hdm
  have nb : nx ≤ 32000000000000 ∧ ny ≤ 32000000000000 := by omega
  obtain ⟨nb1, nb2⟩ := nb
  clear hsc hsd hcm hdm hX h1 h2
  rcases hcase with ⟨h, hx, h1, h2⟩ | ⟨h, hx, h1, h2⟩
  all_goals
    have H1 := Lib.hid h1
    have H2 := Lib.hid h2
    have HX := Lib.hid hx
    clear h1 h2 hx
    go_enter Tryz.func110, Tryz.ntmps110
    go_wp2_with fail
    have BC := Lib.hid (((Box.new w (.bool gc) (.slice ac nc cc) (.int .i64 xc) 27).alloc (.cells #[.bool gd, .slice ad nd cd, .int .i64 xd] 27)).drew)
    have BD0 := Box.new (w.alloc (.cells #[.bool gc, .slice ac nc cc, .int .i64 xc] 27)) (.bool gd) (.slice ad nd cd) (.int .i64 xd) 27
    rw [size_alloc] at BD0
    have BD := Lib.hid BD0.drew
    clear BD0
    have B0 := Lib.hid ((((Below.refl w.heap.size w).alloc (Nat.le_refl _) (.cells #[.bool gc, .slice ac nc cc, .int .i64 xc] 27)).alloc (by simp) (.cells #[.bool gd, .slice ad nd cd, .int .i64 xd] 27)).drew)
    go_region_held3 (fun w' => w'.cell? ⟨w.heap.size, 1, none⟩ = some (.slice ac nc cc) ∧ w'.cell? ⟨w.heap.size, 2, none⟩ = some (.int .i64 xc) ∧ w'.cell? ⟨w.heap.size + 1, 1, none⟩ = some (.slice ad nd cd) ∧ w'.cell? ⟨w.heap.size + 1, 2, none⟩ = some (.int .i64 xd))
      (first
        | go_keep
        | (obtain ⟨p0, p1, p2, -, -, -⟩ := (Box.below BC.out hb1).cells
           obtain ⟨r0, r1, r2, -, -, -⟩ := (Box.below BD.out hb1).cells
           exact ⟨p1, p2, r1, r2⟩)
        | (obtain ⟨p0, p1, p2, -, -, -⟩ := (Box.below (Box.below BC.out HB1.out) hb2).cells
           obtain ⟨r0, r1, r2, -, -, -⟩ := (Box.below (Box.below BD.out HB1.out) hb2).cells
           exact ⟨p1, p2, r1, r2⟩))
      (first
        | (go_at_call_of 134 (Value.slice ac nc cc); refine (left_any (.slice ac nc cc) mc nx k0 _ _ (HSC.out.below B0.out) (by first | exact H1.out | (rw [IntWalk.i64_in _ (by omega)]; have := H1.out; omega)) HCM.out (by omega) (by omega)).mono ?_; rintro r w1 ⟨v1, rfl, hv1, hb1⟩; have HB1 := Lib.hid hb1; have HV1 := Lib.hid hv1; have B1 := Lib.hid (bl_thru B0.out (Nat.le_refl _) hb1))
        | (go_at_call_of 134 (Value.slice ad nd cd); refine (left_any (.slice ad nd cd) md ny k0 _ _ (HSD.out.below B1.out) (by first | exact H2.out | (rw [IntWalk.i64_in _ (by omega)]; have := H2.out; omega)) HDM.out (by omega) (by omega)).mono ?_; rintro r w2 ⟨v2, rfl, hv2, hb2⟩; have HB2 := Lib.hid hb2; have HV2 := Lib.hid hv2))
    clear hb1 hb2 hv1 hv2
    go_wp2
    go_ret3
    exact ⟨v1, v2, by rw [HX.out]; rfl, HV1.out.below HB2.out, HV2.out, bl_thru B1.out (Nat.le_refl _) HB2.out⟩
end Go.Proofs.YtmpdbmaokbhcjaaGreatDoor
