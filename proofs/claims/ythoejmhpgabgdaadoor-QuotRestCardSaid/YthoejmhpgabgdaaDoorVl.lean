/-
  THE WALK of the law's own 'value'; floats that are in order as exact numbers.
-/
import Derived.Test.YthoejmhpgabgdaaDoorBg
import Derived.Test.YthoejmhpgabgdaaDoorBh
import Derived.Test.YthoejmhpgabgdaaDoorMu
set_option linter.unusedVariables false
set_option linter.unusedSimpArgs false
namespace Go.Proofs.YthoejmhpgabgdaaDoor
open Go.RowKit Nt Fm Fl

theorem fit_of {d : D} {k : Nat} (hn : d.Nf) (hk : k ≤ 12800) (hm : d.m < 2 ^ k) (h0 : -10000 ≤ d.e) (h1 : d.e ≤ 10000) : Fit d :=
  ⟨hn, @lt_pow _ k 12800 hm hk, h0, h1⟩
theorem ofD_fit (x : Int) (x0 : 0 ≤ x) (x1 : x ≤ 18446744073709551615) : Fit (ofD x) := by
  obtain ⟨a, b, c, d, -⟩ := valD_facts x x0 x1
  unfold ofD
  split
  · exact fit_of a (by omega) b (by omega) (by omega)
  · exact Fit.nz
theorem nv_of_rd {w : World} {g : Bool} {a : Option Addr} {n c : Nat} {x : Int} {d : D} (h : RD w (.agg #[.bool g, .slice a n c, .int .i64 x]) 0 d) : NV w (.slice a n c) d.m := by
  obtain ⟨s, h1, h2⟩ := h.dv
  simp only [Value.agg.injEq, Array.mk.injEq, List.cons.injEq, Value.bool.injEq, Value.int.injEq, and_true, true_and] at h1
  rw [h1.2.1]; exact h2
set_option maxHeartbeats 2000000 in
theorem valu_any (x : Int) (x0 : 0 ≤ x) (x1 : x ≤ 18446744073709551615) (w : World) (hT : Tab w) :
    Calls Tryd.prog 36 #[.int .u64 x] w (RetDB w (ofD x) (hasV x)) := by
  have hof := fun w' h => of_any x x0 x1 w' h
  have hcase : (hasV x = true ∧ ofE x = 0) ∨ (hasV x = false ∧ ofE x = 4) := by
    unfold ofE; cases hasV x
    · right; exact ⟨rfl, rfl⟩
    · left; exact ⟨rfl, rfl⟩
  generalize ofD x = d at *
  generalize ofE x = E at *
  generalize hasV x = b at *
  have HT := Lib.hid hT
  clear hT
  rcases hcase with ⟨rfl, rfl⟩ | ⟨rfl, rfl⟩
  · have HOF := Lib.hid hof
    clear hof
    go_enter Tryd.func36, Tryd.ntmps36
    go_wp2_with fail
    refine (HOF.out _ (HT.out.alloc _)).mono ?_
    rintro r w1 ⟨v, rfl, ⟨s, rfl, hv⟩, hb⟩
    obtain ⟨ao, n, c, rfl⟩ := hv.shape
    have B1 : Hid (Below w.heap.size w w1) := Lib.hid (bl_thru ((Below.refl w.heap.size w).alloc (Nat.le_refl _) _) (Nat.le_refl _) hb)
    have Z1 := Lib.hid ((Box.new w _ _ _ _).below hb)
    have Z2 := Lib.hid (Z1.out.alloc (.cells #[.bool d.neg, .slice ao n c, .int .i64 d.e] 52))
    have V1 := Lib.hid (hv.alloc (.cells #[.bool d.neg, .slice ao n c, .int .i64 d.e] 52))
    have X1 := Lib.hid (Box.new w1 (.bool d.neg) (.slice ao n c) (.int .i64 d.e) 52)
    obtain ⟨q0, q1, q2, f0, f1, f2⟩ := X1.out.cells
    obtain ⟨p0, p1, p2, g0, g1, g2⟩ := Z2.out.cells
    have hz := Z1.out.lt
    have hz2 : w.heap.size ≠ w1.heap.size := by omega
    obtain ⟨y0, y1, y2, y3, y4, y5⟩ := Z1.out.cells
    have Z4 := Lib.hid ((Z1.out.set3 (.bool d.neg) (.slice ao n c) (.int .i64 d.e)).alloc (.cells #[.bool d.neg, .slice ao n c, .int .i64 d.e] 52))
    have V4 := Lib.hid ((hv.setD (g' := d.neg) (ao' := ao) (n' := n) (c' := c) (e' := d.e) Z1.out).alloc (.cells #[.bool d.neg, .slice ao n c, .int .i64 d.e] 52))
    have B4 := Lib.hid ((bl_set3 B1.out (Nat.le_refl _) (.bool d.neg) (.slice ao n c) (.int .i64 d.e)).alloc (by have := B1.out.size; simp [World.setCell]; exact this) (.cells #[.bool d.neg, .slice ao n c, .int .i64 d.e] 52))
    clear hv hb
    go_wp2
    obtain ⟨r0, r1, r2, r3, r4, r5⟩ := Z4.out.cells
    refine bodyPost_ret (v := .tuple #[.agg #[.bool d.neg, .slice ao n c, .int .i64 d.e], .bool true]) (by simp [results, Tryd.results36, go_sem, r0, r1, r2]) rfl ?_
    exact ⟨ao, n, c, rfl, V4.out, B4.out⟩
  · have HOF := Lib.hid hof
    clear hof
    go_enter Tryd.func36, Tryd.ntmps36
    go_wp2_with fail
    refine (HOF.out _ (HT.out.alloc _)).mono ?_
    rintro r w1 ⟨v, rfl, ⟨s, rfl, hv⟩, hb⟩
    obtain ⟨ao, n, c, rfl⟩ := hv.shape
    have B1 : Hid (Below w.heap.size w w1) := Lib.hid (bl_thru ((Below.refl w.heap.size w).alloc (Nat.le_refl _) _) (Nat.le_refl _) hb)
    have Z1 := Lib.hid ((Box.new w _ _ _ _).below hb)
    have Z2 := Lib.hid (Z1.out.alloc (.cells #[.bool d.neg, .slice ao n c, .int .i64 d.e] 52))
    have V1 := Lib.hid (hv.alloc (.cells #[.bool d.neg, .slice ao n c, .int .i64 d.e] 52))
    have X1 := Lib.hid (Box.new w1 (.bool d.neg) (.slice ao n c) (.int .i64 d.e) 52)
    obtain ⟨q0, q1, q2, f0, f1, f2⟩ := X1.out.cells
    obtain ⟨p0, p1, p2, g0, g1, g2⟩ := Z2.out.cells
    have hz := Z1.out.lt
    have hz2 : w.heap.size ≠ w1.heap.size := by omega
    obtain ⟨y0, y1, y2, y3, y4, y5⟩ := Z1.out.cells
    have Z4 := Lib.hid ((Z1.out.set3 (.bool d.neg) (.slice ao n c) (.int .i64 d.e)).alloc (.cells #[.bool d.neg, .slice ao n c, .int .i64 d.e] 52))
    have V4 := Lib.hid ((hv.setD (g' := d.neg) (ao' := ao) (n' := n) (c' := c) (e' := d.e) Z1.out).alloc (.cells #[.bool d.neg, .slice ao n c, .int .i64 d.e] 52))
    have B4 := Lib.hid ((bl_set3 B1.out (Nat.le_refl _) (.bool d.neg) (.slice ao n c) (.int .i64 d.e)).alloc (by have := B1.out.size; simp [World.setCell]; exact this) (.cells #[.bool d.neg, .slice ao n c, .int .i64 d.e] 52))
    clear hv hb
    go_wp2
    obtain ⟨r0, r1, r2, r3, r4, r5⟩ := Z4.out.cells
    refine bodyPost_ret (v := .tuple #[.agg #[.bool d.neg, .slice ao n c, .int .i64 d.e], .bool false]) (by simp [results, Tryd.results36, go_sem, r0, r1, r2]) rfl ?_
    exact ⟨ao, n, c, rfl, V4.out, B4.out⟩
end Go.Proofs.YthoejmhpgabgdaaDoor
