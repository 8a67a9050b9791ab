/-
  THE WALK of the law ExpoBack.
-/
import Derived.Test.YtmpdbmaokbhcjaaDoorUvx
set_option linter.unusedVariables false
set_option linter.unusedSimpArgs false
namespace Go.Proofs.YtmpdbmaokbhcjaaDoor
open Go.RowKit Nt Fm Fl

theorem ok2_z {a b : Int} (h : ok2 a b = true) : a = 0 ∧ b = 0 := by
  unfold ok2 at h; simp [and_assoc] at h; exact h
theorem ok3_z {a b c : Int} (h : ok3 a b c = true) : a = 0 ∧ b = 0 ∧ c = 0 := by
  unfold ok3 at h; simp [and_assoc] at h; exact h
theorem xpE_z {mode : Int} (h : xpE mode = 0) : knownB mode = true := by
  unfold xpE at h
  cases hk : knownB mode
  · rw [hk] at h; exact absurd h (by decide)
  · rfl
/-- a block of two values -/
def Fp2 (w : World) (b : Nat) (T : TypeId) (x y : Value) : Prop := w.heap[b]? = some (.cells #[x, y] T (0, 0))
theorem Fp2.new (w : World) (x y : Value) (T : TypeId) : Fp2 (w.alloc (.cells #[x, y] T)) w.heap.size T x y := heap_alloc_new w _
theorem Fp2.lt {w : World} {b : Nat} {T : TypeId} {x y : Value} (h : Fp2 w b T x y) : b < w.heap.size := (Array.getElem?_eq_some_iff.1 h).1
theorem Fp2.below {w w' : World} {b : Nat} {T : TypeId} {x y : Value} (h : Fp2 w b T x y) (hb : Below w.heap.size w w') : Fp2 w' b T x y := (hb.block b h.lt).trans h
theorem Fp2.cells {w : World} {b : Nat} {T : TypeId} {x y : Value} (h : Fp2 w b T x y) :
    w.cell? ⟨b, 0, none⟩ = some x ∧ w.cell? ⟨b, 1, none⟩ = some y ∧ w.frozen? ⟨b, 0, none⟩ = false := by
  unfold Fp2 at h
  refine ⟨?_, ?_, ?_⟩ <;> simp [World.cell?, World.frozen?, h]
set_option maxRecDepth 100000 in
set_option maxHeartbeats 16000000 in
theorem walkExpoBack (x : Int) (x0 : 0 ≤ x) (x1 : x ≤ 18446744073709551615) (w : World) (hT : Tab w) :
    Calls Tryd.prog 7 #[.int .u64 x] w fun e w' => e = .returned (.bool true) ∧ Below w.heap.size w w' := by
  obtain ⟨V_y0d, hV_y0d⟩ : ∃ V, V = xpV x 2 := ⟨_, rfl⟩
  have U_y0d : 0 ≤ V_y0d ∧ V_y0d ≤ 18446744073709551615 := by rw [hV_y0d]; exact xp_u x0 x1
  have HG_y0d := Lib.hid (fun w' ht => by
    have := xexp_any x 2 w' ht x0 x1 (by decide) (by decide)
    rw [← hV_y0d, xpE_t (show knownB 2 = true by decide), show xpC x 2 = finB x from by unfold xpC; rw [(show knownB 2 = true by decide)]; rfl] at this; exact this)
  obtain ⟨y0d, hy0d⟩ : ∃ y, y = V_y0d := ⟨_, rfl⟩
  rw [← hy0d] at HG_y0d
  have y0d0 : 0 ≤ y0d := by rw [hy0d]; exact U_y0d.1
  have y0d1 : y0d ≤ 18446744073709551615 := by rw [hy0d]; exact U_y0d.2
  obtain ⟨V_z0d, hV_z0d⟩ : ∃ V, V = lgV y0d 2 := ⟨_, rfl⟩
  have U_z0d : 0 ≤ V_z0d ∧ V_z0d ≤ 18446744073709551615 := by rw [hV_z0d]; exact lg_u y0d0 y0d1
  have HG_z0d := Lib.hid (fun w' ht => by
    have := xlog_any y0d 2 w' ht y0d0 y0d1 (by decide) (by decide)
    rw [← hV_z0d, xpE_t (show knownB 2 = true by decide), show lgC y0d 2 = (finB y0d && decide (y0d < 9223372036854775808 ∧ y0d ≠ 4607182418800017408)) from by unfold lgC; rw [(show knownB 2 = true by decide)]; rfl] at this; exact this)
  obtain ⟨K_z0d, J_z0d, hK_z0d, hJ_z0d⟩ : ∃ K J, K = frank V_z0d ∧ J = frerr V_z0d := ⟨_, _, rfl, rfl⟩
  have HR_z0d := Lib.hid (fun w' => by
    have := rank_any V_z0d U_z0d.1 U_z0d.2 w'
    rw [← hK_z0d, ← hJ_z0d] at this; exact this)
  obtain ⟨V_y0u, hV_y0u⟩ : ∃ V, V = xpV x 1 := ⟨_, rfl⟩
  have U_y0u : 0 ≤ V_y0u ∧ V_y0u ≤ 18446744073709551615 := by rw [hV_y0u]; exact xp_u x0 x1
  have HG_y0u := Lib.hid (fun w' ht => by
    have := xexp_any x 1 w' ht x0 x1 (by decide) (by decide)
    rw [← hV_y0u, xpE_t (show knownB 1 = true by decide), show xpC x 1 = finB x from by unfold xpC; rw [(show knownB 1 = true by decide)]; rfl] at this; exact this)
  obtain ⟨y0u, hy0u⟩ : ∃ y, y = V_y0u := ⟨_, rfl⟩
  rw [← hy0u] at HG_y0u
  have y0u0 : 0 ≤ y0u := by rw [hy0u]; exact U_y0u.1
  have y0u1 : y0u ≤ 18446744073709551615 := by rw [hy0u]; exact U_y0u.2
  obtain ⟨V_z0u, hV_z0u⟩ : ∃ V, V = lgV y0u 1 := ⟨_, rfl⟩
  have U_z0u : 0 ≤ V_z0u ∧ V_z0u ≤ 18446744073709551615 := by rw [hV_z0u]; exact lg_u y0u0 y0u1
  have HG_z0u := Lib.hid (fun w' ht => by
    have := xlog_any y0u 1 w' ht y0u0 y0u1 (by decide) (by decide)
    rw [← hV_z0u, xpE_t (show knownB 1 = true by decide), show lgC y0u 1 = (finB y0u && decide (y0u < 9223372036854775808 ∧ y0u ≠ 4607182418800017408)) from by unfold lgC; rw [(show knownB 1 = true by decide)]; rfl] at this; exact this)
  obtain ⟨K_z0u, J_z0u, hK_z0u, hJ_z0u⟩ : ∃ K J, K = frank V_z0u ∧ J = frerr V_z0u := ⟨_, _, rfl, rfl⟩
  have HR_z0u := Lib.hid (fun w' => by
    have := rank_any V_z0u U_z0u.1 U_z0u.2 w'
    rw [← hK_z0u, ← hJ_z0u] at this; exact this)
  obtain ⟨V_y1d, hV_y1d⟩ : ∃ V, V = lgV x 2 := ⟨_, rfl⟩
  have U_y1d : 0 ≤ V_y1d ∧ V_y1d ≤ 18446744073709551615 := by rw [hV_y1d]; exact lg_u x0 x1
  have HG_y1d := Lib.hid (fun w' ht => by
    have := xlog_any x 2 w' ht x0 x1 (by decide) (by decide)
    rw [← hV_y1d, xpE_t (show knownB 2 = true by decide), show lgC x 2 = (finB x && decide (x < 9223372036854775808 ∧ x ≠ 4607182418800017408)) from by unfold lgC; rw [(show knownB 2 = true by decide)]; rfl] at this; exact this)
  obtain ⟨y1d, hy1d⟩ : ∃ y, y = V_y1d := ⟨_, rfl⟩
  rw [← hy1d] at HG_y1d
  have y1d0 : 0 ≤ y1d := by rw [hy1d]; exact U_y1d.1
  have y1d1 : y1d ≤ 18446744073709551615 := by rw [hy1d]; exact U_y1d.2
  obtain ⟨V_z1d, hV_z1d⟩ : ∃ V, V = xpV y1d 2 := ⟨_, rfl⟩
  have U_z1d : 0 ≤ V_z1d ∧ V_z1d ≤ 18446744073709551615 := by rw [hV_z1d]; exact xp_u y1d0 y1d1
  have HG_z1d := Lib.hid (fun w' ht => by
    have := xexp_any y1d 2 w' ht y1d0 y1d1 (by decide) (by decide)
    rw [← hV_z1d, xpE_t (show knownB 2 = true by decide), show xpC y1d 2 = finB y1d from by unfold xpC; rw [(show knownB 2 = true by decide)]; rfl] at this; exact this)
  obtain ⟨K_z1d, J_z1d, hK_z1d, hJ_z1d⟩ : ∃ K J, K = frank V_z1d ∧ J = frerr V_z1d := ⟨_, _, rfl, rfl⟩
  have HR_z1d := Lib.hid (fun w' => by
    have := rank_any V_z1d U_z1d.1 U_z1d.2 w'
    rw [← hK_z1d, ← hJ_z1d] at this; exact this)
  obtain ⟨V_y1u, hV_y1u⟩ : ∃ V, V = lgV x 1 := ⟨_, rfl⟩
  have U_y1u : 0 ≤ V_y1u ∧ V_y1u ≤ 18446744073709551615 := by rw [hV_y1u]; exact lg_u x0 x1
  have HG_y1u := Lib.hid (fun w' ht => by
    have := xlog_any x 1 w' ht x0 x1 (by decide) (by decide)
    rw [← hV_y1u, xpE_t (show knownB 1 = true by decide), show lgC x 1 = (finB x && decide (x < 9223372036854775808 ∧ x ≠ 4607182418800017408)) from by unfold lgC; rw [(show knownB 1 = true by decide)]; rfl] at this; exact this)
  obtain ⟨y1u, hy1u⟩ : ∃ y, y = V_y1u := ⟨_, rfl⟩
  rw [← hy1u] at HG_y1u
  have y1u0 : 0 ≤ y1u := by rw [hy1u]; exact U_y1u.1
  have y1u1 : y1u ≤ 18446744073709551615 := by rw [hy1u]; exact U_y1u.2
  obtain ⟨V_z1u, hV_z1u⟩ : ∃ V, V = xpV y1u 1 := ⟨_, rfl⟩
  have U_z1u : 0 ≤ V_z1u ∧ V_z1u ≤ 18446744073709551615 := by rw [hV_z1u]; exact xp_u y1u0 y1u1
  have HG_z1u := Lib.hid (fun w' ht => by
    have := xexp_any y1u 1 w' ht y1u0 y1u1 (by decide) (by decide)
    rw [← hV_z1u, xpE_t (show knownB 1 = true by decide), show xpC y1u 1 = finB y1u from by unfold xpC; rw [(show knownB 1 = true by decide)]; rfl] at this; exact this)
  obtain ⟨K_z1u, J_z1u, hK_z1u, hJ_z1u⟩ : ∃ K J, K = frank V_z1u ∧ J = frerr V_z1u := ⟨_, _, rfl, rfl⟩
  have HR_z1u := Lib.hid (fun w' => by
    have := rank_any V_z1u U_z1u.1 U_z1u.2 w'
    rw [← hK_z1u, ← hJ_z1u] at this; exact this)
  obtain ⟨V_y2d, hV_y2d⟩ : ∃ V, V = x1V x 2 := ⟨_, rfl⟩
  have U_y2d : 0 ≤ V_y2d ∧ V_y2d ≤ 18446744073709551615 := by rw [hV_y2d]; exact x1_u x0 x1
  have HG_y2d := Lib.hid (fun w' ht => by
    have := xexpm1_any x 2 w' ht x0 x1 (by decide) (by decide)
    rw [← hV_y2d, xpE_t (show knownB 2 = true by decide), show xpC x 2 = finB x from by unfold xpC; rw [(show knownB 2 = true by decide)]; rfl] at this; exact this)
  obtain ⟨y2d, hy2d⟩ : ∃ y, y = V_y2d := ⟨_, rfl⟩
  rw [← hy2d] at HG_y2d
  have y2d0 : 0 ≤ y2d := by rw [hy2d]; exact U_y2d.1
  have y2d1 : y2d ≤ 18446744073709551615 := by rw [hy2d]; exact U_y2d.2
  obtain ⟨V_z2d, hV_z2d⟩ : ∃ V, V = lpV y2d 2 := ⟨_, rfl⟩
  have U_z2d : 0 ≤ V_z2d ∧ V_z2d ≤ 18446744073709551615 := by rw [hV_z2d]; exact lp_u y2d0 y2d1
  have HG_z2d := Lib.hid (fun w' ht => by
    have := xlog1p_any y2d 2 w' ht y2d0 y2d1 (by decide) (by decide)
    rw [← hV_z2d, xpE_t (show knownB 2 = true by decide), show lpC y2d 2 = (finB y2d && decide (y2d < 13830554455654793216)) from by unfold lpC; rw [(show knownB 2 = true by decide)]; rfl] at this; exact this)
  obtain ⟨K_z2d, J_z2d, hK_z2d, hJ_z2d⟩ : ∃ K J, K = frank V_z2d ∧ J = frerr V_z2d := ⟨_, _, rfl, rfl⟩
  have HR_z2d := Lib.hid (fun w' => by
    have := rank_any V_z2d U_z2d.1 U_z2d.2 w'
    rw [← hK_z2d, ← hJ_z2d] at this; exact this)
  obtain ⟨V_y2u, hV_y2u⟩ : ∃ V, V = x1V x 1 := ⟨_, rfl⟩
  have U_y2u : 0 ≤ V_y2u ∧ V_y2u ≤ 18446744073709551615 := by rw [hV_y2u]; exact x1_u x0 x1
  have HG_y2u := Lib.hid (fun w' ht => by
    have := xexpm1_any x 1 w' ht x0 x1 (by decide) (by decide)
    rw [← hV_y2u, xpE_t (show knownB 1 = true by decide), show xpC x 1 = finB x from by unfold xpC; rw [(show knownB 1 = true by decide)]; rfl] at this; exact this)
  obtain ⟨y2u, hy2u⟩ : ∃ y, y = V_y2u := ⟨_, rfl⟩
  rw [← hy2u] at HG_y2u
  have y2u0 : 0 ≤ y2u := by rw [hy2u]; exact U_y2u.1
  have y2u1 : y2u ≤ 18446744073709551615 := by rw [hy2u]; exact U_y2u.2
  obtain ⟨V_z2u, hV_z2u⟩ : ∃ V, V = lpV y2u 1 := ⟨_, rfl⟩
  have U_z2u : 0 ≤ V_z2u ∧ V_z2u ≤ 18446744073709551615 := by rw [hV_z2u]; exact lp_u y2u0 y2u1
  have HG_z2u := Lib.hid (fun w' ht => by
    have := xlog1p_any y2u 1 w' ht y2u0 y2u1 (by decide) (by decide)
    rw [← hV_z2u, xpE_t (show knownB 1 = true by decide), show lpC y2u 1 = (finB y2u && decide (y2u < 13830554455654793216)) from by unfold lpC; rw [(show knownB 1 = true by decide)]; rfl] at this; exact this)
  obtain ⟨K_z2u, J_z2u, hK_z2u, hJ_z2u⟩ : ∃ K J, K = frank V_z2u ∧ J = frerr V_z2u := ⟨_, _, rfl, rfl⟩
  have HR_z2u := Lib.hid (fun w' => by
    have := rank_any V_z2u U_z2u.1 U_z2u.2 w'
    rw [← hK_z2u, ← hJ_z2u] at this; exact this)
  obtain ⟨V_y3d, hV_y3d⟩ : ∃ V, V = lpV x 2 := ⟨_, rfl⟩
  have U_y3d : 0 ≤ V_y3d ∧ V_y3d ≤ 18446744073709551615 := by rw [hV_y3d]; exact lp_u x0 x1
  have HG_y3d := Lib.hid (fun w' ht => by
    have := xlog1p_any x 2 w' ht x0 x1 (by decide) (by decide)
    rw [← hV_y3d, xpE_t (show knownB 2 = true by decide), show lpC x 2 = (finB x && decide (x < 13830554455654793216)) from by unfold lpC; rw [(show knownB 2 = true by decide)]; rfl] at this; exact this)
  obtain ⟨y3d, hy3d⟩ : ∃ y, y = V_y3d := ⟨_, rfl⟩
  rw [← hy3d] at HG_y3d
  have y3d0 : 0 ≤ y3d := by rw [hy3d]; exact U_y3d.1
  have y3d1 : y3d ≤ 18446744073709551615 := by rw [hy3d]; exact U_y3d.2
  obtain ⟨V_z3d, hV_z3d⟩ : ∃ V, V = x1V y3d 2 := ⟨_, rfl⟩
  have U_z3d : 0 ≤ V_z3d ∧ V_z3d ≤ 18446744073709551615 := by rw [hV_z3d]; exact x1_u y3d0 y3d1
  have HG_z3d := Lib.hid (fun w' ht => by
    have := xexpm1_any y3d 2 w' ht y3d0 y3d1 (by decide) (by decide)
    rw [← hV_z3d, xpE_t (show knownB 2 = true by decide), show xpC y3d 2 = finB y3d from by unfold xpC; rw [(show knownB 2 = true by decide)]; rfl] at this; exact this)
  obtain ⟨K_z3d, J_z3d, hK_z3d, hJ_z3d⟩ : ∃ K J, K = frank V_z3d ∧ J = frerr V_z3d := ⟨_, _, rfl, rfl⟩
  have HR_z3d := Lib.hid (fun w' => by
    have := rank_any V_z3d U_z3d.1 U_z3d.2 w'
    rw [← hK_z3d, ← hJ_z3d] at this; exact this)
  obtain ⟨V_y3u, hV_y3u⟩ : ∃ V, V = lpV x 1 := ⟨_, rfl⟩
  have U_y3u : 0 ≤ V_y3u ∧ V_y3u ≤ 18446744073709551615 := by rw [hV_y3u]; exact lp_u x0 x1
  have HG_y3u := Lib.hid (fun w' ht => by
    have := xlog1p_any x 1 w' ht x0 x1 (by decide) (by decide)
    rw [← hV_y3u, xpE_t (show knownB 1 = true by decide), show lpC x 1 = (finB x && decide (x < 13830554455654793216)) from by unfold lpC; rw [(show knownB 1 = true by decide)]; rfl] at this; exact this)
  obtain ⟨y3u, hy3u⟩ : ∃ y, y = V_y3u := ⟨_, rfl⟩
  rw [← hy3u] at HG_y3u
  have y3u0 : 0 ≤ y3u := by rw [hy3u]; exact U_y3u.1
  have y3u1 : y3u ≤ 18446744073709551615 := by rw [hy3u]; exact U_y3u.2
  obtain ⟨V_z3u, hV_z3u⟩ : ∃ V, V = x1V y3u 1 := ⟨_, rfl⟩
  have U_z3u : 0 ≤ V_z3u ∧ V_z3u ≤ 18446744073709551615 := by rw [hV_z3u]; exact x1_u y3u0 y3u1
  have HG_z3u := Lib.hid (fun w' ht => by
    have := xexpm1_any y3u 1 w' ht y3u0 y3u1 (by decide) (by decide)
    rw [← hV_z3u, xpE_t (show knownB 1 = true by decide), show xpC y3u 1 = finB y3u from by unfold xpC; rw [(show knownB 1 = true by decide)]; rfl] at this; exact this)
  obtain ⟨K_z3u, J_z3u, hK_z3u, hJ_z3u⟩ : ∃ K J, K = frank V_z3u ∧ J = frerr V_z3u := ⟨_, _, rfl, rfl⟩
  have HR_z3u := Lib.hid (fun w' => by
    have := rank_any V_z3u U_z3u.1 U_z3u.2 w'
    rw [← hK_z3u, ← hJ_z3u] at this; exact this)
  obtain ⟨n, e, hn, he⟩ : ∃ n e, n = frank x ∧ e = frerr x := ⟨_, _, rfl, rfl⟩
  have RX := Lib.hid (fun w' => rank_any x x0 x1 w')
  rw [← hn, ← he] at RX
  have LW0 := fun h => back_el x0 x1 (he.symm.trans h)
  have Q0d : Hid (e = 0 → ((J_z0d == 0) = false ∨ ((J_z0d == 0) = true ∧ K_z0d ≤ n))) := Lib.hid (fun h => by
    by_cases hj : J_z0d = 0
    · right
      refine ⟨by rw [beq_iff_eq]; exact hj, ?_⟩
      rw [hK_z0d, hV_z0d, hy0d, hV_y0d, hn]
      rw [hJ_z0d, hV_z0d, hy0d, hV_y0d] at hj
      exact (LW0 h).1 hj
    · left; rw [beq_eq_false_iff_ne]; exact hj)
  have Q0u : Hid (e = 0 → ((J_z0u == 0) = false ∨ ((J_z0u == 0) = true ∧ n ≤ K_z0u))) := Lib.hid (fun h => by
    by_cases hj : J_z0u = 0
    · right
      refine ⟨by rw [beq_iff_eq]; exact hj, ?_⟩
      rw [hK_z0u, hV_z0u, hy0u, hV_y0u, hn]
      rw [hJ_z0u, hV_z0u, hy0u, hV_y0u] at hj
      exact (LW0 h).2 hj
    · left; rw [beq_eq_false_iff_ne]; exact hj)
  have LW1 := fun h => back_le x0 x1 (he.symm.trans h)
  have Q1d : Hid (e = 0 → ((J_z1d == 0) = false ∨ ((J_z1d == 0) = true ∧ K_z1d ≤ n))) := Lib.hid (fun h => by
    by_cases hj : J_z1d = 0
    · right
      refine ⟨by rw [beq_iff_eq]; exact hj, ?_⟩
      rw [hK_z1d, hV_z1d, hy1d, hV_y1d, hn]
      rw [hJ_z1d, hV_z1d, hy1d, hV_y1d] at hj
      exact (LW1 h).1 hj
    · left; rw [beq_eq_false_iff_ne]; exact hj)
  have Q1u : Hid (e = 0 → ((J_z1u == 0) = false ∨ ((J_z1u == 0) = true ∧ n ≤ K_z1u))) := Lib.hid (fun h => by
    by_cases hj : J_z1u = 0
    · right
      refine ⟨by rw [beq_iff_eq]; exact hj, ?_⟩
      rw [hK_z1u, hV_z1u, hy1u, hV_y1u, hn]
      rw [hJ_z1u, hV_z1u, hy1u, hV_y1u] at hj
      exact (LW1 h).2 hj
    · left; rw [beq_eq_false_iff_ne]; exact hj)
  have LW2 := fun h => back_xp x0 x1 (he.symm.trans h)
  have Q2d : Hid (e = 0 → ((J_z2d == 0) = false ∨ ((J_z2d == 0) = true ∧ K_z2d ≤ n))) := Lib.hid (fun h => by
    by_cases hj : J_z2d = 0
    · right
      refine ⟨by rw [beq_iff_eq]; exact hj, ?_⟩
      rw [hK_z2d, hV_z2d, hy2d, hV_y2d, hn]
      rw [hJ_z2d, hV_z2d, hy2d, hV_y2d] at hj
      exact (LW2 h).1 hj
    · left; rw [beq_eq_false_iff_ne]; exact hj)
  have Q2u : Hid (e = 0 → ((J_z2u == 0) = false ∨ ((J_z2u == 0) = true ∧ n ≤ K_z2u))) := Lib.hid (fun h => by
    by_cases hj : J_z2u = 0
    · right
      refine ⟨by rw [beq_iff_eq]; exact hj, ?_⟩
      rw [hK_z2u, hV_z2u, hy2u, hV_y2u, hn]
      rw [hJ_z2u, hV_z2u, hy2u, hV_y2u] at hj
      exact (LW2 h).2 hj
    · left; rw [beq_eq_false_iff_ne]; exact hj)
  have LW3 := fun h => back_px x0 x1 (he.symm.trans h)
  have Q3d : Hid (e = 0 → ((J_z3d == 0) = false ∨ ((J_z3d == 0) = true ∧ K_z3d ≤ n))) := Lib.hid (fun h => by
    by_cases hj : J_z3d = 0
    · right
      refine ⟨by rw [beq_iff_eq]; exact hj, ?_⟩
      rw [hK_z3d, hV_z3d, hy3d, hV_y3d, hn]
      rw [hJ_z3d, hV_z3d, hy3d, hV_y3d] at hj
      exact (LW3 h).1 hj
    · left; rw [beq_eq_false_iff_ne]; exact hj)
  have Q3u : Hid (e = 0 → ((J_z3u == 0) = false ∨ ((J_z3u == 0) = true ∧ n ≤ K_z3u))) := Lib.hid (fun h => by
    by_cases hj : J_z3u = 0
    · right
      refine ⟨by rw [beq_iff_eq]; exact hj, ?_⟩
      rw [hK_z3u, hV_z3u, hy3u, hV_y3u, hn]
      rw [hJ_z3u, hV_z3u, hy3u, hV_y3u] at hj
      exact (LW3 h).2 hj
    · left; rw [beq_eq_false_iff_ne]; exact hj)
  clear LW0 LW1 LW2 LW3
  clear hK_z0d hJ_z0d hV_z0d hV_y0d hy0d U_y0d U_z0d
  clear hK_z0u hJ_z0u hV_z0u hV_y0u hy0u U_y0u U_z0u
  clear hK_z1d hJ_z1d hV_z1d hV_y1d hy1d U_y1d U_z1d
  clear hK_z1u hJ_z1u hV_z1u hV_y1u hy1u U_y1u U_z1u
  clear hK_z2d hJ_z2d hV_z2d hV_y2d hy2d U_y2d U_z2d
  clear hK_z2u hJ_z2u hV_z2u hV_y2u hy2u U_y2u U_z2u
  clear hK_z3d hJ_z3d hV_z3d hV_y3d hy3d U_y3d U_z3d
  clear hK_z3u hJ_z3u hV_z3u hV_y3u hy3u U_y3u U_z3u
  generalize (finB x && decide (x < 9223372036854775808 ∧ x ≠ 4607182418800017408)) = qa0d at *
  generalize (finB x && decide (x < 13830554455654793216)) = qb0d at *
  generalize (finB y0d && decide (y0d < 9223372036854775808 ∧ y0d ≠ 4607182418800017408)) = qc0d at *
  generalize (finB y0d && decide (y0d < 13830554455654793216)) = qd0d at *
  generalize finB y0d = qe0d at *
  
  generalize (finB y0u && decide (y0u < 9223372036854775808 ∧ y0u ≠ 4607182418800017408)) = qc0u at *
  generalize (finB y0u && decide (y0u < 13830554455654793216)) = qd0u at *
  generalize finB y0u = qe0u at *
  
  generalize (finB y1d && decide (y1d < 9223372036854775808 ∧ y1d ≠ 4607182418800017408)) = qc1d at *
  generalize (finB y1d && decide (y1d < 13830554455654793216)) = qd1d at *
  generalize finB y1d = qe1d at *
  
  generalize (finB y1u && decide (y1u < 9223372036854775808 ∧ y1u ≠ 4607182418800017408)) = qc1u at *
  generalize (finB y1u && decide (y1u < 13830554455654793216)) = qd1u at *
  generalize finB y1u = qe1u at *
  
  generalize (finB y2d && decide (y2d < 9223372036854775808 ∧ y2d ≠ 4607182418800017408)) = qc2d at *
  generalize (finB y2d && decide (y2d < 13830554455654793216)) = qd2d at *
  generalize finB y2d = qe2d at *
  
  generalize (finB y2u && decide (y2u < 9223372036854775808 ∧ y2u ≠ 4607182418800017408)) = qc2u at *
  generalize (finB y2u && decide (y2u < 13830554455654793216)) = qd2u at *
  generalize finB y2u = qe2u at *
  
  generalize (finB y3d && decide (y3d < 9223372036854775808 ∧ y3d ≠ 4607182418800017408)) = qc3d at *
  generalize (finB y3d && decide (y3d < 13830554455654793216)) = qd3d at *
  generalize finB y3d = qe3d at *
  
  generalize (finB y3u && decide (y3u < 9223372036854775808 ∧ y3u ≠ 4607182418800017408)) = qc3u at *
  generalize (finB y3u && decide (y3u < 13830554455654793216)) = qd3u at *
  generalize finB y3u = qe3u at *
  generalize finB x = q0 at *
  clear hn he y0d0 y0d1 V_y0d y0u0 y0u1 V_y0u y1d0 y1d1 V_y1d y1u0 y1u1 V_y1u y2d0 y2d1 V_y2d y2u0 y2u1 V_y2u y3d0 y3d1 V_y3d y3u0 y3u1 V_y3u
  have hcase : (e != 0) = true ∨ e = 0 := by
    by_cases h : e = 0
    · exact Or.inr h
    · left; rw [bne_iff_ne]; exact h
  have HT := Lib.hid hT
  clear hT
  have B : Hid (Below w.heap.size w w) := Lib.hid (Below.refl w.heap.size w)
  have k2m := ok2_mk
  rcases hcase with h | rfl
  · go_enter Tryd.func7, Tryd.ntmps7
    go_wp2_with (go_at_call 19; refine (RX.out _).mono ?_; rintro e w' ⟨rfl, rfl⟩)
    refine (expoLives_any _ HT.out).mono ?_
    rintro r w1 ⟨rfl, hb⟩
    replace HT := Lib.hid (HT.out.below hb)
    replace B := Lib.hid (bl_thru B.out (Nat.le_refl _) hb)
    clear hb
    go_wp2_with fail
    refine (expoLives_any _ HT.out).mono ?_
    rintro r w2 ⟨rfl, hb⟩
    replace HT := Lib.hid (HT.out.below hb)
    replace B := Lib.hid (bl_thru B.out (Nat.le_refl _) hb)
    clear hb
    go_wp2
    go_ret
    exact ⟨rfl, B.out⟩
  · have P0d := Lib.hid (Q0d.out rfl)
    clear Q0d
    have P0u := Lib.hid (Q0u.out rfl)
    clear Q0u
    have P1d := Lib.hid (Q1d.out rfl)
    clear Q1d
    have P1u := Lib.hid (Q1u.out rfl)
    clear Q1u
    have P2d := Lib.hid (Q2d.out rfl)
    clear Q2d
    have P2u := Lib.hid (Q2u.out rfl)
    clear Q2u
    have P3d := Lib.hid (Q3d.out rfl)
    clear Q3d
    have P3u := Lib.hid (Q3u.out rfl)
    clear Q3u
    have j0 : ∀ w : World, (Instr.index 45 (.agg #[(.func (.func 20) #[] #[]), (.func (.func 21) #[] #[]), (.func (.func 21) #[] #[]), (.func (.func 20) #[] #[]), (.func (.func 22) #[] #[]), (.func (.func 23) #[] #[]), (.func (.func 23) #[] #[]), (.func (.func 22) #[] #[])]) (.int .i64 0)).run Tryd.prog w = .ok (.agg #[(.func (.func 20) #[] #[]), (.func (.func 21) #[] #[])]) w := fun _ => by kernel_rfl
    have j1 : ∀ w : World, (Instr.index 45 (.agg #[(.func (.func 20) #[] #[]), (.func (.func 21) #[] #[]), (.func (.func 21) #[] #[]), (.func (.func 20) #[] #[]), (.func (.func 22) #[] #[]), (.func (.func 23) #[] #[]), (.func (.func 23) #[] #[]), (.func (.func 22) #[] #[])]) (.int .i64 1)).run Tryd.prog w = .ok (.agg #[(.func (.func 21) #[] #[]), (.func (.func 20) #[] #[])]) w := fun _ => by kernel_rfl
    have j2 : ∀ w : World, (Instr.index 45 (.agg #[(.func (.func 20) #[] #[]), (.func (.func 21) #[] #[]), (.func (.func 21) #[] #[]), (.func (.func 20) #[] #[]), (.func (.func 22) #[] #[]), (.func (.func 23) #[] #[]), (.func (.func 23) #[] #[]), (.func (.func 22) #[] #[])]) (.int .i64 2)).run Tryd.prog w = .ok (.agg #[(.func (.func 22) #[] #[]), (.func (.func 23) #[] #[])]) w := fun _ => by kernel_rfl
    have j3 : ∀ w : World, (Instr.index 45 (.agg #[(.func (.func 20) #[] #[]), (.func (.func 21) #[] #[]), (.func (.func 21) #[] #[]), (.func (.func 20) #[] #[]), (.func (.func 22) #[] #[]), (.func (.func 23) #[] #[]), (.func (.func 23) #[] #[]), (.func (.func 22) #[] #[])]) (.int .i64 3)).run Tryd.prog w = .ok (.agg #[(.func (.func 23) #[] #[]), (.func (.func 22) #[] #[])]) w := fun _ => by kernel_rfl
    have i0 : ∀ w : World, (Instr.index 46 (.agg #[.int .i64 2, .int .i64 1]) (.int .i64 0)).run Tryd.prog w = .ok (.int .i64 2) w := fun _ => by kernel_rfl
    have i1 : ∀ w : World, (Instr.index 46 (.agg #[.int .i64 2, .int .i64 1]) (.int .i64 1)).run Tryd.prog w = .ok (.int .i64 1) w := fun _ => by kernel_rfl
    have hsf := fun (a : Addr) (n : Nat) (w : World) => run_store Tryd.prog w a (.func (.func n) #[] #[]) .plain rfl
    go_enter Tryd.func7, Tryd.ntmps7
    go_wp2_with (go_at_call 19; refine (RX.out _).mono ?_; rintro e w' ⟨rfl, rfl⟩)
    refine (expoLives_any _ HT.out).mono ?_
    rintro r w1 ⟨rfl, hb⟩
    replace HT := Lib.hid (HT.out.below hb)
    replace B := Lib.hid (bl_thru B.out (Nat.le_refl _) hb)
    clear hb
    go_wp2
    go_loopw [36] (fun i wr => ∃ k : Int, 0 ≤ k ∧ k ≤ 4 ∧ i = .int .i64 k ∧ Hid (Tab wr) ∧ Hid (Below w.heap.size w wr)) (fun i _ => 4 - (intOf i).toNat)
    case atStart => exact ⟨0, by omega, by omega, rfl, Lib.hid (HT.out.below (by go_grown)), Lib.hid (by have := B.out; have := B.out.size; go_grown)⟩
    case round =>
      clear HT B
      obtain ⟨k, hk0, hk, rfl, HT, B⟩ := hrel
      have hk4 : k = 0 ∨ k = 1 ∨ k = 2 ∨ k = 3 ∨ k = 4 := by omega
      rcases hk4 with rfl | rfl | rfl | rfl | rfl
      · go_wp2
        have X := Lib.hid (Fp2.new wr (.func (.func 20) #[] #[]) (.func (.func 21) #[] #[]) 44)
        clear hsf j0 j1 j2 j3
        clear P1d P1u P2d P2u P3d P3u HG_y1d HG_z1d HR_z1d HG_y1u HG_z1u HR_z1u HG_y2d HG_z2d HR_z2d HG_y2u HG_z2u HR_z2u HG_y3d HG_z3d HR_z3d HG_y3u HG_z3u HR_z3u
        go_loopw [40] (fun i wi => ∃ k : Int, 0 ≤ k ∧ k ≤ 2 ∧ i = .int .i64 k ∧ Hid (Tab wi) ∧ Hid (Below w.heap.size w wi) ∧ Hid (Fp2 wi wr.heap.size 44 (.func (.func 20) #[] #[]) (.func (.func 21) #[] #[]))) (fun i _ => 2 - (intOf i).toNat)
        case atStart => exact ⟨0, by omega, by omega, rfl, Lib.hid (HT.out.below (by go_grown)), Lib.hid (by have := B.out; have := B.out.size; go_grown), X⟩
        case round =>
          clear HT B X
          obtain ⟨i, hi0, hi, rfl, HT, B, X⟩ := hrel
          have hi2 : i = 0 ∨ i = 1 ∨ i = 2 := by omega
          rcases hi2 with rfl | rfl | rfl
          · have P := P0d
            clear P0d P0u
            obtain ⟨c0, c1, -⟩ := X.out.cells
            go_wp2_with fail
            refine (HG_y0d.out _ HT.out).mono ?_
            rintro r wy ⟨rfl, hb⟩
            replace X := Lib.hid (X.out.below hb)
            replace HT := Lib.hid (HT.out.below hb)
            replace B := Lib.hid (bl_thru B.out (Nat.le_refl _) hb)
            clear hb c0 c1
            obtain ⟨c0, c1, -⟩ := X.out.cells
            go_wp2_with fail
            refine (HG_z0d.out _ HT.out).mono ?_
            rintro r wz ⟨rfl, hb⟩
            replace X := Lib.hid (X.out.below hb)
            replace HT := Lib.hid (HT.out.below hb)
            replace B := Lib.hid (bl_thru B.out (Nat.le_refl _) hb)
            clear hb c0 c1
            clear HG_y0d HG_y0u HG_z0d HG_z0u
            rcases P.out with hp | ⟨hp, hq⟩
            · go_wp2_with (first
                | (go_at_call 18; with_reducible refine (ok_new2 _ _  _ _ rfl).mono ?_; rintro e w' ⟨rfl, rfl⟩)
                | (go_at_call 19; with_reducible refine (HR_z0d.out _).mono ?_; rintro e w' ⟨rfl, rfl⟩))
              go_roundw
              case rel => exact ⟨1, by omega, by omega, by go_num, Lib.hid (HT.out.below (by go_grown)), Lib.hid (by have := B.out; have := B.out.size; go_grown), Lib.hid (X.out.below (by go_grown))⟩
              case measure => simp [intOf]
            · go_wp2_with (first
                | (go_at_call 18; with_reducible refine (ok_new2 _ _  _ _ rfl).mono ?_; rintro e w' ⟨rfl, rfl⟩)
                | (go_at_call 19; with_reducible refine (HR_z0d.out _).mono ?_; rintro e w' ⟨rfl, rfl⟩))
              go_roundw
              case rel => exact ⟨1, by omega, by omega, by go_num, Lib.hid (HT.out.below (by go_grown)), Lib.hid (by have := B.out; have := B.out.size; go_grown), Lib.hid (X.out.below (by go_grown))⟩
              case measure => simp [intOf]
          · have P := P0u
            clear P0d P0u
            obtain ⟨c0, c1, -⟩ := X.out.cells
            go_wp2_with fail
            refine (HG_y0u.out _ HT.out).mono ?_
            rintro r wy ⟨rfl, hb⟩
            replace X := Lib.hid (X.out.below hb)
            replace HT := Lib.hid (HT.out.below hb)
            replace B := Lib.hid (bl_thru B.out (Nat.le_refl _) hb)
            clear hb c0 c1
            obtain ⟨c0, c1, -⟩ := X.out.cells
            go_wp2_with fail
            refine (HG_z0u.out _ HT.out).mono ?_
            rintro r wz ⟨rfl, hb⟩
            replace X := Lib.hid (X.out.below hb)
            replace HT := Lib.hid (HT.out.below hb)
            replace B := Lib.hid (bl_thru B.out (Nat.le_refl _) hb)
            clear hb c0 c1
            clear HG_y0d HG_y0u HG_z0d HG_z0u
            rcases P.out with hp | ⟨hp, hq⟩
            · go_wp2_with (first
                | (go_at_call 18; with_reducible refine (ok_new2 _ _  _ _ rfl).mono ?_; rintro e w' ⟨rfl, rfl⟩)
                | (go_at_call 19; with_reducible refine (HR_z0u.out _).mono ?_; rintro e w' ⟨rfl, rfl⟩))
              go_roundw
              case rel => exact ⟨2, by omega, by omega, by go_num, Lib.hid (HT.out.below (by go_grown)), Lib.hid (by have := B.out; have := B.out.size; go_grown), Lib.hid (X.out.below (by go_grown))⟩
              case measure => simp [intOf]
            · go_wp2_with (first
                | (go_at_call 18; with_reducible refine (ok_new2 _ _  _ _ rfl).mono ?_; rintro e w' ⟨rfl, rfl⟩)
                | (go_at_call 19; with_reducible refine (HR_z0u.out _).mono ?_; rintro e w' ⟨rfl, rfl⟩))
              go_roundw
              case rel => exact ⟨2, by omega, by omega, by go_num, Lib.hid (HT.out.below (by go_grown)), Lib.hid (by have := B.out; have := B.out.size; go_grown), Lib.hid (X.out.below (by go_grown))⟩
              case measure => simp [intOf]
          · clear i0 i1 P0d P0u HG_y0d HG_y0u HG_z0d HG_z0u HR_z0d HR_z0u
            go_wp2
            go_roundw
            case rel => exact ⟨1, by omega, by omega, by go_num, HT, B⟩
            case measure => simp [intOf]
      · go_wp2
        have X := Lib.hid (Fp2.new wr (.func (.func 21) #[] #[]) (.func (.func 20) #[] #[]) 44)
        clear hsf j0 j1 j2 j3
        clear P0d P0u P2d P2u P3d P3u HG_y0d HG_z0d HR_z0d HG_y0u HG_z0u HR_z0u HG_y2d HG_z2d HR_z2d HG_y2u HG_z2u HR_z2u HG_y3d HG_z3d HR_z3d HG_y3u HG_z3u HR_z3u
        go_loopw [40] (fun i wi => ∃ k : Int, 0 ≤ k ∧ k ≤ 2 ∧ i = .int .i64 k ∧ Hid (Tab wi) ∧ Hid (Below w.heap.size w wi) ∧ Hid (Fp2 wi wr.heap.size 44 (.func (.func 21) #[] #[]) (.func (.func 20) #[] #[]))) (fun i _ => 2 - (intOf i).toNat)
        case atStart => exact ⟨0, by omega, by omega, rfl, Lib.hid (HT.out.below (by go_grown)), Lib.hid (by have := B.out; have := B.out.size; go_grown), X⟩
        case round =>
          clear HT B X
          obtain ⟨i, hi0, hi, rfl, HT, B, X⟩ := hrel
          have hi2 : i = 0 ∨ i = 1 ∨ i = 2 := by omega
          rcases hi2 with rfl | rfl | rfl
          · have P := P1d
            clear P1d P1u
            obtain ⟨c0, c1, -⟩ := X.out.cells
            go_wp2_with fail
            refine (HG_y1d.out _ HT.out).mono ?_
            rintro r wy ⟨rfl, hb⟩
            replace X := Lib.hid (X.out.below hb)
            replace HT := Lib.hid (HT.out.below hb)
            replace B := Lib.hid (bl_thru B.out (Nat.le_refl _) hb)
            clear hb c0 c1
            obtain ⟨c0, c1, -⟩ := X.out.cells
            go_wp2_with fail
            refine (HG_z1d.out _ HT.out).mono ?_
            rintro r wz ⟨rfl, hb⟩
            replace X := Lib.hid (X.out.below hb)
            replace HT := Lib.hid (HT.out.below hb)
            replace B := Lib.hid (bl_thru B.out (Nat.le_refl _) hb)
            clear hb c0 c1
            clear HG_y1d HG_y1u HG_z1d HG_z1u
            rcases P.out with hp | ⟨hp, hq⟩
            · go_wp2_with (first
                | (go_at_call 18; with_reducible refine (ok_new2 _ _  _ _ rfl).mono ?_; rintro e w' ⟨rfl, rfl⟩)
                | (go_at_call 19; with_reducible refine (HR_z1d.out _).mono ?_; rintro e w' ⟨rfl, rfl⟩))
              go_roundw
              case rel => exact ⟨1, by omega, by omega, by go_num, Lib.hid (HT.out.below (by go_grown)), Lib.hid (by have := B.out; have := B.out.size; go_grown), Lib.hid (X.out.below (by go_grown))⟩
              case measure => simp [intOf]
            · go_wp2_with (first
                | (go_at_call 18; with_reducible refine (ok_new2 _ _  _ _ rfl).mono ?_; rintro e w' ⟨rfl, rfl⟩)
                | (go_at_call 19; with_reducible refine (HR_z1d.out _).mono ?_; rintro e w' ⟨rfl, rfl⟩))
              go_roundw
              case rel => exact ⟨1, by omega, by omega, by go_num, Lib.hid (HT.out.below (by go_grown)), Lib.hid (by have := B.out; have := B.out.size; go_grown), Lib.hid (X.out.below (by go_grown))⟩
              case measure => simp [intOf]
          · have P := P1u
            clear P1d P1u
            obtain ⟨c0, c1, -⟩ := X.out.cells
            go_wp2_with fail
            refine (HG_y1u.out _ HT.out).mono ?_
            rintro r wy ⟨rfl, hb⟩
            replace X := Lib.hid (X.out.below hb)
            replace HT := Lib.hid (HT.out.below hb)
            replace B := Lib.hid (bl_thru B.out (Nat.le_refl _) hb)
            clear hb c0 c1
            obtain ⟨c0, c1, -⟩ := X.out.cells
            go_wp2_with fail
            refine (HG_z1u.out _ HT.out).mono ?_
            rintro r wz ⟨rfl, hb⟩
            replace X := Lib.hid (X.out.below hb)
            replace HT := Lib.hid (HT.out.below hb)
            replace B := Lib.hid (bl_thru B.out (Nat.le_refl _) hb)
            clear hb c0 c1
            clear HG_y1d HG_y1u HG_z1d HG_z1u
            rcases P.out with hp | ⟨hp, hq⟩
            · go_wp2_with (first
                | (go_at_call 18; with_reducible refine (ok_new2 _ _  _ _ rfl).mono ?_; rintro e w' ⟨rfl, rfl⟩)
                | (go_at_call 19; with_reducible refine (HR_z1u.out _).mono ?_; rintro e w' ⟨rfl, rfl⟩))
              go_roundw
              case rel => exact ⟨2, by omega, by omega, by go_num, Lib.hid (HT.out.below (by go_grown)), Lib.hid (by have := B.out; have := B.out.size; go_grown), Lib.hid (X.out.below (by go_grown))⟩
              case measure => simp [intOf]
            · go_wp2_with (first
                | (go_at_call 18; with_reducible refine (ok_new2 _ _  _ _ rfl).mono ?_; rintro e w' ⟨rfl, rfl⟩)
                | (go_at_call 19; with_reducible refine (HR_z1u.out _).mono ?_; rintro e w' ⟨rfl, rfl⟩))
              go_roundw
              case rel => exact ⟨2, by omega, by omega, by go_num, Lib.hid (HT.out.below (by go_grown)), Lib.hid (by have := B.out; have := B.out.size; go_grown), Lib.hid (X.out.below (by go_grown))⟩
              case measure => simp [intOf]
          · clear i0 i1 P1d P1u HG_y1d HG_y1u HG_z1d HG_z1u HR_z1d HR_z1u
            go_wp2
            go_roundw
            case rel => exact ⟨2, by omega, by omega, by go_num, HT, B⟩
            case measure => simp [intOf]
      · go_wp2
        have X := Lib.hid (Fp2.new wr (.func (.func 22) #[] #[]) (.func (.func 23) #[] #[]) 44)
        clear hsf j0 j1 j2 j3
        clear P0d P0u P1d P1u P3d P3u HG_y0d HG_z0d HR_z0d HG_y0u HG_z0u HR_z0u HG_y1d HG_z1d HR_z1d HG_y1u HG_z1u HR_z1u HG_y3d HG_z3d HR_z3d HG_y3u HG_z3u HR_z3u
        go_loopw [40] (fun i wi => ∃ k : Int, 0 ≤ k ∧ k ≤ 2 ∧ i = .int .i64 k ∧ Hid (Tab wi) ∧ Hid (Below w.heap.size w wi) ∧ Hid (Fp2 wi wr.heap.size 44 (.func (.func 22) #[] #[]) (.func (.func 23) #[] #[]))) (fun i _ => 2 - (intOf i).toNat)
        case atStart => exact ⟨0, by omega, by omega, rfl, Lib.hid (HT.out.below (by go_grown)), Lib.hid (by have := B.out; have := B.out.size; go_grown), X⟩
        case round =>
          clear HT B X
          obtain ⟨i, hi0, hi, rfl, HT, B, X⟩ := hrel
          have hi2 : i = 0 ∨ i = 1 ∨ i = 2 := by omega
          rcases hi2 with rfl | rfl | rfl
          · have P := P2d
            clear P2d P2u
            obtain ⟨c0, c1, -⟩ := X.out.cells
            go_wp2_with fail
            refine (HG_y2d.out _ HT.out).mono ?_
            rintro r wy ⟨rfl, hb⟩
            replace X := Lib.hid (X.out.below hb)
            replace HT := Lib.hid (HT.out.below hb)
            replace B := Lib.hid (bl_thru B.out (Nat.le_refl _) hb)
            clear hb c0 c1
            obtain ⟨c0, c1, -⟩ := X.out.cells
            go_wp2_with fail
            refine (HG_z2d.out _ HT.out).mono ?_
            rintro r wz ⟨rfl, hb⟩
            replace X := Lib.hid (X.out.below hb)
            replace HT := Lib.hid (HT.out.below hb)
            replace B := Lib.hid (bl_thru B.out (Nat.le_refl _) hb)
            clear hb c0 c1
            clear HG_y2d HG_y2u HG_z2d HG_z2u
            rcases P.out with hp | ⟨hp, hq⟩
            · go_wp2_with (first
                | (go_at_call 18; with_reducible refine (ok_new2 _ _  _ _ rfl).mono ?_; rintro e w' ⟨rfl, rfl⟩)
                | (go_at_call 19; with_reducible refine (HR_z2d.out _).mono ?_; rintro e w' ⟨rfl, rfl⟩))
              go_roundw
              case rel => exact ⟨1, by omega, by omega, by go_num, Lib.hid (HT.out.below (by go_grown)), Lib.hid (by have := B.out; have := B.out.size; go_grown), Lib.hid (X.out.below (by go_grown))⟩
              case measure => simp [intOf]
            · go_wp2_with (first
                | (go_at_call 18; with_reducible refine (ok_new2 _ _  _ _ rfl).mono ?_; rintro e w' ⟨rfl, rfl⟩)
                | (go_at_call 19; with_reducible refine (HR_z2d.out _).mono ?_; rintro e w' ⟨rfl, rfl⟩))
              go_roundw
              case rel => exact ⟨1, by omega, by omega, by go_num, Lib.hid (HT.out.below (by go_grown)), Lib.hid (by have := B.out; have := B.out.size; go_grown), Lib.hid (X.out.below (by go_grown))⟩
              case measure => simp [intOf]
          · have P := P2u
            clear P2d P2u
            obtain ⟨c0, c1, -⟩ := X.out.cells
            go_wp2_with fail
            refine (HG_y2u.out _ HT.out).mono ?_
            rintro r wy ⟨rfl, hb⟩
            replace X := Lib.hid (X.out.below hb)
            replace HT := Lib.hid (HT.out.below hb)
            replace B := Lib.hid (bl_thru B.out (Nat.le_refl _) hb)
            clear hb c0 c1
            obtain ⟨c0, c1, -⟩ := X.out.cells
            go_wp2_with fail
            refine (HG_z2u.out _ HT.out).mono ?_
            rintro r wz ⟨rfl, hb⟩
            replace X := Lib.hid (X.out.below hb)
            replace HT := Lib.hid (HT.out.below hb)
            replace B := Lib.hid (bl_thru B.out (Nat.le_refl _) hb)
            clear hb c0 c1
            clear HG_y2d HG_y2u HG_z2d HG_z2u
            rcases P.out with hp | ⟨hp, hq⟩
            · go_wp2_with (first
                | (go_at_call 18; with_reducible refine (ok_new2 _ _  _ _ rfl).mono ?_; rintro e w' ⟨rfl, rfl⟩)
                | (go_at_call 19; with_reducible refine (HR_z2u.out _).mono ?_; rintro e w' ⟨rfl, rfl⟩))
              go_roundw
              case rel => exact ⟨2, by omega, by omega, by go_num, Lib.hid (HT.out.below (by go_grown)), Lib.hid (by have := B.out; have := B.out.size; go_grown), Lib.hid (X.out.below (by go_grown))⟩
              case measure => simp [intOf]
            · go_wp2_with (first
                | (go_at_call 18; with_reducible refine (ok_new2 _ _  _ _ rfl).mono ?_; rintro e w' ⟨rfl, rfl⟩)
                | (go_at_call 19; with_reducible refine (HR_z2u.out _).mono ?_; rintro e w' ⟨rfl, rfl⟩))
              go_roundw
              case rel => exact ⟨2, by omega, by omega, by go_num, Lib.hid (HT.out.below (by go_grown)), Lib.hid (by have := B.out; have := B.out.size; go_grown), Lib.hid (X.out.below (by go_grown))⟩
              case measure => simp [intOf]
          · clear i0 i1 P2d P2u HG_y2d HG_y2u HG_z2d HG_z2u HR_z2d HR_z2u
            go_wp2
            go_roundw
            case rel => exact ⟨3, by omega, by omega, by go_num, HT, B⟩
            case measure => simp [intOf]
      · go_wp2
        have X := Lib.hid (Fp2.new wr (.func (.func 23) #[] #[]) (.func (.func 22) #[] #[]) 44)
        clear hsf j0 j1 j2 j3
        clear P0d P0u P1d P1u P2d P2u HG_y0d HG_z0d HR_z0d HG_y0u HG_z0u HR_z0u HG_y1d HG_z1d HR_z1d HG_y1u HG_z1u HR_z1u HG_y2d HG_z2d HR_z2d HG_y2u HG_z2u HR_z2u
        go_loopw [40] (fun i wi => ∃ k : Int, 0 ≤ k ∧ k ≤ 2 ∧ i = .int .i64 k ∧ Hid (Tab wi) ∧ Hid (Below w.heap.size w wi) ∧ Hid (Fp2 wi wr.heap.size 44 (.func (.func 23) #[] #[]) (.func (.func 22) #[] #[]))) (fun i _ => 2 - (intOf i).toNat)
        case atStart => exact ⟨0, by omega, by omega, rfl, Lib.hid (HT.out.below (by go_grown)), Lib.hid (by have := B.out; have := B.out.size; go_grown), X⟩
        case round =>
          clear HT B X
          obtain ⟨i, hi0, hi, rfl, HT, B, X⟩ := hrel
          have hi2 : i = 0 ∨ i = 1 ∨ i = 2 := by omega
          rcases hi2 with rfl | rfl | rfl
          · have P := P3d
            clear P3d P3u
            obtain ⟨c0, c1, -⟩ := X.out.cells
            go_wp2_with fail
            refine (HG_y3d.out _ HT.out).mono ?_
            rintro r wy ⟨rfl, hb⟩
            replace X := Lib.hid (X.out.below hb)
            replace HT := Lib.hid (HT.out.below hb)
            replace B := Lib.hid (bl_thru B.out (Nat.le_refl _) hb)
            clear hb c0 c1
            obtain ⟨c0, c1, -⟩ := X.out.cells
            go_wp2_with fail
            refine (HG_z3d.out _ HT.out).mono ?_
            rintro r wz ⟨rfl, hb⟩
            replace X := Lib.hid (X.out.below hb)
            replace HT := Lib.hid (HT.out.below hb)
            replace B := Lib.hid (bl_thru B.out (Nat.le_refl _) hb)
            clear hb c0 c1
            clear HG_y3d HG_y3u HG_z3d HG_z3u
            rcases P.out with hp | ⟨hp, hq⟩
            · go_wp2_with (first
                | (go_at_call 18; with_reducible refine (ok_new2 _ _  _ _ rfl).mono ?_; rintro e w' ⟨rfl, rfl⟩)
                | (go_at_call 19; with_reducible refine (HR_z3d.out _).mono ?_; rintro e w' ⟨rfl, rfl⟩))
              go_roundw
              case rel => exact ⟨1, by omega, by omega, by go_num, Lib.hid (HT.out.below (by go_grown)), Lib.hid (by have := B.out; have := B.out.size; go_grown), Lib.hid (X.out.below (by go_grown))⟩
              case measure => simp [intOf]
            · go_wp2_with (first
                | (go_at_call 18; with_reducible refine (ok_new2 _ _  _ _ rfl).mono ?_; rintro e w' ⟨rfl, rfl⟩)
                | (go_at_call 19; with_reducible refine (HR_z3d.out _).mono ?_; rintro e w' ⟨rfl, rfl⟩))
              go_roundw
              case rel => exact ⟨1, by omega, by omega, by go_num, Lib.hid (HT.out.below (by go_grown)), Lib.hid (by have := B.out; have := B.out.size; go_grown), Lib.hid (X.out.below (by go_grown))⟩
              case measure => simp [intOf]
          · have P := P3u
            clear P3d P3u
            obtain ⟨c0, c1, -⟩ := X.out.cells
            go_wp2_with fail
            refine (HG_y3u.out _ HT.out).mono ?_
            rintro r wy ⟨rfl, hb⟩
            replace X := Lib.hid (X.out.below hb)
            replace HT := Lib.hid (HT.out.below hb)
            replace B := Lib.hid (bl_thru B.out (Nat.le_refl _) hb)
            clear hb c0 c1
            obtain ⟨c0, c1, -⟩ := X.out.cells
            go_wp2_with fail
            refine (HG_z3u.out _ HT.out).mono ?_
            rintro r wz ⟨rfl, hb⟩
            replace X := Lib.hid (X.out.below hb)
            replace HT := Lib.hid (HT.out.below hb)
            replace B := Lib.hid (bl_thru B.out (Nat.le_refl _) hb)
            clear hb c0 c1
            clear HG_y3d HG_y3u HG_z3d HG_z3u
            rcases P.out with hp | ⟨hp, hq⟩
            · go_wp2_with (first
                | (go_at_call 18; with_reducible refine (ok_new2 _ _  _ _ rfl).mono ?_; rintro e w' ⟨rfl, rfl⟩)
                | (go_at_call 19; with_reducible refine (HR_z3u.out _).mono ?_; rintro e w' ⟨rfl, rfl⟩))
              go_roundw
              case rel => exact ⟨2, by omega, by omega, by go_num, Lib.hid (HT.out.below (by go_grown)), Lib.hid (by have := B.out; have := B.out.size; go_grown), Lib.hid (X.out.below (by go_grown))⟩
              case measure => simp [intOf]
            · go_wp2_with (first
                | (go_at_call 18; with_reducible refine (ok_new2 _ _  _ _ rfl).mono ?_; rintro e w' ⟨rfl, rfl⟩)
                | (go_at_call 19; with_reducible refine (HR_z3u.out _).mono ?_; rintro e w' ⟨rfl, rfl⟩))
              go_roundw
              case rel => exact ⟨2, by omega, by omega, by go_num, Lib.hid (HT.out.below (by go_grown)), Lib.hid (by have := B.out; have := B.out.size; go_grown), Lib.hid (X.out.below (by go_grown))⟩
              case measure => simp [intOf]
          · clear i0 i1 P3d P3u HG_y3d HG_y3u HG_z3d HG_z3u HR_z3d HR_z3u
            go_wp2
            go_roundw
            case rel => exact ⟨4, by omega, by omega, by go_num, HT, B⟩
            case measure => simp [intOf]
      · clear j0 j1 j2 j3
        go_wp2
        go_ret
        exact ⟨rfl, B.out⟩
end Go.Proofs.YtmpdbmaokbhcjaaDoor
