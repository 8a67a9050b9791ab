/-
  PLAIN: prod.Dot's sum of a list turned round is the same; of one pair it is the product.
-/
import Derived.Test.YtapdjclhpcakeaaDoorDt
import Derived.Test.YtapdjclhpcakeaaDoorPo
import Derived.Test.YtapdjclhpcakeaaDoorBa
import Derived.Test.YtapdjclhpcakeaaDoorSo
set_option linter.unusedVariables false
set_option linter.unusedSimpArgs false
namespace Go.Proofs.YtapdjclhpcakeaaDoor
open Nt Fm Fl

theorem muV_yesD {x y mode : Int} (hk : knownB mode = true) : muV x y mode = muV0 x y mode ∧ muC x y mode = muC0 x y ∧ adE mode = 0 := by unfold muV muC adE; rw [hk]; exact ⟨rfl, rfl, rfl⟩
theorem dotN_cons (x y : Int) (t : List Int) : ∀ j, dotN (x :: y :: t) (j + 1) = plus (prD x y) (dotN t j)
  | 0 => by
    show plus nz (prD x y) = plus (prD x y) nz
    rw [plus_comm]
  | j + 1 => by
    show plus (dotN (x :: y :: t) (j + 1)) (prD ((x :: y :: t).getD (2 * (j + 1)) 0) ((x :: y :: t).getD (2 * (j + 1) + 1) 0)) = plus (prD x y) (plus (dotN t j) (prD (t.getD (2 * j) 0) (t.getD (2 * j + 1) 0)))
    rw [dotN_cons x y t j, plus_assoc]
    rfl
theorem dotN_pre (a b : List Int) : ∀ j, 2 * j ≤ a.length → dotN (a ++ b) j = dotN a j
  | 0, _ => rfl
  | j + 1, h => by
    show plus (dotN (a ++ b) j) (prD ((a ++ b).getD (2 * j) 0) ((a ++ b).getD (2 * j + 1) 0)) = plus (dotN a j) (prD (a.getD (2 * j) 0) (a.getD (2 * j + 1) 0))
    rw [dotN_pre a b j (by omega)]
    have e : ∀ i, i < a.length → (a ++ b).getD i 0 = a.getD i 0 := fun i hi => by
      simp [List.getD, List.getElem?_append_left hi]
    rw [e _ (by omega), e _ (by omega)]
theorem dotN_app (a : List Int) (x y : Int) (n : Nat) (h : a.length = 2 * n) : dotN (a ++ [x, y]) (n + 1) = plus (dotN a n) (prD x y) := by
  show plus (dotN (a ++ [x, y]) n) (prD ((a ++ [x, y]).getD (2 * n) 0) ((a ++ [x, y]).getD (2 * n + 1) 0)) = _
  rw [dotN_pre a _ n (by omega)]
  have e1 : (a ++ [x, y]).getD (2 * n) 0 = x := by simp [List.getD, ← h]
  have e2 : (a ++ [x, y]).getD (2 * n + 1) 0 = y := by simp [List.getD, ← h]
  rw [e1, e2]
theorem dotN_rev : ∀ (n : Nat) (l : List Int), l.length = 2 * n → dotN l.reverse n = dotN l n
  | 0, l, h => rfl
  | n + 1, l, h => by
    match l, h with
    | x :: y :: t, h =>
      have ht : t.length = 2 * n := by simp at h; omega
      have er : (x :: y :: t).reverse = t.reverse ++ [y, x] := by simp
      rw [er, dotN_app _ y x n (by rw [List.length_reverse]; exact ht), dotN_rev n t ht, dotN_cons, plus_comm, prD_comm]
theorem noV_rev (l : List Int) : noV l.reverse = noV l := by unfold noV; rw [List.any_reverse]
theorem dt_rev (l : List Int) (mode : Int) : dtE l.reverse mode = dtE l mode ∧ dtV l.reverse mode = dtV l mode ∧ dtC l.reverse mode = dtC l mode := by
  have e : dtE l.reverse mode = dtE l mode := by unfold dtE; rw [List.length_reverse, noV_rev]
  unfold dtV dtC
  rw [e, List.length_reverse]
  by_cases h0 : dtE l mode = 0
  · rw [if_pos h0, if_pos h0, if_pos h0, if_pos h0]
    have h2 : l.length % 2 = 0 := by
      unfold dtE at h0
      split at h0
      · split at h0
        · exact absurd h0 (by decide)
        · omega
      · exact absurd h0 (by decide)
    rw [dotN_rev (l.length / 2) l (by omega)]
    exact ⟨rfl, rfl, rfl⟩
  · rw [if_neg h0, if_neg h0, if_neg h0, if_neg h0]
    exact ⟨rfl, rfl, rfl⟩
theorem dt_known {l : List Int} {mode : Int} (h : dtE l mode = 0) : knownB mode = true := by
  unfold dtE at h
  cases hk : knownB mode
  · rw [hk] at h; simp at h
  · rfl
theorem dt_noV {l : List Int} {mode : Int} (h : dtE l mode = 0) : noV l = false := by
  unfold dtE at h
  cases hn : noV l
  · rfl
  · rw [hn] at h
    split at h
    · split at h
      · exact absurd h (by decide)
      · split at h
        · exact absurd h (by decide)
        · exact absurd h (by decide)
    · exact absurd h (by decide)
/-- of one pair it is the product -/
theorem dt_two {x y mode : Int} (h : dtE [x, y] mode = 0) : adE mode = 0 ∧ muC x y mode = dtC [x, y] mode ∧ (muV x y mode = dtV [x, y] mode ∨ (fcls (muV x y mode) = 1 ∧ fcls (dtV [x, y] mode) = 1)) := by
  have hk := dt_known h
  have hn := dt_noV h
  have hx : fabs x < 9218868437227405312 := by
    unfold noV hasV at hn; simp at hn; omega
  have hy : fabs y < 9218868437227405312 := by
    unfold noV hasV at hn; simp at hn; omega
  obtain ⟨-, c, z, nzz, -⟩ := mu_fin hx hy mode
  have e : dotN [x, y] ([x, y].length / 2) = prD x y := by
    have e1 : [x, y].length / 2 = 1 := by simp
    rw [e1]
    exact plus_nz_left (prD_nf x y)
  have ev : dtV [x, y] mode = numR (prD x y) mode := by unfold dtV; rw [if_pos h, e]
  have ec : dtC [x, y] mode = numC (prD x y) := by unfold dtC; rw [if_pos h, e]
  obtain ⟨m1, m2, m3⟩ := muV_yesD (x := x) (y := y) hk
  rw [m1, m2, ev, ec]
  refine ⟨m3, c, ?_⟩
  by_cases hz : (prD x y).m = 0
  · right
    refine ⟨fcls_1 (z hz), fcls_1 ?_⟩
    obtain ⟨r1, r2⟩ := rank_numR (prD x y) mode
    have r0 : rg (prD x y).neg mode (prD x y).m (prD x y).e = 0 := by unfold rg numk; rw [hz]; simp
    rw [r0] at r1
    have := frerr_0 r2
    unfold frank at r1
    rw [if_neg (by omega)] at r1
    split at r1 <;> omega
  · exact Or.inl (nzz hz)
theorem slVbd {l : List Int} (mode : Int) (h : ∀ d ∈ l, 0 ≤ d ∧ d ≤ 18446744073709551615) : 0 ≤ dtV l mode ∧ dtV l mode ≤ 18446744073709551615 := by
  unfold dtV
  split
  · exact numR_bd _ _
  · omega
end Go.Proofs.YtapdjclhpcakeaaDoor
