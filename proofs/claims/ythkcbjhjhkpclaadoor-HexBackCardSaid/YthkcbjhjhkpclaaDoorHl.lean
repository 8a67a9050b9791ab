/-
  THE WALK of hexLives.
-/
import Derived.Test.YthkcbjhjhkpclaaDoorHt
import Derived.Test.YthkcbjhjhkpclaaDoorBa
import Derived.Test.YthkcbjhjhkpclaaDoorDcl
set_option linter.unusedVariables false
set_option linter.unusedSimpArgs false
namespace Go.Proofs.YthkcbjhjhkpclaaDoor
open Go.RowKit Nt Fm Fl

theorem hl_fx : hfE 4609434218613702656 0 0 = 0 ∧ hfS 4609434218613702656 0 0 = [48, 120, 49, 112, 43, 49] ∧ hfC 4609434218613702656 0 0 = true := by
  have hv : hfE 4609434218613702656 0 0 = 0 := by kernel_rfl
  have hd : hfD 4609434218613702656 0 0 = ⟨false, 1, 1⟩ := by kernel_rfl
  refine ⟨hv, ?_, by kernel_rfl⟩
  unfold hfS
  rw [if_pos hv, show Int.toNat 0 = 0 from rfl, hd]
  unfold hxW hxE
  have hp : hxp ⟨false, 1, 1⟩ = 1 := by kernel_rfl
  rw [hp, show Lib.itoa 1 = [49] by unfold Lib.itoa; rw [if_neg (by omega)]; exact dec_small (r := 1) (by omega)]
  first | rfl | decide
theorem hl_tx : hxT 4609434218613702656 = [48, 120, 49, 46, 56, 112, 43, 48] := by
  have hc : fcls 4609434218613702656 = 3 := by kernel_rfl
  have hd : valD 4609434218613702656 = ⟨false, 3, -1⟩ := by kernel_rfl
  have hq : hxq ⟨false, 3, -1⟩ = 1 := by kernel_rfl
  unfold hxT
  rw [hc, if_neg (by decide), if_neg (by decide), hd, hq]
  unfold hxW hxE
  have hp : hxp ⟨false, 3, -1⟩ = 0 := by kernel_rfl
  rw [hp, show Lib.itoa 0 = [48] by unfold Lib.itoa; rw [if_neg (by omega)]; exact dec_small (r := 0) (by omega)]
  first | rfl | decide
theorem hl_prs : Prs [45, 48, 120, 46, 56, 112, 45, 49] [48, 120, 46, 56, 112, 45, 49] [46, 56, 112, 45, 49] [] [46, 56, 112, 45, 49] [56, 112, 45, 49] [56] [112, 45, 49] [45, 49] [49] [49] [] true true true true true false := by
  constructor <;> first | rfl | decide | kernel_rfl
theorem hl_nb : hnE [45, 48, 120, 46, 56, 112, 45, 49] (prBad [] [56] [49] [] true true) 0 = 0 ∧ hnV true (hxN 0 ([] ++ [56])) (prK [56] [49] true) 0 = 13821547256400052224 := by
  constructor <;> kernel_rfl
theorem hl_arg : (0 : Int) ≤ 4609434218613702656 ∧ (4609434218613702656 : Int) ≤ 18446744073709551615 := by omega
set_option maxRecDepth 100000 in
set_option maxHeartbeats 8000000 in
theorem hexLives_any (w : World) (hT : Tab w) (hT10 : Tab10 w) :
    Calls Tryd.prog 12 #[] w fun e w' => e = .returned (.bool true) ∧ Below w.heap.size w w' := by
  obtain ⟨a1, a2⟩ := hl_arg
  have FX := Lib.hid (fun w' h1 h2 => hfixed_any 4609434218613702656 0 0 a1 a2 w' h1 h2)
  rw [hl_fx.1, hl_fx.2.1, hl_fx.2.2] at FX
  have TX := Lib.hid (fun w' h1 h2 => htext_any 4609434218613702656 a1 a2 w' h1 h2)
  rw [hl_tx] at TX
  have NX := Lib.hid (fun w' => hnumber_any hl_prs ⟨#[45, 48, 120, 46, 56, 112, 45, 49]⟩ rfl 0 w')
  rw [hl_nb.1, if_pos rfl, hl_nb.2] at NX
  generalize (decide ((0 : Int) = 0) && hnC true (hxN 0 ([] ++ [56])) (prK [56] [49] true)) = cc at *
  have H0 := Lib.hid hT
  have T0 := Lib.hid hT10
  unfold RetUBE at NX
  unfold RetSBE at FX
  unfold RetT at TX
  clear hT hT10
  go_enter Tryd.func12, Tryd.ntmps12
  go_wp2_with (first
    | (go_at_call 16; refine (FX.out _ H0.out T0.out).mono ?_; rintro e w1 ⟨rfl, hb⟩; have H1 := Lib.hid (H0.out.below hb); have T1 := Lib.hid (T0.out.below hb); have B1 := Lib.hid hb; clear hb)
    | (go_at_call 14; refine (NX.out _).mono ?_; rintro e w2 ⟨rfl, hb⟩; have H2 := Lib.hid (H1.out.below hb); have T2 := Lib.hid (T1.out.below hb); have B2 := Lib.hid (bl_thru B1.out (Nat.le_refl _) hb); clear hb)
    | (go_at_call 9; first | ((with_reducible refine (ok_new2 _ _ _ _ (by simp)).mono ?_); rintro e w' ⟨rfl, rfl⟩))
    | (go_at_call 15; refine (TX.out _ (H2.out.alloc _) (T2.out.below ((Below.refl _ _).alloc (Nat.le_refl _) _))).mono ?_; rintro e w3 ⟨rfl, hb⟩; have B3 := Lib.hid (bl_thru (B2.out.alloc B2.out.size _) (Nat.le_refl _) hb); clear hb))
  all_goals first
    | (go_ret; refine ⟨rfl, ?_⟩; have := B3.out; have := B3.out.size; go_grown; done)
    | (exfalso; simp_all [ok2]; done)
    | trace_state
end Go.Proofs.YthkcbjhjhkpclaaDoor
