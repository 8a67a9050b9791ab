/-
  SOME OF MY TEXTS in one: Tl. Each says what it proves.
-/
import Derived.Test.YthlocmhfjandlaaGreatDoorZu
import Derived.Test.YthlocmhfjandlaaGreatDoorYfg
import Derived.Test.YthlocmhfjandlaaGreatDoorYjk
import Derived.Test.YthlocmhfjandlaaGreatDoorHg
import Derived.Test.YthlocmhfjandlaaGreatDoorBa
import Derived.Test.YthlocmhfjandlaaGreatDoorBp
set_option linter.unusedVariables false
set_option linter.unusedSimpArgs false
/-
  THE WALK of ulptop's lives.
-/
namespace Go.Proofs.YthlocmhfjandlaaGreatDoor
open Go.RowKit Nt Fm Fl

def tlx : Int := 4599075939470750516
theorem tl_lg : lgD (shD 4599075939470750516) = -1 := lgD_eq (by unfold IsLg; decide +kernel)
theorem tl_k (n : Nat) : shK 4599075939470750516 n = -(n : Int) := by unfold shK; rw [tl_lg]; omega
def tlQ (n : Nat) : Nat := dN (shD 4599075939470750516) (n : Int) / dD (shD 4599075939470750516) (n : Int)
theorem tl_q (n : Nat) : shQ 4599075939470750516 n = tlQ n := by unfold shQ tlQ; rw [tl_k, Int.neg_neg]
theorem tl_st (n : Nat) : shSt 4599075939470750516 n = (ftB (tlQ n) (lmL 4599075939470750516) (4 * lmM 4599075939470750516 + 2) (-(n : Int)) (lmE 4599075939470750516) (shEv 4599075939470750516) || ftB (tlQ n + 1) (lmL 4599075939470750516) (4 * lmM 4599075939470750516 + 2) (-(n : Int)) (lmE 4599075939470750516) (shEv 4599075939470750516)) := by
  unfold shSt shFa shFc
  rw [tl_q, tl_k]
theorem tl_no : ∀ i, 1 ≤ i → i < 17 → shSt 4599075939470750516 i = false := by
  have key : ∀ i : Fin 17, 1 ≤ i.val → (ftB (tlQ i.val) (lmL 4599075939470750516) (4 * lmM 4599075939470750516 + 2) (-((i.val : Nat) : Int)) (lmE 4599075939470750516) (shEv 4599075939470750516) || ftB (tlQ i.val + 1) (lmL 4599075939470750516) (4 * lmM 4599075939470750516 + 2) (-((i.val : Nat) : Int)) (lmE 4599075939470750516) (shEv 4599075939470750516)) = false := by decide +kernel
  intro i h1 h2
  rw [tl_st]
  exact key ⟨i, h2⟩ h1
theorem tl_c : shC 4599075939470750516 17 = false := by
  unfold shC shFa shFc shHf
  rw [tl_q, tl_k]
  decide +kernel
theorem tl_digits : shT 4599075939470750516 = [51, 48, 48, 48, 48, 48, 48, 48, 48, 48, 48, 48, 48, 48, 48, 48, 52] ∧ shX 4599075939470750516 = -17 := by
  obtain ⟨e1, e2⟩ := sh_end (x := 4599075939470750516) (by omega) (by omega) (by decide) (n := 17) (by omega) (by rw [tl_st]; decide +kernel) tl_no tl_c
  rw [tl_q] at e1 e2
  have e3 : shT 4599075939470750516 = [51, 48, 48, 48, 48, 48, 48, 48, 48, 48, 48, 48, 48, 48, 48, 48, 52] := e1.trans (by decide +kernel)
  refine ⟨e3, ?_⟩
  rw [e2, e3, tl_k]
  decide +kernel
theorem tl_text : stT 4599075939470750516 = [48, 46, 51, 48, 48, 48, 48, 48, 48, 48, 48, 48, 48, 48, 48, 48, 48, 48, 52] := by
  unfold stT
  rw [if_neg (by decide), if_neg (by decide), if_neg (by decide), tl_digits.1, tl_digits.2]
  decide +kernel
theorem tl_hex : hxT 4599075939470750516 = [48, 120, 49, 46, 51, 51, 51, 51, 51, 51, 51, 51, 51, 51, 51, 51, 52, 112, 45, 50] := by
  have hc : fcls 4599075939470750516 = 3 := by kernel_rfl
  have hd : valD 4599075939470750516 = ⟨false, 1351079888211149, -52⟩ := by kernel_rfl
  have hq : hxq ⟨false, 1351079888211149, -52⟩ = 13 := by kernel_rfl
  unfold hxT
  rw [hc, if_neg (by decide), if_neg (by decide), hd, hq]
  unfold hxW hxE
  have hp : hxp ⟨false, 1351079888211149, -52⟩ = -2 := by kernel_rfl
  rw [hp, show Lib.itoa (-2) = [45, 50] by unfold Lib.itoa; rw [if_pos (by omega), show Int.natAbs (-2) = 2 from rfl, dec_small (r := 2) (by omega)]; rfl]
  first | rfl | decide | decide +kernel
theorem tl_two : readE [48, 46, 50] 0 = 0 ∧ readV [48, 46, 50] 0 = 4596373779694328218 ∧ readC [48, 46, 50] 0 = true := by
  refine ⟨?_, ?_, ?_⟩ <;> kernel_rfl
theorem tl_sum : adV 4591870180066957722 4596373779694328218 0 = 4599075939470750516 ∧ adC 4591870180066957722 4596373779694328218 0 = true ∧ adE 0 = 0 := by
  refine ⟨?_, ?_, ?_⟩ <;> kernel_rfl
set_option maxRecDepth 100000 in
set_option maxHeartbeats 8000000 in
theorem topLives_any (w : World) (hT : Tab w) (hT10 : Tab10 w) :
    Calls Tryz.prog 21 #[] w fun e w' => e = .returned (.bool true) ∧ Below w.heap.size w w' := by
  have N1 := Lib.hid (fun w' h => rnumber_any [48, 46, 49] ⟨#[48, 46, 49]⟩ rfl 0 w' h)
  rw [rl_one.1, rl_one.2.1, rl_one.2.2] at N1
  have N2 := Lib.hid (fun w' h => rnumber_any [48, 46, 50] ⟨#[48, 46, 50]⟩ rfl 0 w' h)
  rw [tl_two.1, tl_two.2.1, tl_two.2.2] at N2
  unfold RetUBE at N1 N2
  have AD := Lib.hid (fun w' h => sadd_any 4591870180066957722 4596373779694328218 0 (by omega) (by omega) (by omega) (by omega) w' h)
  rw [tl_sum.1, tl_sum.2.1, tl_sum.2.2] at AD
  have TX := Lib.hid (fun w' h1 h2 => stext_any 4599075939470750516 (by omega) (by omega) w' h1 h2)
  rw [tl_text] at TX
  have HX := Lib.hid (fun w' h1 h2 => htext_any 4599075939470750516 (by omega) (by omega) w' h1 h2)
  rw [tl_hex] at HX
  unfold RetT at HX
  have HT := Lib.hid hT
  have H10 := Lib.hid hT10
  have B : Hid (Below w.heap.size w w) := Lib.hid (Below.refl w.heap.size w)
  clear hT hT10
  go_enter Tryz.func21, Tryz.ntmps21
  go_wp2_with (first
    | (go_at_call 50; first
        | ((with_reducible refine (N1.out _ HT.out).mono ?_); rintro r w1 ⟨rfl, hb⟩; replace HT := Lib.hid (HT.out.below hb); replace H10 := Lib.hid (H10.out.below hb); replace B := Lib.hid (bl_thru B.out (Nat.le_refl _) hb); clear hb)
        | ((with_reducible refine (N2.out _ HT.out).mono ?_); rintro r w1 ⟨rfl, hb⟩; replace HT := Lib.hid (HT.out.below hb); replace H10 := Lib.hid (H10.out.below hb); replace B := Lib.hid (bl_thru B.out (Nat.le_refl _) hb); clear hb))
    | (go_at_call 56; refine (AD.out _ HT.out).mono ?_; rintro r w1 ⟨rfl, hb⟩; replace HT := Lib.hid (HT.out.below hb); replace H10 := Lib.hid (H10.out.below hb); replace B := Lib.hid (bl_thru B.out (Nat.le_refl _) hb); clear hb)
    | (go_at_call 22; ((with_reducible refine (okT3_bl _ _ _ _ _ (by simp)).mono ?_); rintro r w1 ⟨rfl, hb⟩; replace HT := Lib.hid (HT.out.below hb); replace H10 := Lib.hid (H10.out.below hb); replace B := Lib.hid (bl_thru B.out (Nat.le_refl _) hb); clear hb))
    | (go_at_call 40; refine (TX.out _ HT.out H10.out).mono ?_; rintro r w1 ⟨rfl, hb⟩; replace HT := Lib.hid (HT.out.below hb); replace H10 := Lib.hid (H10.out.below hb); replace B := Lib.hid (bl_thru B.out (Nat.le_refl _) hb); clear hb)
    | (go_at_call 53; refine (HX.out _ HT.out H10.out).mono ?_; rintro r w1 ⟨rfl, hb⟩; replace HT := Lib.hid (HT.out.below hb); replace H10 := Lib.hid (H10.out.below hb); replace B := Lib.hid (bl_thru B.out (Nat.le_refl _) hb); clear hb))
  all_goals first
    | (go_ret; exact ⟨rfl, B.out⟩; done)
    | (go_ret; refine ⟨?_, B.out⟩; simp_all [ok3]; done)
    | (exfalso; simp_all [ok3]; done)
    | trace_state
end Go.Proofs.YthlocmhfjandlaaGreatDoor
