/-
  THE WALK of the law HexTurned.
-/
import Derived.Test.YthlocmhfjandlaaGreatDoorHg
import Derived.Test.YthlocmhfjandlaaGreatDoorLz
set_option linter.unusedVariables false
set_option linter.unusedSimpArgs false
namespace Go.Proofs.YthlocmhfjandlaaGreatDoor
open Go.RowKit Nt Fm Fl

theorem cutM_near (a b : Bool) (m : Nat) (k : Int) : cutM a m k 0 = cutM b m k 0 := by unfold cutM upB; cases a <;> cases b <;> rfl
theorem norm_me (a b : Bool) (m : Nat) (e : Int) : (norm a m e).m = (norm b m e).m ∧ (norm a m e).e = (norm b m e).e := by
  unfold norm; split <;> exact ⟨rfl, rfl⟩
theorem mulD_opp (d : D) (pl : Int) : (mulD (opp d) pl 0).m = (mulD d pl 0).m ∧ (mulD (opp d) pl 0).e = (mulD d pl 0).e := by
  unfold mulD opp
  dsimp only
  split
  · exact norm_me _ _ _ _
  · rw [cutM_near _ d.neg]; exact norm_me _ _ _ _
theorem hxW_of (x : Int) (d c : D) (h1 : d.m = c.m) (h2 : d.e = c.e) (p : Nat) : hxW x d p = hxP x ++ (hxW x c p).drop (hxP x).length := by
  unfold hxW hxp
  rw [h1, h2, List.drop_left]
theorem hxP_fneg {x : Int} (x0 : 0 ≤ x) (x1 : x ≤ 18446744073709551615) : (9223372036854775808 ≤ x → hxP x = [45] ++ hxP (fneg x)) ∧ (¬ 9223372036854775808 ≤ x → hxP (fneg x) = [45] ++ hxP x) := by
  unfold hxP
  constructor
  · intro hs
    have : ¬ 9223372036854775808 ≤ fneg x := by unfold fneg; rw [if_pos hs]; omega
    rw [if_pos hs, if_neg this]; rfl
  · intro hs
    have : 9223372036854775808 ≤ fneg x := by unfold fneg; rw [if_neg hs]; omega
    rw [if_pos this, if_neg hs]; rfl
/-- what write tells, behind its sign -/
def hxB (d : D) (places : Nat) : List UInt8 := if d.m = 0 then [48] ++ (if 0 < places then [46] ++ List.replicate places 48 else []) ++ [112, 43, 48]
    else [49] ++ (if 0 < places then [46] else []) ++ hxD (d.m * 2 ^ (4 * places - (blen d.m - 1))) places ++ hxE (hxp d)
theorem hxW_eq (x : Int) (d : D) (p : Nat) : hxW x d p = hxP x ++ hxB d p := rfl
theorem hxB_me {d c : D} (h1 : d.m = c.m) (h2 : d.e = c.e) (p : Nat) : hxB d p = hxB c p := by unfold hxB hxp; rw [h1, h2]
theorem hxE_len (p : Int) (hp : p.natAbs ≤ 9999) : (hxE p).length ≤ 100 := by
  unfold hxE
  have := itoa_len p (by omega)
  rw [List.length_append]
  split <;> simp <;> omega
theorem hxW_len (x : Int) (d : D) (p : Nat) (hp : p ≤ 1000) (he : (hxp d).natAbs ≤ 9999) : (hxW x d p).length ≤ 5000 := by
  rw [hxW_eq, List.length_append]
  have h1 : (hxP x).length ≤ 3 := by unfold hxP; split <;> simp
  have h2 := hxE_len (hxp d) he
  have h3 : (hxB d p).length ≤ 4000 := by
    unfold hxB
    have := hxD_len (d.m * 2 ^ (4 * p - (blen d.m - 1))) p
    split
    · split <;> simp <;> omega
    · split <;> simp [this] <;> omega
  omega
theorem hfE_fneg {x : Int} (x0 : 0 ≤ x) (x1 : x ≤ 18446744073709551615) (places mode : Int) : hfE (fneg x) places mode = hfE x places mode := by
  unfold hfE; rw [dHasV_fneg x0 x1]
theorem hxp_opp (d : D) : hxp (opp d) = hxp d := rfl
theorem hfC_fneg {x : Int} (x0 : 0 ≤ x) (x1 : x ≤ 18446744073709551615) (places mode : Int) : hfC (fneg x) places mode = hfC x places mode := by
  unfold hfC hfC0
  rw [hfE_fneg x0 x1 places mode, dVal_fneg x0 x1, hxp_opp]; rfl
theorem hfS_fneg {x : Int} (x0 : 0 ≤ x) (x1 : x ≤ 18446744073709551615) (places : Int) (hE : hfE x places 0 = 0) :
    (9223372036854775808 ≤ x → hfS x places 0 = [45] ++ hfS (fneg x) places 0) ∧ (¬ 9223372036854775808 ≤ x → hfS (fneg x) places 0 = [45] ++ hfS x places 0) := by
  unfold hfS hfD
  rw [hfE_fneg x0 x1, if_pos hE, if_pos hE, dVal_fneg x0 x1, hxp_opp, hxW_eq, hxW_eq]
  obtain ⟨h1, h2⟩ := mulD_opp (valD x) (hxp (valD x) - 4 * ((places.toNat : Nat) : Int))
  rw [hxB_me h1 h2]
  obtain ⟨k1, k2⟩ := hxP_fneg x0 x1
  exact ⟨fun h => by rw [k1 h, List.append_assoc], fun h => by rw [k2 h, List.append_assoc]⟩
theorem hfS_len {x : Int} (x0 : 0 ≤ x) (x1 : x ≤ 18446744073709551615) (places mode : Int) : (hfS x places mode).length ≤ 5000 := by
  unfold hfS
  by_cases hE : hfE x places mode = 0
  · rw [if_pos hE]
    rcases hfE_cases x places mode with ⟨-, h⟩ | ⟨-, -, h⟩ | ⟨-, ⟨-, p0, p1⟩, -⟩
    · omega
    · omega
    · refine hxW_len _ _ _ (by omega) ?_
      obtain ⟨f1, f2, f3, f4, f5⟩ := valD_facts x x0 x1
      have hbl : blen (valD x).m ≤ 53 := blen_le_of f2
      obtain ⟨pl, hpl⟩ : ∃ pl, pl = hxp (valD x) - 4 * ((places.toNat : Nat) : Int) := ⟨_, rfl⟩
      have hplb : -2500 ≤ pl ∧ pl ≤ 2500 := by rw [hpl]; unfold hxp; omega
      obtain ⟨g1, g2, g3⟩ := mulD_bd f2 pl mode (by omega) (by omega) hplb.1 hplb.2
      unfold hfD
      rw [← hpl]
      have := blen_le_of g1
      unfold hxp
      omega
  · rw [if_neg hE]; simp

set_option maxRecDepth 100000 in
set_option maxHeartbeats 8000000 in
theorem walkHexTurned (x : Int) (x0 : 0 ≤ x) (x1 : x ≤ 18446744073709551615) (digits : Int) (digits0 : -9223372036854775808 ≤ digits) (digits1 : digits ≤ 9223372036854775807) (w : World) (hT : Tab w) (hT10 : Tab10 w) :
    Calls Tryz.prog 5 #[.int .u64 x, .int .i64 digits] w fun e w' => e = .returned (.bool true) ∧ Below w.heap.size w w' := by
  obtain ⟨n0, n1⟩ := fneg_bd x0 x1
  have F1 := Lib.hid (fun w' h1 h2 => hfixed_any x digits 0 x0 x1 w' h1 h2)
  have F2 := Lib.hid (fun w' h1 h2 => hfixed_any (fneg x) digits 0 n0 n1 w' h1 h2)
  rw [hfE_fneg x0 x1 digits 0, hfC_fneg x0 x1 digits 0] at F2
  have SL := hfS_fneg x0 x1 digits
  have l1 := hfS_len x0 x1 digits 0
  have l2 := hfS_len n0 n1 digits 0
  have NG := Lib.hid (fun w' => neg_any x x0 x1 w')
  unfold RetSBE at F1 F2
  generalize hfS x digits 0 = s1 at *
  generalize hfS (fneg x) digits 0 = s2 at *
  generalize hfE x digits 0 = E at *
  generalize hfC x digits 0 = C at *
  generalize fneg x = y at *
  obtain ⟨S1, h1⟩ : ∃ S : ByteArray, S = ⟨s1.toArray⟩ := ⟨_, rfl⟩
  obtain ⟨S2, h2⟩ : ∃ S : ByteArray, S = ⟨s2.toArray⟩ := ⟨_, rfl⟩
  have z1 : S1.size ≤ 100000 := by
    have : S1.size = s1.length := by rw [h1]; rfl
    omega
  have z2 : S2.size ≤ 100000 := by
    have : S2.size = s2.length := by rw [h2]; rfl
    omega
  rw [← h1] at F1
  rw [← h2] at F2
  have LL : Hid (E = 0 → (9223372036854775808 ≤ x → S1 = ⟨#[45]⟩ ++ S2) ∧ (¬ 9223372036854775808 ≤ x → S2 = ⟨#[45]⟩ ++ S1)) := Lib.hid (fun hE => by
    obtain ⟨k1, k2⟩ := SL hE
    refine ⟨fun h => ?_, fun h => ?_⟩
    · rw [h1, h2, k1 h]; exact (ba_app [45] s2 rfl rfl).symm
    · rw [h1, h2, k2 h]; exact (ba_app [45] s1 rfl rfl).symm)
  have HT := Lib.hid hT
  have H10 := Lib.hid hT10
  have B : Hid (Below w.heap.size w w) := Lib.hid (Below.refl w.heap.size w)
  clear hT hT10 SL l1 l2 h1 h2 n0 n1
  by_cases hE : E = 0
  · subst hE
    by_cases hx : 9223372036854775808 ≤ x
    · have e := (LL.out rfl).1 hx
      have HE := Lib.hid e
      have heq : (S1.toList == (⟨#[45]⟩ ++ S2).toList) = true := by rw [e]; simp
      clear e
      go_enter Tryz.func5, Tryz.ntmps5
      go_wp2_with (first
        | (go_at_call 30; ((with_reducible refine (F1.out _ HT.out H10.out).mono ?_); rintro r w1 ⟨rfl, hb⟩; replace HT := Lib.hid (HT.out.below hb); replace H10 := Lib.hid (H10.out.below hb); replace B := Lib.hid (bl_thru B.out (Nat.le_refl _) hb); clear hb))
        | (go_at_call 30; ((with_reducible refine (F2.out _ HT.out H10.out).mono ?_); rintro r w1 ⟨rfl, hb⟩; replace HT := Lib.hid (HT.out.below hb); replace H10 := Lib.hid (H10.out.below hb); replace B := Lib.hid (bl_thru B.out (Nat.le_refl _) hb); clear hb))
        | (go_at_call 31; (refine (NG.out _).mono ?_); rintro e w' ⟨rfl, rfl⟩)
        | (go_at_call 32; (refine (hexLives_any _ HT.out H10.out).mono ?_); rintro r w1 ⟨rfl, hb⟩; replace HT := Lib.hid (HT.out.below hb); replace H10 := Lib.hid (H10.out.below hb); replace B := Lib.hid (bl_thru B.out (Nat.le_refl _) hb); clear hb))
      all_goals first
        | (go_ret; refine ⟨?_, B.out⟩; simp_all; done)
        | (exfalso; simp_all; done)
        | trace_state
    · have e := (LL.out rfl).2 hx
      have HE := Lib.hid e
      have heq : (S2.toList == (⟨#[45]⟩ ++ S1).toList) = true := by rw [e]; simp
      clear e
      go_enter Tryz.func5, Tryz.ntmps5
      go_wp2_with (first
        | (go_at_call 30; ((with_reducible refine (F1.out _ HT.out H10.out).mono ?_); rintro r w1 ⟨rfl, hb⟩; replace HT := Lib.hid (HT.out.below hb); replace H10 := Lib.hid (H10.out.below hb); replace B := Lib.hid (bl_thru B.out (Nat.le_refl _) hb); clear hb))
        | (go_at_call 30; ((with_reducible refine (F2.out _ HT.out H10.out).mono ?_); rintro r w1 ⟨rfl, hb⟩; replace HT := Lib.hid (HT.out.below hb); replace H10 := Lib.hid (H10.out.below hb); replace B := Lib.hid (bl_thru B.out (Nat.le_refl _) hb); clear hb))
        | (go_at_call 31; (refine (NG.out _).mono ?_); rintro e w' ⟨rfl, rfl⟩)
        | (go_at_call 32; (refine (hexLives_any _ HT.out H10.out).mono ?_); rintro r w1 ⟨rfl, hb⟩; replace HT := Lib.hid (HT.out.below hb); replace H10 := Lib.hid (H10.out.below hb); replace B := Lib.hid (bl_thru B.out (Nat.le_refl _) hb); clear hb))
      all_goals first
        | (go_ret; refine ⟨?_, B.out⟩; simp_all; done)
        | (exfalso; simp_all; done)
        | trace_state
  · have hE2 : (E == 0) = false := by rw [beq_eq_false_iff_ne]; exact hE
    have hE3 : (E != 0) = true := by rw [bne_iff_ne]; exact hE
    clear LL
    go_enter Tryz.func5, Tryz.ntmps5
    go_wp2_with (first
      | (go_at_call 30; ((with_reducible refine (F1.out _ HT.out H10.out).mono ?_); rintro r w1 ⟨rfl, hb⟩; replace HT := Lib.hid (HT.out.below hb); replace H10 := Lib.hid (H10.out.below hb); replace B := Lib.hid (bl_thru B.out (Nat.le_refl _) hb); clear hb))
      | (go_at_call 30; ((with_reducible refine (F2.out _ HT.out H10.out).mono ?_); rintro r w1 ⟨rfl, hb⟩; replace HT := Lib.hid (HT.out.below hb); replace H10 := Lib.hid (H10.out.below hb); replace B := Lib.hid (bl_thru B.out (Nat.le_refl _) hb); clear hb))
      | (go_at_call 31; (refine (NG.out _).mono ?_); rintro e w' ⟨rfl, rfl⟩)
      | (go_at_call 32; (refine (hexLives_any _ HT.out H10.out).mono ?_); rintro r w1 ⟨rfl, hb⟩; replace HT := Lib.hid (HT.out.below hb); replace H10 := Lib.hid (H10.out.below hb); replace B := Lib.hid (bl_thru B.out (Nat.le_refl _) hb); clear hb))
    all_goals first
      | (go_ret; refine ⟨?_, B.out⟩; simp_all; done)
      | (exfalso; simp_all; done)
      | trace_state
end Go.Proofs.YthlocmhfjandlaaGreatDoor
