/-
  THE WALK of the law ReadForms.
-/
import Derived.Test.YthlocmhfjandlaaDoorRfa
import Derived.Test.YthlocmhfjandlaaDoorZu
import Derived.Test.YthlocmhfjandlaaDoorRfb
set_option linter.unusedVariables false
set_option linter.unusedSimpArgs false
namespace Go.Proofs.YthlocmhfjandlaaDoor
open Go.RowKit Nt Fm Fl

set_option maxRecDepth 100000 in
set_option maxHeartbeats 4000000 in
theorem rf_asks (S : ByteArray) (mode : Int) (neg : Bool) (D : ByteArray) (k er : Int) (w : World) (hT : Tab w) (zS : S.size ≤ 140737488355328) (zD : D.size ≤ 1000)
    (hb : Hid (True ∧ (er ≠ 0 ∨ neg = true ∨ 900 < S.size ∨ 900 < D.size ∨ k < -9000 ∨ 9000 < k)))
    (PA : Hid (∀ w' : World, Calls Tryd.prog 32 #[.string S] w' fun e w2 => e = .returned (.tuple #[.bool neg, .string D, .int .i64 k, .int .i64 er]) ∧ Below w'.heap.size w' w2)) :
    Calls Tryd.prog 10 #[.string S, .int .i64 mode] w fun e w' => e = .returned (.bool true) ∧ Below w.heap.size w w' := by
  have HT := Lib.hid hT
  have B : Hid (Below w.heap.size w w) := Lib.hid (Below.refl w.heap.size w)
  have LV := Lib.hid (fun w' h => readLives_any w' h)
  clear hT
  have HB := hb
  clear hb
  go_enter Tryd.func10, Tryd.ntmps10
  go_wp2_with (first
      | (go_at_call 32; (refine (PA.out _).mono ?_); rintro r w1 ⟨rfl, hb⟩; replace HT := Lib.hid (HT.out.below hb); replace B := Lib.hid (bl_thru B.out (Nat.le_refl _) hb); clear hb)
      | (go_at_call 33; (refine (LV.out _ HT.out).mono ?_); rintro r w1 ⟨rfl, hb⟩; replace HT := Lib.hid (HT.out.below hb); replace B := Lib.hid (bl_thru B.out (Nat.le_refl _) hb); clear hb))
  all_goals first
    | (go_ret; exact ⟨rfl, B.out⟩; done)
    | (exfalso; obtain ⟨-, h3⟩ := HB.out; rcases h3 with h3 | h3 | h3 | h3 | h3 | h3 <;> first | omega | (simp_all; done))
    | trace_state
set_option maxRecDepth 100000 in
set_option maxHeartbeats 4000000 in
theorem rf_none_up (S SN SD : ByteArray) (k z : Int) (a : Bool) (w : World) (hT : Tab w) (zS : S.size ≤ 900) (k0 : -9000 ≤ k) (k1 : k ≤ 9000)
    (hSN : (⟨#[48, 48]⟩ : ByteArray) ++ S = SN) (hSD : (⟨#[45]⟩ : ByteArray) ++ S = SD)
    (PA : Hid (∀ w' : World, Calls Tryd.prog 32 #[.string S] w' fun e w2 => e = .returned (.tuple #[.bool false, .string ⟨#[]⟩, .int .i64 k, .int .i64 0]) ∧ Below w'.heap.size w' w2))
    (N1 : Hid (∀ w' : World, Tab w' → Calls Tryd.prog 34 #[.string S, .int .i64 1] w' fun e w2 => e = .returned (.tuple #[.int .u64 0, .bool a, .int .i64 0]) ∧ Below w'.heap.size w' w2))
    (N2 : Hid (∀ w' : World, Tab w' → Calls Tryd.prog 34 #[.string SN, .int .i64 1] w' fun e w2 => e = .returned (.tuple #[.int .u64 0, .bool a, .int .i64 0]) ∧ Below w'.heap.size w' w2))
    (N3 : Hid (∀ w' : World, Tab w' → Calls Tryd.prog 34 #[.string SD, .int .i64 2] w' fun e w2 => e = .returned (.tuple #[.int .u64 z, .bool a, .int .i64 0]) ∧ Below w'.heap.size w' w2))
    (NG : Hid (∀ w' : World, Calls Tryd.prog 27 #[.int .u64 0] w' fun e w2 => e = .returned (.int .u64 z) ∧ w' = w2)) :
    Calls Tryd.prog 10 #[.string S, .int .i64 1] w fun e w' => e = .returned (.bool true) ∧ Below w.heap.size w w' := by
  have HT := Lib.hid hT
  have B : Hid (Below w.heap.size w w) := Lib.hid (Below.refl w.heap.size w)
  have LV := Lib.hid (fun w' h => readLives_any w' h)
  clear hT
  go_enter Tryd.func10, Tryd.ntmps10
  go_wp2_with (first
      | (go_at_call 32; (refine (PA.out _).mono ?_); rintro r w1 ⟨rfl, hb⟩; replace HT := Lib.hid (HT.out.below hb); replace B := Lib.hid (bl_thru B.out (Nat.le_refl _) hb); clear hb)
      | (go_at_call 33; (refine (LV.out _ HT.out).mono ?_); rintro r w1 ⟨rfl, hb⟩; replace HT := Lib.hid (HT.out.below hb); replace B := Lib.hid (bl_thru B.out (Nat.le_refl _) hb); clear hb)
      | (go_at_call 34; ((with_reducible refine (N1.out _ HT.out).mono ?_); rintro r w1 ⟨rfl, hb⟩; replace HT := Lib.hid (HT.out.below hb); replace B := Lib.hid (bl_thru B.out (Nat.le_refl _) hb); clear hb))
      | (go_at_call 34; ((with_reducible refine (N2.out _ HT.out).mono ?_); rintro r w1 ⟨rfl, hb⟩; replace HT := Lib.hid (HT.out.below hb); replace B := Lib.hid (bl_thru B.out (Nat.le_refl _) hb); clear hb))
      | (go_at_call 34; ((with_reducible refine (N3.out _ HT.out).mono ?_); rintro r w1 ⟨rfl, hb⟩; replace HT := Lib.hid (HT.out.below hb); replace B := Lib.hid (bl_thru B.out (Nat.le_refl _) hb); clear hb))
      | (go_at_call 27; ((refine (NG.out _).mono ?_); rintro r w1 ⟨rfl, rfl⟩))
      | (go_at_call 16; ((with_reducible refine (ok_bl2 _ _ _ _ (by simp)).mono ?_); rintro r w1 ⟨rfl, hb⟩; replace HT := Lib.hid (HT.out.below hb); replace B := Lib.hid (bl_thru B.out (Nat.le_refl _) hb); clear hb)))
  all_goals first
    | (go_ret; exact ⟨rfl, B.out⟩; done)
    | (exfalso; omega)
    | (exfalso; simp_all [ok2]; done)
    | trace_state
set_option maxRecDepth 100000 in
set_option maxHeartbeats 4000000 in
theorem rf_p_up (S SN SD T1 T2 TEN : ByteArray) (D : ByteArray) (m : Nat) (hm : m ≤ 9001) (x z : Int) (a : Bool) (w : World) (hT : Tab w) (zS : S.size ≤ 900) (zD : D.size ≤ 900) (zD1 : D.toList.isEmpty = false) (k0 : -9000 ≤ (m : Int) + 1) (k1 : (m : Int) + 1 ≤ 9000)
    (hSN : (⟨#[48, 48]⟩ : ByteArray) ++ S = SN) (hSD : (⟨#[45]⟩ : ByteArray) ++ S = SD)
    (hT1 : D ++ ⟨#[48, 101]⟩ = T1) (hT2 : T1 ++ ⟨#[43]⟩ = T2) (hTEN : T2 ++ ⟨(e4 m).toArray⟩ = TEN) (zT1 : T1.size ≤ 902) (zT2 : T2.size ≤ 903)
    (PA : Hid (∀ w' : World, Calls Tryd.prog 32 #[.string S] w' fun e w2 => e = .returned (.tuple #[.bool false, .string D, .int .i64 ((m : Int) + 1), .int .i64 0]) ∧ Below w'.heap.size w' w2))
    (N1 : Hid (∀ w' : World, Tab w' → Calls Tryd.prog 34 #[.string S, .int .i64 1] w' fun e w2 => e = .returned (.tuple #[.int .u64 x, .bool a, .int .i64 0]) ∧ Below w'.heap.size w' w2))
    (N2 : Hid (∀ w' : World, Tab w' → Calls Tryd.prog 34 #[.string SN, .int .i64 1] w' fun e w2 => e = .returned (.tuple #[.int .u64 x, .bool a, .int .i64 0]) ∧ Below w'.heap.size w' w2))
    (N3 : Hid (∀ w' : World, Tab w' → Calls Tryd.prog 34 #[.string SD, .int .i64 2] w' fun e w2 => e = .returned (.tuple #[.int .u64 z, .bool a, .int .i64 0]) ∧ Below w'.heap.size w' w2))
    (N4 : Hid (∀ w' : World, Tab w' → Calls Tryd.prog 34 #[.string TEN, .int .i64 1] w' fun e w2 => e = .returned (.tuple #[.int .u64 x, .bool a, .int .i64 0]) ∧ Below w'.heap.size w' w2))
    (NG : Hid (∀ w' : World, Calls Tryd.prog 27 #[.int .u64 x] w' fun e w2 => e = .returned (.int .u64 z) ∧ w' = w2)) :
    Calls Tryd.prog 10 #[.string S, .int .i64 1] w fun e w' => e = .returned (.bool true) ∧ Below w.heap.size w w' := by
  have HT := Lib.hid hT
  have B : Hid (Below w.heap.size w w) := Lib.hid (Below.refl w.heap.size w)
  have LV := Lib.hid (fun w' h => readLives_any w' h)
  clear hT
  obtain ⟨E0, hE0⟩ : ∃ T : ByteArray, T = ⟨(e4 m).toArray⟩ := ⟨_, rfl⟩
  have cv := fun w' => rf_conv m hm w' E0 hE0
  have zE0 : E0.size = 4 := by rw [hE0]; rfl
  rw [← hE0] at hTEN
  clear hE0
  go_enter Tryd.func10, Tryd.ntmps10
  go_wp2_with (first
      | (go_at_call 32; (refine (PA.out _).mono ?_); rintro r w1 ⟨rfl, hb⟩; replace HT := Lib.hid (HT.out.below hb); replace B := Lib.hid (bl_thru B.out (Nat.le_refl _) hb); clear hb)
      | (go_at_call 33; (refine (LV.out _ HT.out).mono ?_); rintro r w1 ⟨rfl, hb⟩; replace HT := Lib.hid (HT.out.below hb); replace B := Lib.hid (bl_thru B.out (Nat.le_refl _) hb); clear hb)
      | (go_at_call 34; ((with_reducible refine (N1.out _ HT.out).mono ?_); rintro r w1 ⟨rfl, hb⟩; replace HT := Lib.hid (HT.out.below hb); replace B := Lib.hid (bl_thru B.out (Nat.le_refl _) hb); clear hb))
      | (go_at_call 34; ((with_reducible refine (N2.out _ HT.out).mono ?_); rintro r w1 ⟨rfl, hb⟩; replace HT := Lib.hid (HT.out.below hb); replace B := Lib.hid (bl_thru B.out (Nat.le_refl _) hb); clear hb))
      | (go_at_call 34; ((with_reducible refine (N3.out _ HT.out).mono ?_); rintro r w1 ⟨rfl, hb⟩; replace HT := Lib.hid (HT.out.below hb); replace B := Lib.hid (bl_thru B.out (Nat.le_refl _) hb); clear hb))
      | (go_at_call 27; ((refine (NG.out _).mono ?_); rintro r w1 ⟨rfl, rfl⟩))
      | (go_at_call 16; ((with_reducible refine (ok_bl2 _ _ _ _ (by simp)).mono ?_); rintro r w1 ⟨rfl, hb⟩; replace HT := Lib.hid (HT.out.below hb); replace B := Lib.hid (bl_thru B.out (Nat.le_refl _) hb); clear hb)))
  all_goals first
    | (go_ret; exact ⟨rfl, B.out⟩; done)
    | (go_ret; refine ⟨?_, B.out⟩; simp_all [ok2]; done)
    | (exfalso; omega)
    | (exfalso; simp_all [ok2]; done)
    | skip
  all_goals
    refine (N4.out _ (HT.out.alloc _)).mono ?_
    rintro r w2 ⟨rfl, hb⟩
    have B2 := Lib.hid (bl_thru (B.out.alloc B.out.size _) (Nat.le_refl _) hb)
    clear hb
    go_wp2
    all_goals first
      | (go_ret; exact ⟨rfl, B2.out⟩; done)
      | (go_ret; refine ⟨?_, B2.out⟩; simp_all; done)
      | (exfalso; simp_all; done)
      | trace_state
set_option maxRecDepth 100000 in
set_option maxHeartbeats 4000000 in
theorem rf_n_up (S SN SD T1 T2 TEN : ByteArray) (D : ByteArray) (m : Nat) (hm : m ≤ 9001) (m1 : 1 ≤ m) (x z : Int) (a : Bool) (w : World) (hT : Tab w) (zS : S.size ≤ 900) (zD : D.size ≤ 900) (zD1 : D.toList.isEmpty = false) (k0 : -9000 ≤ -(m : Int) + 1) (k1 : -(m : Int) + 1 ≤ 9000)
    (hSN : (⟨#[48, 48]⟩ : ByteArray) ++ S = SN) (hSD : (⟨#[45]⟩ : ByteArray) ++ S = SD)
    (hT1 : D ++ ⟨#[48, 101]⟩ = T1) (hT2 : T1 ++ ⟨#[45]⟩ = T2) (hTEN : T2 ++ ⟨(e4 m).toArray⟩ = TEN) (zT1 : T1.size ≤ 902) (zT2 : T2.size ≤ 903)
    (PA : Hid (∀ w' : World, Calls Tryd.prog 32 #[.string S] w' fun e w2 => e = .returned (.tuple #[.bool false, .string D, .int .i64 (-(m : Int) + 1), .int .i64 0]) ∧ Below w'.heap.size w' w2))
    (N1 : Hid (∀ w' : World, Tab w' → Calls Tryd.prog 34 #[.string S, .int .i64 1] w' fun e w2 => e = .returned (.tuple #[.int .u64 x, .bool a, .int .i64 0]) ∧ Below w'.heap.size w' w2))
    (N2 : Hid (∀ w' : World, Tab w' → Calls Tryd.prog 34 #[.string SN, .int .i64 1] w' fun e w2 => e = .returned (.tuple #[.int .u64 x, .bool a, .int .i64 0]) ∧ Below w'.heap.size w' w2))
    (N3 : Hid (∀ w' : World, Tab w' → Calls Tryd.prog 34 #[.string SD, .int .i64 2] w' fun e w2 => e = .returned (.tuple #[.int .u64 z, .bool a, .int .i64 0]) ∧ Below w'.heap.size w' w2))
    (N4 : Hid (∀ w' : World, Tab w' → Calls Tryd.prog 34 #[.string TEN, .int .i64 1] w' fun e w2 => e = .returned (.tuple #[.int .u64 x, .bool a, .int .i64 0]) ∧ Below w'.heap.size w' w2))
    (NG : Hid (∀ w' : World, Calls Tryd.prog 27 #[.int .u64 x] w' fun e w2 => e = .returned (.int .u64 z) ∧ w' = w2)) :
    Calls Tryd.prog 10 #[.string S, .int .i64 1] w fun e w' => e = .returned (.bool true) ∧ Below w.heap.size w w' := by
  have HT := Lib.hid hT
  have B : Hid (Below w.heap.size w w) := Lib.hid (Below.refl w.heap.size w)
  have LV := Lib.hid (fun w' h => readLives_any w' h)
  clear hT
  obtain ⟨E0, hE0⟩ : ∃ T : ByteArray, T = ⟨(e4 m).toArray⟩ := ⟨_, rfl⟩
  have cv := fun w' => rf_conv m hm w' E0 hE0
  have zE0 : E0.size = 4 := by rw [hE0]; rfl
  rw [← hE0] at hTEN
  clear hE0
  go_enter Tryd.func10, Tryd.ntmps10
  go_wp2_with (first
      | (go_at_call 32; (refine (PA.out _).mono ?_); rintro r w1 ⟨rfl, hb⟩; replace HT := Lib.hid (HT.out.below hb); replace B := Lib.hid (bl_thru B.out (Nat.le_refl _) hb); clear hb)
      | (go_at_call 33; (refine (LV.out _ HT.out).mono ?_); rintro r w1 ⟨rfl, hb⟩; replace HT := Lib.hid (HT.out.below hb); replace B := Lib.hid (bl_thru B.out (Nat.le_refl _) hb); clear hb)
      | (go_at_call 34; ((with_reducible refine (N1.out _ HT.out).mono ?_); rintro r w1 ⟨rfl, hb⟩; replace HT := Lib.hid (HT.out.below hb); replace B := Lib.hid (bl_thru B.out (Nat.le_refl _) hb); clear hb))
      | (go_at_call 34; ((with_reducible refine (N2.out _ HT.out).mono ?_); rintro r w1 ⟨rfl, hb⟩; replace HT := Lib.hid (HT.out.below hb); replace B := Lib.hid (bl_thru B.out (Nat.le_refl _) hb); clear hb))
      | (go_at_call 34; ((with_reducible refine (N3.out _ HT.out).mono ?_); rintro r w1 ⟨rfl, hb⟩; replace HT := Lib.hid (HT.out.below hb); replace B := Lib.hid (bl_thru B.out (Nat.le_refl _) hb); clear hb))
      | (go_at_call 27; ((refine (NG.out _).mono ?_); rintro r w1 ⟨rfl, rfl⟩))
      | (go_at_call 16; ((with_reducible refine (ok_bl2 _ _ _ _ (by simp)).mono ?_); rintro r w1 ⟨rfl, hb⟩; replace HT := Lib.hid (HT.out.below hb); replace B := Lib.hid (bl_thru B.out (Nat.le_refl _) hb); clear hb)))
  all_goals first
    | (go_ret; exact ⟨rfl, B.out⟩; done)
    | (go_ret; refine ⟨?_, B.out⟩; simp_all [ok2]; done)
    | (exfalso; omega)
    | (exfalso; simp_all [ok2]; done)
    | skip
  all_goals
    refine (N4.out _ (HT.out.alloc _)).mono ?_
    rintro r w2 ⟨rfl, hb⟩
    have B2 := Lib.hid (bl_thru (B.out.alloc B.out.size _) (Nat.le_refl _) hb)
    clear hb
    go_wp2
    all_goals first
      | (go_ret; exact ⟨rfl, B2.out⟩; done)
      | (go_ret; refine ⟨?_, B2.out⟩; simp_all; done)
      | (exfalso; simp_all; done)
      | trace_state
set_option maxRecDepth 100000 in
set_option maxHeartbeats 4000000 in
theorem rf_none_down (S SN SD : ByteArray) (k z : Int) (a : Bool) (w : World) (hT : Tab w) (zS : S.size ≤ 900) (k0 : -9000 ≤ k) (k1 : k ≤ 9000)
    (hSN : (⟨#[48, 48]⟩ : ByteArray) ++ S = SN) (hSD : (⟨#[45]⟩ : ByteArray) ++ S = SD)
    (PA : Hid (∀ w' : World, Calls Tryd.prog 32 #[.string S] w' fun e w2 => e = .returned (.tuple #[.bool false, .string ⟨#[]⟩, .int .i64 k, .int .i64 0]) ∧ Below w'.heap.size w' w2))
    (N1 : Hid (∀ w' : World, Tab w' → Calls Tryd.prog 34 #[.string S, .int .i64 2] w' fun e w2 => e = .returned (.tuple #[.int .u64 0, .bool a, .int .i64 0]) ∧ Below w'.heap.size w' w2))
    (N2 : Hid (∀ w' : World, Tab w' → Calls Tryd.prog 34 #[.string SN, .int .i64 2] w' fun e w2 => e = .returned (.tuple #[.int .u64 0, .bool a, .int .i64 0]) ∧ Below w'.heap.size w' w2))
    (N3 : Hid (∀ w' : World, Tab w' → Calls Tryd.prog 34 #[.string SD, .int .i64 1] w' fun e w2 => e = .returned (.tuple #[.int .u64 z, .bool a, .int .i64 0]) ∧ Below w'.heap.size w' w2))
    (NG : Hid (∀ w' : World, Calls Tryd.prog 27 #[.int .u64 0] w' fun e w2 => e = .returned (.int .u64 z) ∧ w' = w2)) :
    Calls Tryd.prog 10 #[.string S, .int .i64 2] w fun e w' => e = .returned (.bool true) ∧ Below w.heap.size w w' := by
  have HT := Lib.hid hT
  have B : Hid (Below w.heap.size w w) := Lib.hid (Below.refl w.heap.size w)
  have LV := Lib.hid (fun w' h => readLives_any w' h)
  clear hT
  go_enter Tryd.func10, Tryd.ntmps10
  go_wp2_with (first
      | (go_at_call 32; (refine (PA.out _).mono ?_); rintro r w1 ⟨rfl, hb⟩; replace HT := Lib.hid (HT.out.below hb); replace B := Lib.hid (bl_thru B.out (Nat.le_refl _) hb); clear hb)
      | (go_at_call 33; (refine (LV.out _ HT.out).mono ?_); rintro r w1 ⟨rfl, hb⟩; replace HT := Lib.hid (HT.out.below hb); replace B := Lib.hid (bl_thru B.out (Nat.le_refl _) hb); clear hb)
      | (go_at_call 34; ((with_reducible refine (N1.out _ HT.out).mono ?_); rintro r w1 ⟨rfl, hb⟩; replace HT := Lib.hid (HT.out.below hb); replace B := Lib.hid (bl_thru B.out (Nat.le_refl _) hb); clear hb))
      | (go_at_call 34; ((with_reducible refine (N2.out _ HT.out).mono ?_); rintro r w1 ⟨rfl, hb⟩; replace HT := Lib.hid (HT.out.below hb); replace B := Lib.hid (bl_thru B.out (Nat.le_refl _) hb); clear hb))
      | (go_at_call 34; ((with_reducible refine (N3.out _ HT.out).mono ?_); rintro r w1 ⟨rfl, hb⟩; replace HT := Lib.hid (HT.out.below hb); replace B := Lib.hid (bl_thru B.out (Nat.le_refl _) hb); clear hb))
      | (go_at_call 27; ((refine (NG.out _).mono ?_); rintro r w1 ⟨rfl, rfl⟩))
      | (go_at_call 16; ((with_reducible refine (ok_bl2 _ _ _ _ (by simp)).mono ?_); rintro r w1 ⟨rfl, hb⟩; replace HT := Lib.hid (HT.out.below hb); replace B := Lib.hid (bl_thru B.out (Nat.le_refl _) hb); clear hb)))
  all_goals first
    | (go_ret; exact ⟨rfl, B.out⟩; done)
    | (exfalso; omega)
    | (exfalso; simp_all [ok2]; done)
    | trace_state
set_option maxRecDepth 100000 in
set_option maxHeartbeats 4000000 in
theorem rf_p_down (S SN SD T1 T2 TEN : ByteArray) (D : ByteArray) (m : Nat) (hm : m ≤ 9001) (x z : Int) (a : Bool) (w : World) (hT : Tab w) (zS : S.size ≤ 900) (zD : D.size ≤ 900) (zD1 : D.toList.isEmpty = false) (k0 : -9000 ≤ (m : Int) + 1) (k1 : (m : Int) + 1 ≤ 9000)
    (hSN : (⟨#[48, 48]⟩ : ByteArray) ++ S = SN) (hSD : (⟨#[45]⟩ : ByteArray) ++ S = SD)
    (hT1 : D ++ ⟨#[48, 101]⟩ = T1) (hT2 : T1 ++ ⟨#[43]⟩ = T2) (hTEN : T2 ++ ⟨(e4 m).toArray⟩ = TEN) (zT1 : T1.size ≤ 902) (zT2 : T2.size ≤ 903)
    (PA : Hid (∀ w' : World, Calls Tryd.prog 32 #[.string S] w' fun e w2 => e = .returned (.tuple #[.bool false, .string D, .int .i64 ((m : Int) + 1), .int .i64 0]) ∧ Below w'.heap.size w' w2))
    (N1 : Hid (∀ w' : World, Tab w' → Calls Tryd.prog 34 #[.string S, .int .i64 2] w' fun e w2 => e = .returned (.tuple #[.int .u64 x, .bool a, .int .i64 0]) ∧ Below w'.heap.size w' w2))
    (N2 : Hid (∀ w' : World, Tab w' → Calls Tryd.prog 34 #[.string SN, .int .i64 2] w' fun e w2 => e = .returned (.tuple #[.int .u64 x, .bool a, .int .i64 0]) ∧ Below w'.heap.size w' w2))
    (N3 : Hid (∀ w' : World, Tab w' → Calls Tryd.prog 34 #[.string SD, .int .i64 1] w' fun e w2 => e = .returned (.tuple #[.int .u64 z, .bool a, .int .i64 0]) ∧ Below w'.heap.size w' w2))
    (N4 : Hid (∀ w' : World, Tab w' → Calls Tryd.prog 34 #[.string TEN, .int .i64 2] w' fun e w2 => e = .returned (.tuple #[.int .u64 x, .bool a, .int .i64 0]) ∧ Below w'.heap.size w' w2))
    (NG : Hid (∀ w' : World, Calls Tryd.prog 27 #[.int .u64 x] w' fun e w2 => e = .returned (.int .u64 z) ∧ w' = w2)) :
    Calls Tryd.prog 10 #[.string S, .int .i64 2] w fun e w' => e = .returned (.bool true) ∧ Below w.heap.size w w' := by
  have HT := Lib.hid hT
  have B : Hid (Below w.heap.size w w) := Lib.hid (Below.refl w.heap.size w)
  have LV := Lib.hid (fun w' h => readLives_any w' h)
  clear hT
  obtain ⟨E0, hE0⟩ : ∃ T : ByteArray, T = ⟨(e4 m).toArray⟩ := ⟨_, rfl⟩
  have cv := fun w' => rf_conv m hm w' E0 hE0
  have zE0 : E0.size = 4 := by rw [hE0]; rfl
  rw [← hE0] at hTEN
  clear hE0
  go_enter Tryd.func10, Tryd.ntmps10
  go_wp2_with (first
      | (go_at_call 32; (refine (PA.out _).mono ?_); rintro r w1 ⟨rfl, hb⟩; replace HT := Lib.hid (HT.out.below hb); replace B := Lib.hid (bl_thru B.out (Nat.le_refl _) hb); clear hb)
      | (go_at_call 33; (refine (LV.out _ HT.out).mono ?_); rintro r w1 ⟨rfl, hb⟩; replace HT := Lib.hid (HT.out.below hb); replace B := Lib.hid (bl_thru B.out (Nat.le_refl _) hb); clear hb)
      | (go_at_call 34; ((with_reducible refine (N1.out _ HT.out).mono ?_); rintro r w1 ⟨rfl, hb⟩; replace HT := Lib.hid (HT.out.below hb); replace B := Lib.hid (bl_thru B.out (Nat.le_refl _) hb); clear hb))
      | (go_at_call 34; ((with_reducible refine (N2.out _ HT.out).mono ?_); rintro r w1 ⟨rfl, hb⟩; replace HT := Lib.hid (HT.out.below hb); replace B := Lib.hid (bl_thru B.out (Nat.le_refl _) hb); clear hb))
      | (go_at_call 34; ((with_reducible refine (N3.out _ HT.out).mono ?_); rintro r w1 ⟨rfl, hb⟩; replace HT := Lib.hid (HT.out.below hb); replace B := Lib.hid (bl_thru B.out (Nat.le_refl _) hb); clear hb))
      | (go_at_call 27; ((refine (NG.out _).mono ?_); rintro r w1 ⟨rfl, rfl⟩))
      | (go_at_call 16; ((with_reducible refine (ok_bl2 _ _ _ _ (by simp)).mono ?_); rintro r w1 ⟨rfl, hb⟩; replace HT := Lib.hid (HT.out.below hb); replace B := Lib.hid (bl_thru B.out (Nat.le_refl _) hb); clear hb)))
  all_goals first
    | (go_ret; exact ⟨rfl, B.out⟩; done)
    | (go_ret; refine ⟨?_, B.out⟩; simp_all [ok2]; done)
    | (exfalso; omega)
    | (exfalso; simp_all [ok2]; done)
    | skip
  all_goals
    refine (N4.out _ (HT.out.alloc _)).mono ?_
    rintro r w2 ⟨rfl, hb⟩
    have B2 := Lib.hid (bl_thru (B.out.alloc B.out.size _) (Nat.le_refl _) hb)
    clear hb
    go_wp2
    all_goals first
      | (go_ret; exact ⟨rfl, B2.out⟩; done)
      | (go_ret; refine ⟨?_, B2.out⟩; simp_all; done)
      | (exfalso; simp_all; done)
      | trace_state
set_option maxRecDepth 100000 in
set_option maxHeartbeats 4000000 in
theorem rf_n_down (S SN SD T1 T2 TEN : ByteArray) (D : ByteArray) (m : Nat) (hm : m ≤ 9001) (m1 : 1 ≤ m) (x z : Int) (a : Bool) (w : World) (hT : Tab w) (zS : S.size ≤ 900) (zD : D.size ≤ 900) (zD1 : D.toList.isEmpty = false) (k0 : -9000 ≤ -(m : Int) + 1) (k1 : -(m : Int) + 1 ≤ 9000)
    (hSN : (⟨#[48, 48]⟩ : ByteArray) ++ S = SN) (hSD : (⟨#[45]⟩ : ByteArray) ++ S = SD)
    (hT1 : D ++ ⟨#[48, 101]⟩ = T1) (hT2 : T1 ++ ⟨#[45]⟩ = T2) (hTEN : T2 ++ ⟨(e4 m).toArray⟩ = TEN) (zT1 : T1.size ≤ 902) (zT2 : T2.size ≤ 903)
    (PA : Hid (∀ w' : World, Calls Tryd.prog 32 #[.string S] w' fun e w2 => e = .returned (.tuple #[.bool false, .string D, .int .i64 (-(m : Int) + 1), .int .i64 0]) ∧ Below w'.heap.size w' w2))
    (N1 : Hid (∀ w' : World, Tab w' → Calls Tryd.prog 34 #[.string S, .int .i64 2] w' fun e w2 => e = .returned (.tuple #[.int .u64 x, .bool a, .int .i64 0]) ∧ Below w'.heap.size w' w2))
    (N2 : Hid (∀ w' : World, Tab w' → Calls Tryd.prog 34 #[.string SN, .int .i64 2] w' fun e w2 => e = .returned (.tuple #[.int .u64 x, .bool a, .int .i64 0]) ∧ Below w'.heap.size w' w2))
    (N3 : Hid (∀ w' : World, Tab w' → Calls Tryd.prog 34 #[.string SD, .int .i64 1] w' fun e w2 => e = .returned (.tuple #[.int .u64 z, .bool a, .int .i64 0]) ∧ Below w'.heap.size w' w2))
    (N4 : Hid (∀ w' : World, Tab w' → Calls Tryd.prog 34 #[.string TEN, .int .i64 2] w' fun e w2 => e = .returned (.tuple #[.int .u64 x, .bool a, .int .i64 0]) ∧ Below w'.heap.size w' w2))
    (NG : Hid (∀ w' : World, Calls Tryd.prog 27 #[.int .u64 x] w' fun e w2 => e = .returned (.int .u64 z) ∧ w' = w2)) :
    Calls Tryd.prog 10 #[.string S, .int .i64 2] w fun e w' => e = .returned (.bool true) ∧ Below w.heap.size w w' := by
  have HT := Lib.hid hT
  have B : Hid (Below w.heap.size w w) := Lib.hid (Below.refl w.heap.size w)
  have LV := Lib.hid (fun w' h => readLives_any w' h)
  clear hT
  obtain ⟨E0, hE0⟩ : ∃ T : ByteArray, T = ⟨(e4 m).toArray⟩ := ⟨_, rfl⟩
  have cv := fun w' => rf_conv m hm w' E0 hE0
  have zE0 : E0.size = 4 := by rw [hE0]; rfl
  rw [← hE0] at hTEN
  clear hE0
  go_enter Tryd.func10, Tryd.ntmps10
  go_wp2_with (first
      | (go_at_call 32; (refine (PA.out _).mono ?_); rintro r w1 ⟨rfl, hb⟩; replace HT := Lib.hid (HT.out.below hb); replace B := Lib.hid (bl_thru B.out (Nat.le_refl _) hb); clear hb)
      | (go_at_call 33; (refine (LV.out _ HT.out).mono ?_); rintro r w1 ⟨rfl, hb⟩; replace HT := Lib.hid (HT.out.below hb); replace B := Lib.hid (bl_thru B.out (Nat.le_refl _) hb); clear hb)
      | (go_at_call 34; ((with_reducible refine (N1.out _ HT.out).mono ?_); rintro r w1 ⟨rfl, hb⟩; replace HT := Lib.hid (HT.out.below hb); replace B := Lib.hid (bl_thru B.out (Nat.le_refl _) hb); clear hb))
      | (go_at_call 34; ((with_reducible refine (N2.out _ HT.out).mono ?_); rintro r w1 ⟨rfl, hb⟩; replace HT := Lib.hid (HT.out.below hb); replace B := Lib.hid (bl_thru B.out (Nat.le_refl _) hb); clear hb))
      | (go_at_call 34; ((with_reducible refine (N3.out _ HT.out).mono ?_); rintro r w1 ⟨rfl, hb⟩; replace HT := Lib.hid (HT.out.below hb); replace B := Lib.hid (bl_thru B.out (Nat.le_refl _) hb); clear hb))
      | (go_at_call 27; ((refine (NG.out _).mono ?_); rintro r w1 ⟨rfl, rfl⟩))
      | (go_at_call 16; ((with_reducible refine (ok_bl2 _ _ _ _ (by simp)).mono ?_); rintro r w1 ⟨rfl, hb⟩; replace HT := Lib.hid (HT.out.below hb); replace B := Lib.hid (bl_thru B.out (Nat.le_refl _) hb); clear hb)))
  all_goals first
    | (go_ret; exact ⟨rfl, B.out⟩; done)
    | (go_ret; refine ⟨?_, B.out⟩; simp_all [ok2]; done)
    | (exfalso; omega)
    | (exfalso; simp_all [ok2]; done)
    | skip
  all_goals
    refine (N4.out _ (HT.out.alloc _)).mono ?_
    rintro r w2 ⟨rfl, hb⟩
    have B2 := Lib.hid (bl_thru (B.out.alloc B.out.size _) (Nat.le_refl _) hb)
    clear hb
    go_wp2
    all_goals first
      | (go_ret; exact ⟨rfl, B2.out⟩; done)
      | (go_ret; refine ⟨?_, B2.out⟩; simp_all; done)
      | (exfalso; simp_all; done)
      | trace_state
set_option maxRecDepth 100000 in
set_option maxHeartbeats 4000000 in
theorem rf_unknown (S SN SD : ByteArray) (mode : Int) (hm1 : (mode == 1) = false) (hm2 : (mode == 2) = false) (D : ByteArray) (k x y z : Int) (a b c : Bool) (w : World) (hT : Tab w) (zS : S.size ≤ 900) (zD : D.size ≤ 900) (k0 : -9000 ≤ k) (k1 : k ≤ 9000)
    (hSN : (⟨#[48, 48]⟩ : ByteArray) ++ S = SN) (hSD : (⟨#[45]⟩ : ByteArray) ++ S = SD)
    (PA : Hid (∀ w' : World, Calls Tryd.prog 32 #[.string S] w' fun e w2 => e = .returned (.tuple #[.bool false, .string D, .int .i64 k, .int .i64 0]) ∧ Below w'.heap.size w' w2))
    (N1 : Hid (∀ w' : World, Tab w' → Calls Tryd.prog 34 #[.string S, .int .i64 mode] w' fun e w2 => e = .returned (.tuple #[.int .u64 x, .bool a, .int .i64 1]) ∧ Below w'.heap.size w' w2))
    (N2 : Hid (∀ w' : World, Tab w' → Calls Tryd.prog 34 #[.string SN, .int .i64 mode] w' fun e w2 => e = .returned (.tuple #[.int .u64 y, .bool b, .int .i64 1]) ∧ Below w'.heap.size w' w2))
    (N3 : Hid (∀ w' : World, Tab w' → Calls Tryd.prog 34 #[.string SD, .int .i64 mode] w' fun e w2 => e = .returned (.tuple #[.int .u64 z, .bool c, .int .i64 1]) ∧ Below w'.heap.size w' w2)) :
    Calls Tryd.prog 10 #[.string S, .int .i64 mode] w fun e w' => e = .returned (.bool true) ∧ Below w.heap.size w w' := by
  have HT := Lib.hid hT
  have B : Hid (Below w.heap.size w w) := Lib.hid (Below.refl w.heap.size w)
  have LV := Lib.hid (fun w' h => readLives_any w' h)
  clear hT
  go_enter Tryd.func10, Tryd.ntmps10
  go_wp2_with (first
      | (go_at_call 32; (refine (PA.out _).mono ?_); rintro r w1 ⟨rfl, hb⟩; replace HT := Lib.hid (HT.out.below hb); replace B := Lib.hid (bl_thru B.out (Nat.le_refl _) hb); clear hb)
      | (go_at_call 33; (refine (LV.out _ HT.out).mono ?_); rintro r w1 ⟨rfl, hb⟩; replace HT := Lib.hid (HT.out.below hb); replace B := Lib.hid (bl_thru B.out (Nat.le_refl _) hb); clear hb)
      | (go_at_call 34; ((with_reducible refine (N1.out _ HT.out).mono ?_); rintro r w1 ⟨rfl, hb⟩; replace HT := Lib.hid (HT.out.below hb); replace B := Lib.hid (bl_thru B.out (Nat.le_refl _) hb); clear hb))
      | (go_at_call 34; ((with_reducible refine (N2.out _ HT.out).mono ?_); rintro r w1 ⟨rfl, hb⟩; replace HT := Lib.hid (HT.out.below hb); replace B := Lib.hid (bl_thru B.out (Nat.le_refl _) hb); clear hb))
      | (go_at_call 34; ((with_reducible refine (N3.out _ HT.out).mono ?_); rintro r w1 ⟨rfl, hb⟩; replace HT := Lib.hid (HT.out.below hb); replace B := Lib.hid (bl_thru B.out (Nat.le_refl _) hb); clear hb)))
  all_goals first
    | (go_ret; exact ⟨rfl, B.out⟩; done)
    | (exfalso; omega)
    | (exfalso; simp_all; done)
    | trace_state
set_option maxRecDepth 100000 in
set_option maxHeartbeats 4000000 in
theorem rf_none_else (S SN SD : ByteArray) (mode : Int) (hm1 : (mode == 1) = false) (hm2 : (mode == 2) = false) (k z : Int) (a : Bool) (w : World) (hT : Tab w) (zS : S.size ≤ 900) (k0 : -9000 ≤ k) (k1 : k ≤ 9000)
    (hSN : (⟨#[48, 48]⟩ : ByteArray) ++ S = SN) (hSD : (⟨#[45]⟩ : ByteArray) ++ S = SD)
    (PA : Hid (∀ w' : World, Calls Tryd.prog 32 #[.string S] w' fun e w2 => e = .returned (.tuple #[.bool false, .string ⟨#[]⟩, .int .i64 k, .int .i64 0]) ∧ Below w'.heap.size w' w2))
    (N1 : Hid (∀ w' : World, Tab w' → Calls Tryd.prog 34 #[.string S, .int .i64 mode] w' fun e w2 => e = .returned (.tuple #[.int .u64 0, .bool a, .int .i64 0]) ∧ Below w'.heap.size w' w2))
    (N2 : Hid (∀ w' : World, Tab w' → Calls Tryd.prog 34 #[.string SN, .int .i64 mode] w' fun e w2 => e = .returned (.tuple #[.int .u64 0, .bool a, .int .i64 0]) ∧ Below w'.heap.size w' w2))
    (N3 : Hid (∀ w' : World, Tab w' → Calls Tryd.prog 34 #[.string SD, .int .i64 mode] w' fun e w2 => e = .returned (.tuple #[.int .u64 z, .bool a, .int .i64 0]) ∧ Below w'.heap.size w' w2))
    (NG : Hid (∀ w' : World, Calls Tryd.prog 27 #[.int .u64 0] w' fun e w2 => e = .returned (.int .u64 z) ∧ w' = w2)) :
    Calls Tryd.prog 10 #[.string S, .int .i64 mode] w fun e w' => e = .returned (.bool true) ∧ Below w.heap.size w w' := by
  have HT := Lib.hid hT
  have B : Hid (Below w.heap.size w w) := Lib.hid (Below.refl w.heap.size w)
  have LV := Lib.hid (fun w' h => readLives_any w' h)
  clear hT
  go_enter Tryd.func10, Tryd.ntmps10
  go_wp2_with (first
      | (go_at_call 32; (refine (PA.out _).mono ?_); rintro r w1 ⟨rfl, hb⟩; replace HT := Lib.hid (HT.out.below hb); replace B := Lib.hid (bl_thru B.out (Nat.le_refl _) hb); clear hb)
      | (go_at_call 33; (refine (LV.out _ HT.out).mono ?_); rintro r w1 ⟨rfl, hb⟩; replace HT := Lib.hid (HT.out.below hb); replace B := Lib.hid (bl_thru B.out (Nat.le_refl _) hb); clear hb)
      | (go_at_call 34; ((with_reducible refine (N1.out _ HT.out).mono ?_); rintro r w1 ⟨rfl, hb⟩; replace HT := Lib.hid (HT.out.below hb); replace B := Lib.hid (bl_thru B.out (Nat.le_refl _) hb); clear hb))
      | (go_at_call 34; ((with_reducible refine (N2.out _ HT.out).mono ?_); rintro r w1 ⟨rfl, hb⟩; replace HT := Lib.hid (HT.out.below hb); replace B := Lib.hid (bl_thru B.out (Nat.le_refl _) hb); clear hb))
      | (go_at_call 34; ((with_reducible refine (N3.out _ HT.out).mono ?_); rintro r w1 ⟨rfl, hb⟩; replace HT := Lib.hid (HT.out.below hb); replace B := Lib.hid (bl_thru B.out (Nat.le_refl _) hb); clear hb))
      | (go_at_call 27; ((refine (NG.out _).mono ?_); rintro r w1 ⟨rfl, rfl⟩))
      | (go_at_call 16; ((with_reducible refine (ok_bl2 _ _ _ _ (by simp)).mono ?_); rintro r w1 ⟨rfl, hb⟩; replace HT := Lib.hid (HT.out.below hb); replace B := Lib.hid (bl_thru B.out (Nat.le_refl _) hb); clear hb)))
  all_goals first
    | (go_ret; exact ⟨rfl, B.out⟩; done)
    | (exfalso; omega)
    | (exfalso; simp_all [ok2]; done)
    | trace_state
set_option maxRecDepth 100000 in
set_option maxHeartbeats 4000000 in
theorem rf_p_else (S SN SD T1 T2 TEN : ByteArray) (mode : Int) (hm1 : (mode == 1) = false) (hm2 : (mode == 2) = false) (D : ByteArray) (m : Nat) (hm : m ≤ 9001) (x z : Int) (a : Bool) (w : World) (hT : Tab w) (zS : S.size ≤ 900) (zD : D.size ≤ 900) (zD1 : D.toList.isEmpty = false) (k0 : -9000 ≤ (m : Int) + 1) (k1 : (m : Int) + 1 ≤ 9000)
    (hSN : (⟨#[48, 48]⟩ : ByteArray) ++ S = SN) (hSD : (⟨#[45]⟩ : ByteArray) ++ S = SD)
    (hT1 : D ++ ⟨#[48, 101]⟩ = T1) (hT2 : T1 ++ ⟨#[43]⟩ = T2) (hTEN : T2 ++ ⟨(e4 m).toArray⟩ = TEN) (zT1 : T1.size ≤ 902) (zT2 : T2.size ≤ 903)
    (PA : Hid (∀ w' : World, Calls Tryd.prog 32 #[.string S] w' fun e w2 => e = .returned (.tuple #[.bool false, .string D, .int .i64 ((m : Int) + 1), .int .i64 0]) ∧ Below w'.heap.size w' w2))
    (N1 : Hid (∀ w' : World, Tab w' → Calls Tryd.prog 34 #[.string S, .int .i64 mode] w' fun e w2 => e = .returned (.tuple #[.int .u64 x, .bool a, .int .i64 0]) ∧ Below w'.heap.size w' w2))
    (N2 : Hid (∀ w' : World, Tab w' → Calls Tryd.prog 34 #[.string SN, .int .i64 mode] w' fun e w2 => e = .returned (.tuple #[.int .u64 x, .bool a, .int .i64 0]) ∧ Below w'.heap.size w' w2))
    (N3 : Hid (∀ w' : World, Tab w' → Calls Tryd.prog 34 #[.string SD, .int .i64 mode] w' fun e w2 => e = .returned (.tuple #[.int .u64 z, .bool a, .int .i64 0]) ∧ Below w'.heap.size w' w2))
    (N4 : Hid (∀ w' : World, Tab w' → Calls Tryd.prog 34 #[.string TEN, .int .i64 mode] w' fun e w2 => e = .returned (.tuple #[.int .u64 x, .bool a, .int .i64 0]) ∧ Below w'.heap.size w' w2))
    (NG : Hid (∀ w' : World, Calls Tryd.prog 27 #[.int .u64 x] w' fun e w2 => e = .returned (.int .u64 z) ∧ w' = w2)) :
    Calls Tryd.prog 10 #[.string S, .int .i64 mode] w fun e w' => e = .returned (.bool true) ∧ Below w.heap.size w w' := by
  have HT := Lib.hid hT
  have B : Hid (Below w.heap.size w w) := Lib.hid (Below.refl w.heap.size w)
  have LV := Lib.hid (fun w' h => readLives_any w' h)
  clear hT
  obtain ⟨E0, hE0⟩ : ∃ T : ByteArray, T = ⟨(e4 m).toArray⟩ := ⟨_, rfl⟩
  have cv := fun w' => rf_conv m hm w' E0 hE0
  have zE0 : E0.size = 4 := by rw [hE0]; rfl
  rw [← hE0] at hTEN
  clear hE0
  go_enter Tryd.func10, Tryd.ntmps10
  go_wp2_with (first
      | (go_at_call 32; (refine (PA.out _).mono ?_); rintro r w1 ⟨rfl, hb⟩; replace HT := Lib.hid (HT.out.below hb); replace B := Lib.hid (bl_thru B.out (Nat.le_refl _) hb); clear hb)
      | (go_at_call 33; (refine (LV.out _ HT.out).mono ?_); rintro r w1 ⟨rfl, hb⟩; replace HT := Lib.hid (HT.out.below hb); replace B := Lib.hid (bl_thru B.out (Nat.le_refl _) hb); clear hb)
      | (go_at_call 34; ((with_reducible refine (N1.out _ HT.out).mono ?_); rintro r w1 ⟨rfl, hb⟩; replace HT := Lib.hid (HT.out.below hb); replace B := Lib.hid (bl_thru B.out (Nat.le_refl _) hb); clear hb))
      | (go_at_call 34; ((with_reducible refine (N2.out _ HT.out).mono ?_); rintro r w1 ⟨rfl, hb⟩; replace HT := Lib.hid (HT.out.below hb); replace B := Lib.hid (bl_thru B.out (Nat.le_refl _) hb); clear hb))
      | (go_at_call 34; ((with_reducible refine (N3.out _ HT.out).mono ?_); rintro r w1 ⟨rfl, hb⟩; replace HT := Lib.hid (HT.out.below hb); replace B := Lib.hid (bl_thru B.out (Nat.le_refl _) hb); clear hb))
      | (go_at_call 27; ((refine (NG.out _).mono ?_); rintro r w1 ⟨rfl, rfl⟩))
      | (go_at_call 16; ((with_reducible refine (ok_bl2 _ _ _ _ (by simp)).mono ?_); rintro r w1 ⟨rfl, hb⟩; replace HT := Lib.hid (HT.out.below hb); replace B := Lib.hid (bl_thru B.out (Nat.le_refl _) hb); clear hb)))
  all_goals first
    | (go_ret; exact ⟨rfl, B.out⟩; done)
    | (go_ret; refine ⟨?_, B.out⟩; simp_all [ok2]; done)
    | (exfalso; omega)
    | (exfalso; simp_all [ok2]; done)
    | skip
  all_goals
    refine (N4.out _ (HT.out.alloc _)).mono ?_
    rintro r w2 ⟨rfl, hb⟩
    have B2 := Lib.hid (bl_thru (B.out.alloc B.out.size _) (Nat.le_refl _) hb)
    clear hb
    go_wp2
    all_goals first
      | (go_ret; exact ⟨rfl, B2.out⟩; done)
      | (go_ret; refine ⟨?_, B2.out⟩; simp_all; done)
      | (exfalso; simp_all; done)
      | trace_state
set_option maxRecDepth 100000 in
set_option maxHeartbeats 4000000 in
theorem rf_n_else (S SN SD T1 T2 TEN : ByteArray) (mode : Int) (hm1 : (mode == 1) = false) (hm2 : (mode == 2) = false) (D : ByteArray) (m : Nat) (hm : m ≤ 9001) (m1 : 1 ≤ m) (x z : Int) (a : Bool) (w : World) (hT : Tab w) (zS : S.size ≤ 900) (zD : D.size ≤ 900) (zD1 : D.toList.isEmpty = false) (k0 : -9000 ≤ -(m : Int) + 1) (k1 : -(m : Int) + 1 ≤ 9000)
    (hSN : (⟨#[48, 48]⟩ : ByteArray) ++ S = SN) (hSD : (⟨#[45]⟩ : ByteArray) ++ S = SD)
    (hT1 : D ++ ⟨#[48, 101]⟩ = T1) (hT2 : T1 ++ ⟨#[45]⟩ = T2) (hTEN : T2 ++ ⟨(e4 m).toArray⟩ = TEN) (zT1 : T1.size ≤ 902) (zT2 : T2.size ≤ 903)
    (PA : Hid (∀ w' : World, Calls Tryd.prog 32 #[.string S] w' fun e w2 => e = .returned (.tuple #[.bool false, .string D, .int .i64 (-(m : Int) + 1), .int .i64 0]) ∧ Below w'.heap.size w' w2))
    (N1 : Hid (∀ w' : World, Tab w' → Calls Tryd.prog 34 #[.string S, .int .i64 mode] w' fun e w2 => e = .returned (.tuple #[.int .u64 x, .bool a, .int .i64 0]) ∧ Below w'.heap.size w' w2))
    (N2 : Hid (∀ w' : World, Tab w' → Calls Tryd.prog 34 #[.string SN, .int .i64 mode] w' fun e w2 => e = .returned (.tuple #[.int .u64 x, .bool a, .int .i64 0]) ∧ Below w'.heap.size w' w2))
    (N3 : Hid (∀ w' : World, Tab w' → Calls Tryd.prog 34 #[.string SD, .int .i64 mode] w' fun e w2 => e = .returned (.tuple #[.int .u64 z, .bool a, .int .i64 0]) ∧ Below w'.heap.size w' w2))
    (N4 : Hid (∀ w' : World, Tab w' → Calls Tryd.prog 34 #[.string TEN, .int .i64 mode] w' fun e w2 => e = .returned (.tuple #[.int .u64 x, .bool a, .int .i64 0]) ∧ Below w'.heap.size w' w2))
    (NG : Hid (∀ w' : World, Calls Tryd.prog 27 #[.int .u64 x] w' fun e w2 => e = .returned (.int .u64 z) ∧ w' = w2)) :
    Calls Tryd.prog 10 #[.string S, .int .i64 mode] w fun e w' => e = .returned (.bool true) ∧ Below w.heap.size w w' := by
  have HT := Lib.hid hT
  have B : Hid (Below w.heap.size w w) := Lib.hid (Below.refl w.heap.size w)
  have LV := Lib.hid (fun w' h => readLives_any w' h)
  clear hT
  obtain ⟨E0, hE0⟩ : ∃ T : ByteArray, T = ⟨(e4 m).toArray⟩ := ⟨_, rfl⟩
  have cv := fun w' => rf_conv m hm w' E0 hE0
  have zE0 : E0.size = 4 := by rw [hE0]; rfl
  rw [← hE0] at hTEN
  clear hE0
  go_enter Tryd.func10, Tryd.ntmps10
  go_wp2_with (first
      | (go_at_call 32; (refine (PA.out _).mono ?_); rintro r w1 ⟨rfl, hb⟩; replace HT := Lib.hid (HT.out.below hb); replace B := Lib.hid (bl_thru B.out (Nat.le_refl _) hb); clear hb)
      | (go_at_call 33; (refine (LV.out _ HT.out).mono ?_); rintro r w1 ⟨rfl, hb⟩; replace HT := Lib.hid (HT.out.below hb); replace B := Lib.hid (bl_thru B.out (Nat.le_refl _) hb); clear hb)
      | (go_at_call 34; ((with_reducible refine (N1.out _ HT.out).mono ?_); rintro r w1 ⟨rfl, hb⟩; replace HT := Lib.hid (HT.out.below hb); replace B := Lib.hid (bl_thru B.out (Nat.le_refl _) hb); clear hb))
      | (go_at_call 34; ((with_reducible refine (N2.out _ HT.out).mono ?_); rintro r w1 ⟨rfl, hb⟩; replace HT := Lib.hid (HT.out.below hb); replace B := Lib.hid (bl_thru B.out (Nat.le_refl _) hb); clear hb))
      | (go_at_call 34; ((with_reducible refine (N3.out _ HT.out).mono ?_); rintro r w1 ⟨rfl, hb⟩; replace HT := Lib.hid (HT.out.below hb); replace B := Lib.hid (bl_thru B.out (Nat.le_refl _) hb); clear hb))
      | (go_at_call 27; ((refine (NG.out _).mono ?_); rintro r w1 ⟨rfl, rfl⟩))
      | (go_at_call 16; ((with_reducible refine (ok_bl2 _ _ _ _ (by simp)).mono ?_); rintro r w1 ⟨rfl, hb⟩; replace HT := Lib.hid (HT.out.below hb); replace B := Lib.hid (bl_thru B.out (Nat.le_refl _) hb); clear hb)))
  all_goals first
    | (go_ret; exact ⟨rfl, B.out⟩; done)
    | (go_ret; refine ⟨?_, B.out⟩; simp_all [ok2]; done)
    | (exfalso; omega)
    | (exfalso; simp_all [ok2]; done)
    | skip
  all_goals
    refine (N4.out _ (HT.out.alloc _)).mono ?_
    rintro r w2 ⟨rfl, hb⟩
    have B2 := Lib.hid (bl_thru (B.out.alloc B.out.size _) (Nat.le_refl _) hb)
    clear hb
    go_wp2
    all_goals first
      | (go_ret; exact ⟨rfl, B2.out⟩; done)
      | (go_ret; refine ⟨?_, B2.out⟩; simp_all; done)
      | (exfalso; simp_all; done)
      | trace_state
end Go.Proofs.YthlocmhfjandlaaDoor
