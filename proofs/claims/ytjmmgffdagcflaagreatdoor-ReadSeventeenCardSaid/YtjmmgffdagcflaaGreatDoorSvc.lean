/-
  THE WALK of the law ReadSeventeen where it asks no more.
-/
import Derived.Test.YtjmmgffdagcflaaGreatDoorYhi
import Derived.Test.YtjmmgffdagcflaaGreatDoorZu
import Derived.Test.YtjmmgffdagcflaaGreatDoorLb
import Derived.Test.YtjmmgffdagcflaaGreatDoorDa
import Derived.Shelf.Strings.SlTrimAscii
set_option linter.unusedVariables false
set_option linter.unusedSimpArgs false
namespace Go.Proofs.YtjmmgffdagcflaaGreatDoor
section
open Go.Shelf Go.RowKit Go.Lib

shelf_lay Lays.n160 Nm 160 at Tryz as Tryz.laysTrim
theorem fTrim : Tryz.laysTrim_ren.f 160 = 29 := by kernel_rfl
theorem trim_any (s : ByteArray) (cs : List UInt8) (hcs : cs.all (fun b => decide (b.toNat < 128)) = true) (hl : cs.length ≤ 1000) (w : World) (hs : s.size ≤ 1000000000) :
    Calls Tryz.prog 29 #[.string s, .string ⟨cs.toArray⟩] w fun e w' => e = .returned (.string ⟨(Lib.trimS s.data.toList cs).toArray⟩) ∧ Below w.heap.size w w' := by
  have h := Any.strings_Trim_laid Tryz.laysTrim (by kernel_rfl) s ⟨cs.toArray⟩ w (by omega) (by show cs.toArray.size < _; simp; omega) (by
    intro j b hj
    exact of_decide_eq_true (List.all_eq_true.1 hcs b (List.mem_of_getElem? hj)))
  rw [fTrim] at h
  exact h
end
open Go.RowKit Nt Fm Fl
theorem sv_zero : (readE (scT 0 17 0) 0 = 0 ∧ readV (scT 0 17 0) 0 = 0) ∧ readE (scT 9223372036854775808 17 0) 0 = 0 ∧ readV (scT 9223372036854775808 17 0) 0 = 9223372036854775808 := by
  unfold scT dgT dgP
  rw [if_pos (by decide), if_pos (by decide), if_pos (by decide), if_pos (by decide)]
  refine ⟨⟨?_, ?_⟩, ?_, ?_⟩ <;> kernel_rfl
theorem sv_back {x : Int} (x0 : 0 ≤ x) (x1 : x ≤ 18446744073709551615) (hv : hasV x = true) : readE (scT x 17 0) 0 = 0 ∧ readV (scT x 17 0) 0 = x := by
  by_cases hx : 1 ≤ fabs x
  · exact ⟨(sci_seventeen x0 x1 hv hx).1, (sci_seventeen x0 x1 hv hx).2.1⟩
  · have : x = 0 ∨ x = 9223372036854775808 := by
      have := fabs_bd x
      unfold fabs at hx this
      omega
    rcases this with rfl | rfl
    · exact sv_zero.1
    · exact sv_zero.2
set_option maxRecDepth 100000 in
set_option maxHeartbeats 4000000 in
theorem sv_size (x k : Int) (D S1 : ByteArray) (l1 c1 : Bool) (er : Int) (he : er = 0 ∨ er = 4) (hm : ((D.size : Int) != 15) = true) (zD : D.size ≤ 140737488355328) (w : World) (hT : Tab w) (hT10 : Tab10 w)
    (C1 : Hid (∀ w' : World, Tab w' → Tab10 w' → Calls Tryz.prog 30 #[.int .u64 x, .int .i64 17, .int .i64 0] w' fun e w2 => e = .returned (.tuple #[.string S1, .bool l1, .int .i64 er]) ∧ Below w'.heap.size w' w2))
    (R1 : er = 0 → Hid (∀ w' : World, Tab w' → Calls Tryz.prog 31 #[.string S1, .int .i64 0] w' fun e w2 => e = .returned (.tuple #[.int .u64 x, .bool c1, .int .i64 0]) ∧ Below w'.heap.size w' w2)) :
    Calls Tryz.prog 8 #[.int .u64 x, .string D, .int .i64 k] w fun e w' => e = .returned (.bool true) ∧ Below w.heap.size w w' := by
  have HT := Lib.hid hT
  have H10 := Lib.hid hT10
  have B : Hid (Below w.heap.size w w) := Lib.hid (Below.refl w.heap.size w)
  have LV := Lib.hid (fun w' h => readLives_any w' h)
  clear hT hT10
  rcases he with rfl | rfl
  · replace R1 := R1 rfl
    go_enter Tryz.func8, Tryz.ntmps8
    go_wp2_with (first
      | (go_at_call 30; (refine (C1.out _ HT.out H10.out).mono ?_); rintro r w1 ⟨rfl, hb⟩; replace HT := Lib.hid (HT.out.below hb); replace H10 := Lib.hid (H10.out.below hb); replace B := Lib.hid (bl_thru B.out (Nat.le_refl _) hb); clear hb)
      | (go_at_call 31; (refine (R1.out _ HT.out).mono ?_); rintro r w1 ⟨rfl, hb⟩; replace HT := Lib.hid (HT.out.below hb); replace H10 := Lib.hid (H10.out.below hb); replace B := Lib.hid (bl_thru B.out (Nat.le_refl _) hb); clear hb)
      | (go_at_call 32; (refine (LV.out _ HT.out).mono ?_); rintro r w1 ⟨rfl, hb⟩; replace HT := Lib.hid (HT.out.below hb); replace H10 := Lib.hid (H10.out.below hb); replace B := Lib.hid (bl_thru B.out (Nat.le_refl _) hb); clear hb))
    all_goals first
      | (go_ret; exact ⟨rfl, B.out⟩; done)
      | (exfalso; simp_all; done)
      | trace_state
  · clear R1
    go_enter Tryz.func8, Tryz.ntmps8
    go_wp2_with (first
      | (go_at_call 30; (refine (C1.out _ HT.out H10.out).mono ?_); rintro r w1 ⟨rfl, hb⟩; replace HT := Lib.hid (HT.out.below hb); replace H10 := Lib.hid (H10.out.below hb); replace B := Lib.hid (bl_thru B.out (Nat.le_refl _) hb); clear hb)
      | (go_at_call 32; (refine (LV.out _ HT.out).mono ?_); rintro r w1 ⟨rfl, hb⟩; replace HT := Lib.hid (HT.out.below hb); replace H10 := Lib.hid (H10.out.below hb); replace B := Lib.hid (bl_thru B.out (Nat.le_refl _) hb); clear hb))
    all_goals first
      | (go_ret; exact ⟨rfl, B.out⟩; done)
      | (exfalso; simp_all; done)
      | trace_state
set_option maxRecDepth 100000 in
set_option maxHeartbeats 4000000 in
theorem sv_bad (x k : Int) (D S1 T : ByteArray) (l1 c1 : Bool) (er : Int) (he : er = 0 ∨ er = 4) (m : Nat) (zD : D.size = m) (hm : m = 15) (zT : T.size ≤ 1000)
    (hb : Hid (True ∧ True ∧ (T.toList.isEmpty = false ∨ (∀ h : 0 < D.size, (((D[0]'h).toNat : Nat) : Int) = 48) ∨ k < -290 ∨ 290 < k))) (w : World) (hT : Tab w) (hT10 : Tab10 w)
    (C1 : Hid (∀ w' : World, Tab w' → Tab10 w' → Calls Tryz.prog 30 #[.int .u64 x, .int .i64 17, .int .i64 0] w' fun e w2 => e = .returned (.tuple #[.string S1, .bool l1, .int .i64 er]) ∧ Below w'.heap.size w' w2))
    (TR : Hid (∀ w' : World, Calls Tryz.prog 29 #[.string D, .string ⟨#[48, 49, 50, 51, 52, 53, 54, 55, 56, 57]⟩] w' fun e w2 => e = .returned (.string T) ∧ Below w'.heap.size w' w2))
    (R1 : er = 0 → Hid (∀ w' : World, Tab w' → Calls Tryz.prog 31 #[.string S1, .int .i64 0] w' fun e w2 => e = .returned (.tuple #[.int .u64 x, .bool c1, .int .i64 0]) ∧ Below w'.heap.size w' w2)) :
    Calls Tryz.prog 8 #[.int .u64 x, .string D, .int .i64 k] w fun e w' => e = .returned (.bool true) ∧ Below w.heap.size w w' := by
  have HT := Lib.hid hT
  have H10 := Lib.hid hT10
  have B : Hid (Below w.heap.size w w) := Lib.hid (Below.refl w.heap.size w)
  have LV := Lib.hid (fun w' h => readLives_any w' h)
  have HB := hb
  clear hT hT10 hb
  subst hm
  rcases he with rfl | rfl
  · replace R1 := R1 rfl
    go_enter Tryz.func8, Tryz.ntmps8
    go_wp2_with (first
      | (go_at_call 30; (refine (C1.out _ HT.out H10.out).mono ?_); rintro r w1 ⟨rfl, hb⟩; replace HT := Lib.hid (HT.out.below hb); replace H10 := Lib.hid (H10.out.below hb); replace B := Lib.hid (bl_thru B.out (Nat.le_refl _) hb); clear hb)
      | (go_at_call 31; (refine (R1.out _ HT.out).mono ?_); rintro r w1 ⟨rfl, hb⟩; replace HT := Lib.hid (HT.out.below hb); replace H10 := Lib.hid (H10.out.below hb); replace B := Lib.hid (bl_thru B.out (Nat.le_refl _) hb); clear hb)
      | (go_at_call 32; (refine (LV.out _ HT.out).mono ?_); rintro r w1 ⟨rfl, hb⟩; replace HT := Lib.hid (HT.out.below hb); replace H10 := Lib.hid (H10.out.below hb); replace B := Lib.hid (bl_thru B.out (Nat.le_refl _) hb); clear hb))
    all_goals first
      | (exfalso; omega)
      | (exfalso; simp_all; done)
      | skip
    go_at_call 29
    refine (TR.out _).mono ?_
    rintro r w1 ⟨rfl, hb⟩
    replace HT := Lib.hid (HT.out.below hb)
    replace H10 := Lib.hid (H10.out.below hb)
    replace B := Lib.hid (bl_thru B.out (Nat.le_refl _) hb)
    clear hb
    go_wp2_with (first
      | (go_at_call 32; (refine (LV.out _ HT.out).mono ?_); rintro r w1 ⟨rfl, hb⟩; replace HT := Lib.hid (HT.out.below hb); replace H10 := Lib.hid (H10.out.below hb); replace B := Lib.hid (bl_thru B.out (Nat.le_refl _) hb); clear hb))
    all_goals first
      | (go_ret; exact ⟨rfl, B.out⟩; done)
      | (exfalso; obtain ⟨h1, h2, h3⟩ := HB.out; rcases h3 with h3 | h3 | h3 | h3; (have hT0 : T.toList = [] := (by assumption); rw [hT0] at h3; exact absurd h3 (by decide)); (exact absurd (h3 (by omega)) (by assumption)); omega; omega)
      | (exfalso; simp_all; done)
      | trace_state
  · clear R1
    go_enter Tryz.func8, Tryz.ntmps8
    go_wp2_with (first
      | (go_at_call 30; (refine (C1.out _ HT.out H10.out).mono ?_); rintro r w1 ⟨rfl, hb⟩; replace HT := Lib.hid (HT.out.below hb); replace H10 := Lib.hid (H10.out.below hb); replace B := Lib.hid (bl_thru B.out (Nat.le_refl _) hb); clear hb)
      | (go_at_call 32; (refine (LV.out _ HT.out).mono ?_); rintro r w1 ⟨rfl, hb⟩; replace HT := Lib.hid (HT.out.below hb); replace H10 := Lib.hid (H10.out.below hb); replace B := Lib.hid (bl_thru B.out (Nat.le_refl _) hb); clear hb))
    all_goals first
      | (exfalso; omega)
      | (exfalso; simp_all; done)
      | skip
    go_at_call 29
    refine (TR.out _).mono ?_
    rintro r w1 ⟨rfl, hb⟩
    replace HT := Lib.hid (HT.out.below hb)
    replace H10 := Lib.hid (H10.out.below hb)
    replace B := Lib.hid (bl_thru B.out (Nat.le_refl _) hb)
    clear hb
    go_wp2_with (first
      | (go_at_call 32; (refine (LV.out _ HT.out).mono ?_); rintro r w1 ⟨rfl, hb⟩; replace HT := Lib.hid (HT.out.below hb); replace H10 := Lib.hid (H10.out.below hb); replace B := Lib.hid (bl_thru B.out (Nat.le_refl _) hb); clear hb))
    all_goals first
      | (go_ret; exact ⟨rfl, B.out⟩; done)
      | (exfalso; obtain ⟨h1, h2, h3⟩ := HB.out; rcases h3 with h3 | h3 | h3 | h3; (have hT0 : T.toList = [] := (by assumption); rw [hT0] at h3; exact absurd h3 (by decide)); (exact absurd (h3 (by omega)) (by assumption)); omega; omega)
      | (exfalso; simp_all; done)
      | trace_state
end Go.Proofs.YtjmmgffdagcflaaGreatDoor
