/-
  THE WALK of the law ReadSeventeen where it asks no more.
-/
import Derived.Test.YtmpdbmaokbhcjaaGreatDoorYhi
import Derived.Test.YtmpdbmaokbhcjaaGreatDoorZu
import Derived.Test.YtmpdbmaokbhcjaaGreatDoorLb
import Derived.Test.YtmpdbmaokbhcjaaGreatDoorDa
import Derived.Shelf.Strings.SlTrimAscii
set_option linter.unusedVariables false
set_option linter.unusedSimpArgs false
namespace Go.Proofs.YtmpdbmaokbhcjaaGreatDoor
section
open Go.Shelf Go.RowKit Go.Lib

def Tryz.laysTrim_ren : Go.Shelf.Ren := ⟨fun | 160 => 21 | 232 => 63 | 231 => 62 | 227 => 64 | 234 => 66 | 233 => 65 | 236 => 68 | 235 => 67 | 228 => 123 | 271 => 126 | 151 => 125 | 197 => 124 | 120 => 163 | 152 => 162 | 260 => 161 | 137 => 138 | 119 => 194 | 224 => 186 | 225 => 185 | 217 => 170 | 266 => 201 | n => n, fun | 9 => 9 | 4 => 4 | 3 => 3 | 5 => 5 | 117 => 100 | 116 => 99 | 0 => 0 | 124 => 103 | 21 => 21 | 105 => 161 | 46 => 106 | 119 => 221 | 139 => 224 | 138 => 223 | n => n, fun | 3 => 2 | 4 => 3 | n => n⟩
theorem Tryz.laysTrim : Go.Proofs.Lays.n160 Tryz.prog Tryz.laysTrim_ren := {
  mixed := by kernel_rfl
  f119 := Tryz.func194.trans (congrArg some (by kernel_rfl))
  f120 := Tryz.func163.trans (congrArg some (by kernel_rfl))
  f137 := Tryz.func138.trans (congrArg some (by kernel_rfl))
  f151 := Tryz.func125.trans (congrArg some (by kernel_rfl))
  f152 := Tryz.func162.trans (congrArg some (by kernel_rfl))
  f160 := Tryz.func21.trans (congrArg some (by kernel_rfl))
  f197 := Tryz.func124.trans (congrArg some (by kernel_rfl))
  f217 := Tryz.func170.trans (congrArg some (by kernel_rfl))
  f224 := Tryz.func186.trans (congrArg some (by kernel_rfl))
  f225 := Tryz.func185.trans (congrArg some (by kernel_rfl))
  f227 := Tryz.func64.trans (congrArg some (by kernel_rfl))
  f228 := Tryz.func123.trans (congrArg some (by kernel_rfl))
  f231 := Tryz.func62.trans (congrArg some (by kernel_rfl))
  f232 := Tryz.func63.trans (congrArg some (by kernel_rfl))
  f233 := Tryz.func65.trans (congrArg some (by kernel_rfl))
  f234 := Tryz.func66.trans (congrArg some (by kernel_rfl))
  f235 := Tryz.func67.trans (congrArg some (by kernel_rfl))
  f236 := Tryz.func68.trans (congrArg some (by kernel_rfl))
  f260 := Tryz.func161.trans (congrArg some (by kernel_rfl))
  f266 := Tryz.func201.trans (congrArg some (by kernel_rfl))
  f271 := Tryz.func126.trans (congrArg some (by kernel_rfl))
  t0 := Tryz.underlying0
  a0 := Tryz.isAgg0
  z0 := Tryz.sizeOf0
  v0 := Tryz.zeroValue0
  t3 := Tryz.underlying3
  a3 := Tryz.isAgg3
  z3 := Tryz.sizeOf3
  v3 := Tryz.zeroValue3
  t4 := Tryz.underlying4
  a4 := Tryz.isAgg4
  z4 := Tryz.sizeOf4
  v4 := Tryz.zeroValue4
  t5 := Tryz.underlying5
  a5 := Tryz.isAgg5
  z5 := Tryz.sizeOf5
  v5 := Tryz.zeroValue5
  t9 := Tryz.underlying9
  a9 := Tryz.isAgg9
  z9 := Tryz.sizeOf9
  v9 := Tryz.zeroValue9
  t21 := Tryz.underlying21
  a21 := Tryz.isAgg21
  z21 := Tryz.sizeOf21
  v21 := Tryz.zeroValue21
  t46 := Tryz.underlying106
  a46 := Tryz.isAgg106
  z46 := Tryz.sizeOf106
  v46 := Tryz.zeroValue106
  t105 := Tryz.underlying161
  a105 := Tryz.isAgg161
  z105 := Tryz.sizeOf161
  v105 := Tryz.zeroValue161
  t116 := Tryz.underlying99
  a116 := Tryz.isAgg99
  z116 := Tryz.sizeOf99
  t117 := Tryz.underlying100
  a117 := Tryz.isAgg100
  z117 := Tryz.sizeOf100
  v117 := Tryz.zeroValue100
  t119 := Tryz.underlying221
  a119 := Tryz.isAgg221
  z119 := Tryz.sizeOf221
  t124 := Tryz.underlying103
  a124 := Tryz.isAgg103
  z124 := Tryz.sizeOf103
  v124 := Tryz.zeroValue103
  t138 := Tryz.underlying223
  a138 := Tryz.isAgg223
  z138 := Tryz.sizeOf223
  v138 := Tryz.zeroValue223
  t139 := Tryz.underlying224
  a139 := Tryz.isAgg224
  z139 := Tryz.sizeOf224
  v139 := Tryz.zeroValue224
  g3 := by kernel_rfl
  g4 := by kernel_rfl }
theorem fTrim : Tryz.laysTrim_ren.f 160 = 21 := by kernel_rfl
theorem trim_any (s : ByteArray) (cs : List UInt8) (hcs : cs.all (fun b => decide (b.toNat < 128)) = true) (hl : cs.length ≤ 1000) (w : World) (hs : s.size ≤ 1000000000) :
    Calls Tryz.prog 21 #[.string s, .string ⟨cs.toArray⟩] w fun e w' => e = .returned (.string ⟨(Lib.trimS s.data.toList cs).toArray⟩) ∧ Below w.heap.size w w' := by
  have h := Any.strings_Trim_laid Tryz.laysTrim (by kernel_rfl) s ⟨cs.toArray⟩ w (by omega) (by show cs.toArray.size < _; simp; omega) (by
    intro j b hj
    exact of_decide_eq_true (List.all_eq_true.1 hcs b (List.mem_of_getElem? hj)))
  rw [fTrim] at h
  exact h
end
open Go.RowKit Nt Fm Fl
theorem sv_zero : (readE (scT 0 17 0) 0 = 0 ∧ readV (scT 0 17 0) 0 = 0) ∧ readE (scT 9223372036854775808 17 0) 0 = 0 ∧ readV (scT 9223372036854775808 17 0) 0 = 9223372036854775808 := by
  unfold scT dgT dgP
  rw [if_pos (by decide), if_pos (by decide), if_pos (by decide), if_pos (by decide)]
  refine ⟨⟨?_, ?_⟩, ?_, ?_⟩ <;> kernel_rfl
theorem sv_back {x : Int} (x0 : 0 ≤ x) (x1 : x ≤ 18446744073709551615) (hv : hasV x = true) : readE (scT x 17 0) 0 = 0 ∧ readV (scT x 17 0) 0 = x := by
  by_cases hx : 1 ≤ fabs x
  · exact ⟨(sci_seventeen x0 x1 hv hx).1, (sci_seventeen x0 x1 hv hx).2.1⟩
  · have : x = 0 ∨ x = 9223372036854775808 := by
      have := fabs_bd x
      unfold fabs at hx this
      omega
    rcases this with rfl | rfl
    · exact sv_zero.1
    · exact sv_zero.2
set_option maxRecDepth 100000 in
set_option maxHeartbeats 4000000 in
theorem sv_size (x k : Int) (D S1 : ByteArray) (l1 c1 : Bool) (er : Int) (he : er = 0 ∨ er = 4) (hm : ((D.size : Int) != 15) = true) (zD : D.size ≤ 140737488355328) (w : World) (hT : Tab w) (hT10 : Tab10 w)
    (C1 : Hid (∀ w' : World, Tab w' → Tab10 w' → Calls Tryz.prog 18 #[.int .u64 x, .int .i64 17, .int .i64 0] w' fun e w2 => e = .returned (.tuple #[.string S1, .bool l1, .int .i64 er]) ∧ Below w'.heap.size w' w2))
    (R1 : er = 0 → Hid (∀ w' : World, Tab w' → Calls Tryz.prog 19 #[.string S1, .int .i64 0] w' fun e w2 => e = .returned (.tuple #[.int .u64 x, .bool c1, .int .i64 0]) ∧ Below w'.heap.size w' w2)) :
    Calls Tryz.prog 4 #[.int .u64 x, .string D, .int .i64 k] w fun e w' => e = .returned (.bool true) ∧ Below w.heap.size w w' := by
  have HT := Lib.hid hT
  have H10 := Lib.hid hT10
  have B : Hid (Below w.heap.size w w) := Lib.hid (Below.refl w.heap.size w)
  have LV := Lib.hid (fun w' h => readLives_any w' h)
  clear hT hT10
  rcases he with rfl | rfl
  · replace R1 := R1 rfl
    go_enter Tryz.func4, Tryz.ntmps4
    go_wp2_with (first
      | (go_at_call 18; (refine (C1.out _ HT.out H10.out).mono ?_); rintro r w1 ⟨rfl, hb⟩; replace HT := Lib.hid (HT.out.below hb); replace H10 := Lib.hid (H10.out.below hb); replace B := Lib.hid (bl_thru B.out (Nat.le_refl _) hb); clear hb)
      | (go_at_call 19; (refine (R1.out _ HT.out).mono ?_); rintro r w1 ⟨rfl, hb⟩; replace HT := Lib.hid (HT.out.below hb); replace H10 := Lib.hid (H10.out.below hb); replace B := Lib.hid (bl_thru B.out (Nat.le_refl _) hb); clear hb)
      | (go_at_call 20; (refine (LV.out _ HT.out).mono ?_); rintro r w1 ⟨rfl, hb⟩; replace HT := Lib.hid (HT.out.below hb); replace H10 := Lib.hid (H10.out.below hb); replace B := Lib.hid (bl_thru B.out (Nat.le_refl _) hb); clear hb))
    all_goals first
      | (go_ret; exact ⟨rfl, B.out⟩; done)
      | (exfalso; simp_all; done)
      | trace_state
  · clear R1
    go_enter Tryz.func4, Tryz.ntmps4
    go_wp2_with (first
      | (go_at_call 18; (refine (C1.out _ HT.out H10.out).mono ?_); rintro r w1 ⟨rfl, hb⟩; replace HT := Lib.hid (HT.out.below hb); replace H10 := Lib.hid (H10.out.below hb); replace B := Lib.hid (bl_thru B.out (Nat.le_refl _) hb); clear hb)
      | (go_at_call 20; (refine (LV.out _ HT.out).mono ?_); rintro r w1 ⟨rfl, hb⟩; replace HT := Lib.hid (HT.out.below hb); replace H10 := Lib.hid (H10.out.below hb); replace B := Lib.hid (bl_thru B.out (Nat.le_refl _) hb); clear hb))
    all_goals first
      | (go_ret; exact ⟨rfl, B.out⟩; done)
      | (exfalso; simp_all; done)
      | trace_state
set_option maxRecDepth 100000 in
set_option maxHeartbeats 4000000 in
theorem sv_bad (x k : Int) (D S1 T : ByteArray) (l1 c1 : Bool) (er : Int) (he : er = 0 ∨ er = 4) (m : Nat) (zD : D.size = m) (hm : m = 15) (zT : T.size ≤ 1000)
    (hb : Hid (True ∧ True ∧ (T.toList.isEmpty = false ∨ (∀ h : 0 < D.size, (((D[0]'h).toNat : Nat) : Int) = 48) ∨ k < -290 ∨ 290 < k))) (w : World) (hT : Tab w) (hT10 : Tab10 w)
    (C1 : Hid (∀ w' : World, Tab w' → Tab10 w' → Calls Tryz.prog 18 #[.int .u64 x, .int .i64 17, .int .i64 0] w' fun e w2 => e = .returned (.tuple #[.string S1, .bool l1, .int .i64 er]) ∧ Below w'.heap.size w' w2))
    (TR : Hid (∀ w' : World, Calls Tryz.prog 21 #[.string D, .string ⟨#[48, 49, 50, 51, 52, 53, 54, 55, 56, 57]⟩] w' fun e w2 => e = .returned (.string T) ∧ Below w'.heap.size w' w2))
    (R1 : er = 0 → Hid (∀ w' : World, Tab w' → Calls Tryz.prog 19 #[.string S1, .int .i64 0] w' fun e w2 => e = .returned (.tuple #[.int .u64 x, .bool c1, .int .i64 0]) ∧ Below w'.heap.size w' w2)) :
    Calls Tryz.prog 4 #[.int .u64 x, .string D, .int .i64 k] w fun e w' => e = .returned (.bool true) ∧ Below w.heap.size w w' := by
  have HT := Lib.hid hT
  have H10 := Lib.hid hT10
  have B : Hid (Below w.heap.size w w) := Lib.hid (Below.refl w.heap.size w)
  have LV := Lib.hid (fun w' h => readLives_any w' h)
  have HB := hb
  clear hT hT10 hb
  subst hm
  rcases he with rfl | rfl
  · replace R1 := R1 rfl
    go_enter Tryz.func4, Tryz.ntmps4
    go_wp2_with (first
      | (go_at_call 18; (refine (C1.out _ HT.out H10.out).mono ?_); rintro r w1 ⟨rfl, hb⟩; replace HT := Lib.hid (HT.out.below hb); replace H10 := Lib.hid (H10.out.below hb); replace B := Lib.hid (bl_thru B.out (Nat.le_refl _) hb); clear hb)
      | (go_at_call 19; (refine (R1.out _ HT.out).mono ?_); rintro r w1 ⟨rfl, hb⟩; replace HT := Lib.hid (HT.out.below hb); replace H10 := Lib.hid (H10.out.below hb); replace B := Lib.hid (bl_thru B.out (Nat.le_refl _) hb); clear hb)
      | (go_at_call 20; (refine (LV.out _ HT.out).mono ?_); rintro r w1 ⟨rfl, hb⟩; replace HT := Lib.hid (HT.out.below hb); replace H10 := Lib.hid (H10.out.below hb); replace B := Lib.hid (bl_thru B.out (Nat.le_refl _) hb); clear hb))
    all_goals first
      | (exfalso; omega)
      | (exfalso; simp_all; done)
      | skip
    go_at_call 21
    refine (TR.out _).mono ?_
    rintro r w1 ⟨rfl, hb⟩
    replace HT := Lib.hid (HT.out.below hb)
    replace H10 := Lib.hid (H10.out.below hb)
    replace B := Lib.hid (bl_thru B.out (Nat.le_refl _) hb)
    clear hb
    go_wp2_with (first
      | (go_at_call 20; (refine (LV.out _ HT.out).mono ?_); rintro r w1 ⟨rfl, hb⟩; replace HT := Lib.hid (HT.out.below hb); replace H10 := Lib.hid (H10.out.below hb); replace B := Lib.hid (bl_thru B.out (Nat.le_refl _) hb); clear hb))
    all_goals first
      | (go_ret; exact ⟨rfl, B.out⟩; done)
      | (exfalso; obtain ⟨h1, h2, h3⟩ := HB.out; rcases h3 with h3 | h3 | h3 | h3; (have hT0 : T.toList = [] := (by assumption); rw [hT0] at h3; exact absurd h3 (by decide)); (exact absurd (h3 (by omega)) (by assumption)); omega; omega)
      | (exfalso; simp_all; done)
      | trace_state
  · clear R1
    go_enter Tryz.func4, Tryz.ntmps4
    go_wp2_with (first
      | (go_at_call 18; (refine (C1.out _ HT.out H10.out).mono ?_); rintro r w1 ⟨rfl, hb⟩; replace HT := Lib.hid (HT.out.below hb); replace H10 := Lib.hid (H10.out.below hb); replace B := Lib.hid (bl_thru B.out (Nat.le_refl _) hb); clear hb)
      | (go_at_call 20; (refine (LV.out _ HT.out).mono ?_); rintro r w1 ⟨rfl, hb⟩; replace HT := Lib.hid (HT.out.below hb); replace H10 := Lib.hid (H10.out.below hb); replace B := Lib.hid (bl_thru B.out (Nat.le_refl _) hb); clear hb))
    all_goals first
      | (exfalso; omega)
      | (exfalso; simp_all; done)
      | skip
    go_at_call 21
    refine (TR.out _).mono ?_
    rintro r w1 ⟨rfl, hb⟩
    replace HT := Lib.hid (HT.out.below hb)
    replace H10 := Lib.hid (H10.out.below hb)
    replace B := Lib.hid (bl_thru B.out (Nat.le_refl _) hb)
    clear hb
    go_wp2_with (first
      | (go_at_call 20; (refine (LV.out _ HT.out).mono ?_); rintro r w1 ⟨rfl, hb⟩; replace HT := Lib.hid (HT.out.below hb); replace H10 := Lib.hid (H10.out.below hb); replace B := Lib.hid (bl_thru B.out (Nat.le_refl _) hb); clear hb))
    all_goals first
      | (go_ret; exact ⟨rfl, B.out⟩; done)
      | (exfalso; obtain ⟨h1, h2, h3⟩ := HB.out; rcases h3 with h3 | h3 | h3 | h3; (have hT0 : T.toList = [] := (by assumption); rw [hT0] at h3; exact absurd h3 (by decide)); (exact absurd (h3 (by omega)) (by assumption)); omega; omega)
      | (exfalso; simp_all; done)
      | trace_state
end Go.Proofs.YtmpdbmaokbhcjaaGreatDoor
