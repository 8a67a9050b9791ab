/-
  THE WALK of the law ReadSeventeen where it asks no more.
-/
import Derived.Test.YthlocmhfjandlaaGreatDoorYhi
import Derived.Test.YthlocmhfjandlaaGreatDoorZu
import Derived.Test.YthlocmhfjandlaaGreatDoorLb
import Derived.Test.YthlocmhfjandlaaGreatDoorDa
import Derived.Shelf.Strings.SlTrimAscii
set_option linter.unusedVariables false
set_option linter.unusedSimpArgs false
namespace Go.Proofs.YthlocmhfjandlaaGreatDoor
section
open Go.Shelf Go.RowKit Go.Lib

def Tryz.laysTrim_ren : Go.Shelf.Ren := ⟨fun | 160 => 38 | 232 => 94 | 231 => 93 | 227 => 95 | 234 => 97 | 233 => 96 | 236 => 99 | 235 => 98 | 228 => 146 | 271 => 148 | 151 => 147 | 197 => 91 | 120 => 181 | 152 => 180 | 260 => 145 | 137 => 46 | 119 => 193 | 224 => 176 | 225 => 175 | 217 => 117 | 266 => 163 | n => n, fun | 9 => 9 | 4 => 4 | 3 => 3 | 5 => 5 | 117 => 122 | 116 => 121 | 0 => 0 | 124 => 125 | 21 => 21 | 105 => 116 | 46 => 138 | 119 => 201 | 139 => 204 | 138 => 203 | n => n, fun | 3 => 1 | 4 => 2 | n => n⟩
theorem Tryz.laysTrim : Go.Proofs.Lays.n160 Tryz.prog Tryz.laysTrim_ren := {
  mixed := by kernel_rfl
  f119 := Tryz.func193.trans (congrArg some (by kernel_rfl))
  f120 := Tryz.func181.trans (congrArg some (by kernel_rfl))
  f137 := Tryz.func46.trans (congrArg some (by kernel_rfl))
  f151 := Tryz.func147.trans (congrArg some (by kernel_rfl))
  f152 := Tryz.func180.trans (congrArg some (by kernel_rfl))
  f160 := Tryz.func38.trans (congrArg some (by kernel_rfl))
  f197 := Tryz.func91.trans (congrArg some (by kernel_rfl))
  f217 := Tryz.func117.trans (congrArg some (by kernel_rfl))
  f224 := Tryz.func176.trans (congrArg some (by kernel_rfl))
  f225 := Tryz.func175.trans (congrArg some (by kernel_rfl))
  f227 := Tryz.func95.trans (congrArg some (by kernel_rfl))
  f228 := Tryz.func146.trans (congrArg some (by kernel_rfl))
  f231 := Tryz.func93.trans (congrArg some (by kernel_rfl))
  f232 := Tryz.func94.trans (congrArg some (by kernel_rfl))
  f233 := Tryz.func96.trans (congrArg some (by kernel_rfl))
  f234 := Tryz.func97.trans (congrArg some (by kernel_rfl))
  f235 := Tryz.func98.trans (congrArg some (by kernel_rfl))
  f236 := Tryz.func99.trans (congrArg some (by kernel_rfl))
  f260 := Tryz.func145.trans (congrArg some (by kernel_rfl))
  f266 := Tryz.func163.trans (congrArg some (by kernel_rfl))
  f271 := Tryz.func148.trans (congrArg some (by kernel_rfl))
  t0 := Tryz.underlying0
  a0 := Tryz.isAgg0
  z0 := Tryz.sizeOf0
  v0 := Tryz.zeroValue0
  t3 := Tryz.underlying3
  a3 := Tryz.isAgg3
  z3 := Tryz.sizeOf3
  v3 := Tryz.zeroValue3
  t4 := Tryz.underlying4
  a4 := Tryz.isAgg4
  z4 := Tryz.sizeOf4
  v4 := Tryz.zeroValue4
  t5 := Tryz.underlying5
  a5 := Tryz.isAgg5
  z5 := Tryz.sizeOf5
  v5 := Tryz.zeroValue5
  t9 := Tryz.underlying9
  a9 := Tryz.isAgg9
  z9 := Tryz.sizeOf9
  v9 := Tryz.zeroValue9
  t21 := Tryz.underlying21
  a21 := Tryz.isAgg21
  z21 := Tryz.sizeOf21
  v21 := Tryz.zeroValue21
  t46 := Tryz.underlying138
  a46 := Tryz.isAgg138
  z46 := Tryz.sizeOf138
  v46 := Tryz.zeroValue138
  t105 := Tryz.underlying116
  a105 := Tryz.isAgg116
  z105 := Tryz.sizeOf116
  v105 := Tryz.zeroValue116
  t116 := Tryz.underlying121
  a116 := Tryz.isAgg121
  z116 := Tryz.sizeOf121
  t117 := Tryz.underlying122
  a117 := Tryz.isAgg122
  z117 := Tryz.sizeOf122
  v117 := Tryz.zeroValue122
  t119 := Tryz.underlying201
  a119 := Tryz.isAgg201
  z119 := Tryz.sizeOf201
  t124 := Tryz.underlying125
  a124 := Tryz.isAgg125
  z124 := Tryz.sizeOf125
  v124 := Tryz.zeroValue125
  t138 := Tryz.underlying203
  a138 := Tryz.isAgg203
  z138 := Tryz.sizeOf203
  v138 := Tryz.zeroValue203
  t139 := Tryz.underlying204
  a139 := Tryz.isAgg204
  z139 := Tryz.sizeOf204
  v139 := Tryz.zeroValue204
  g3 := by kernel_rfl
  g4 := by kernel_rfl }
theorem fTrim : Tryz.laysTrim_ren.f 160 = 38 := by kernel_rfl
theorem trim_any (s : ByteArray) (cs : List UInt8) (hcs : cs.all (fun b => decide (b.toNat < 128)) = true) (hl : cs.length ≤ 1000) (w : World) (hs : s.size ≤ 1000000000) :
    Calls Tryz.prog 38 #[.string s, .string ⟨cs.toArray⟩] w fun e w' => e = .returned (.string ⟨(Lib.trimS s.data.toList cs).toArray⟩) ∧ Below w.heap.size w w' := by
  have h := Any.strings_Trim_laid Tryz.laysTrim (by kernel_rfl) s ⟨cs.toArray⟩ w (by omega) (by show cs.toArray.size < _; simp; omega) (by
    intro j b hj
    exact of_decide_eq_true (List.all_eq_true.1 hcs b (List.mem_of_getElem? hj)))
  rw [fTrim] at h
  exact h
end
open Go.RowKit Nt Fm Fl
theorem sv_zero : (readE (scT 0 17 0) 0 = 0 ∧ readV (scT 0 17 0) 0 = 0) ∧ readE (scT 9223372036854775808 17 0) 0 = 0 ∧ readV (scT 9223372036854775808 17 0) 0 = 9223372036854775808 := by
  unfold scT dgT dgP
  rw [if_pos (by decide), if_pos (by decide), if_pos (by decide), if_pos (by decide)]
  refine ⟨⟨?_, ?_⟩, ?_, ?_⟩ <;> kernel_rfl
theorem sv_back {x : Int} (x0 : 0 ≤ x) (x1 : x ≤ 18446744073709551615) (hv : hasV x = true) : readE (scT x 17 0) 0 = 0 ∧ readV (scT x 17 0) 0 = x := by
  by_cases hx : 1 ≤ fabs x
  · exact ⟨(sci_seventeen x0 x1 hv hx).1, (sci_seventeen x0 x1 hv hx).2.1⟩
  · have : x = 0 ∨ x = 9223372036854775808 := by
      have := fabs_bd x
      unfold fabs at hx this
      omega
    rcases this with rfl | rfl
    · exact sv_zero.1
    · exact sv_zero.2
set_option maxRecDepth 100000 in
set_option maxHeartbeats 4000000 in
theorem sv_size (x k : Int) (D S1 : ByteArray) (l1 c1 : Bool) (er : Int) (he : er = 0 ∨ er = 4) (hm : ((D.size : Int) != 15) = true) (zD : D.size ≤ 140737488355328) (w : World) (hT : Tab w) (hT10 : Tab10 w)
    (C1 : Hid (∀ w' : World, Tab w' → Tab10 w' → Calls Tryz.prog 33 #[.int .u64 x, .int .i64 17, .int .i64 0] w' fun e w2 => e = .returned (.tuple #[.string S1, .bool l1, .int .i64 er]) ∧ Below w'.heap.size w' w2))
    (R1 : er = 0 → Hid (∀ w' : World, Tab w' → Calls Tryz.prog 50 #[.string S1, .int .i64 0] w' fun e w2 => e = .returned (.tuple #[.int .u64 x, .bool c1, .int .i64 0]) ∧ Below w'.heap.size w' w2)) :
    Calls Tryz.prog 13 #[.int .u64 x, .string D, .int .i64 k] w fun e w' => e = .returned (.bool true) ∧ Below w.heap.size w w' := by
  have HT := Lib.hid hT
  have H10 := Lib.hid hT10
  have B : Hid (Below w.heap.size w w) := Lib.hid (Below.refl w.heap.size w)
  have LV := Lib.hid (fun w' h => readLives_any w' h)
  clear hT hT10
  rcases he with rfl | rfl
  · replace R1 := R1 rfl
    go_enter Tryz.func13, Tryz.ntmps13
    go_wp2_with (first
      | (go_at_call 33; (refine (C1.out _ HT.out H10.out).mono ?_); rintro r w1 ⟨rfl, hb⟩; replace HT := Lib.hid (HT.out.below hb); replace H10 := Lib.hid (H10.out.below hb); replace B := Lib.hid (bl_thru B.out (Nat.le_refl _) hb); clear hb)
      | (go_at_call 50; (refine (R1.out _ HT.out).mono ?_); rintro r w1 ⟨rfl, hb⟩; replace HT := Lib.hid (HT.out.below hb); replace H10 := Lib.hid (H10.out.below hb); replace B := Lib.hid (bl_thru B.out (Nat.le_refl _) hb); clear hb)
      | (go_at_call 49; (refine (LV.out _ HT.out).mono ?_); rintro r w1 ⟨rfl, hb⟩; replace HT := Lib.hid (HT.out.below hb); replace H10 := Lib.hid (H10.out.below hb); replace B := Lib.hid (bl_thru B.out (Nat.le_refl _) hb); clear hb))
    all_goals first
      | (go_ret; exact ⟨rfl, B.out⟩; done)
      | (exfalso; simp_all; done)
      | trace_state
  · clear R1
    go_enter Tryz.func13, Tryz.ntmps13
    go_wp2_with (first
      | (go_at_call 33; (refine (C1.out _ HT.out H10.out).mono ?_); rintro r w1 ⟨rfl, hb⟩; replace HT := Lib.hid (HT.out.below hb); replace H10 := Lib.hid (H10.out.below hb); replace B := Lib.hid (bl_thru B.out (Nat.le_refl _) hb); clear hb)
      | (go_at_call 49; (refine (LV.out _ HT.out).mono ?_); rintro r w1 ⟨rfl, hb⟩; replace HT := Lib.hid (HT.out.below hb); replace H10 := Lib.hid (H10.out.below hb); replace B := Lib.hid (bl_thru B.out (Nat.le_refl _) hb); clear hb))
    all_goals first
      | (go_ret; exact ⟨rfl, B.out⟩; done)
      | (exfalso; simp_all; done)
      | trace_state
set_option maxRecDepth 100000 in
set_option maxHeartbeats 4000000 in
theorem sv_bad (x k : Int) (D S1 T : ByteArray) (l1 c1 : Bool) (er : Int) (he : er = 0 ∨ er = 4) (m : Nat) (zD : D.size = m) (hm : m = 15) (zT : T.size ≤ 1000)
    (hb : Hid (True ∧ True ∧ (T.toList.isEmpty = false ∨ (∀ h : 0 < D.size, (((D[0]'h).toNat : Nat) : Int) = 48) ∨ k < -290 ∨ 290 < k))) (w : World) (hT : Tab w) (hT10 : Tab10 w)
    (C1 : Hid (∀ w' : World, Tab w' → Tab10 w' → Calls Tryz.prog 33 #[.int .u64 x, .int .i64 17, .int .i64 0] w' fun e w2 => e = .returned (.tuple #[.string S1, .bool l1, .int .i64 er]) ∧ Below w'.heap.size w' w2))
    (TR : Hid (∀ w' : World, Calls Tryz.prog 38 #[.string D, .string ⟨#[48, 49, 50, 51, 52, 53, 54, 55, 56, 57]⟩] w' fun e w2 => e = .returned (.string T) ∧ Below w'.heap.size w' w2))
    (R1 : er = 0 → Hid (∀ w' : World, Tab w' → Calls Tryz.prog 50 #[.string S1, .int .i64 0] w' fun e w2 => e = .returned (.tuple #[.int .u64 x, .bool c1, .int .i64 0]) ∧ Below w'.heap.size w' w2)) :
    Calls Tryz.prog 13 #[.int .u64 x, .string D, .int .i64 k] w fun e w' => e = .returned (.bool true) ∧ Below w.heap.size w w' := by
  have HT := Lib.hid hT
  have H10 := Lib.hid hT10
  have B : Hid (Below w.heap.size w w) := Lib.hid (Below.refl w.heap.size w)
  have LV := Lib.hid (fun w' h => readLives_any w' h)
  have HB := hb
  clear hT hT10 hb
  subst hm
  rcases he with rfl | rfl
  · replace R1 := R1 rfl
    go_enter Tryz.func13, Tryz.ntmps13
    go_wp2_with (first
      | (go_at_call 33; (refine (C1.out _ HT.out H10.out).mono ?_); rintro r w1 ⟨rfl, hb⟩; replace HT := Lib.hid (HT.out.below hb); replace H10 := Lib.hid (H10.out.below hb); replace B := Lib.hid (bl_thru B.out (Nat.le_refl _) hb); clear hb)
      | (go_at_call 50; (refine (R1.out _ HT.out).mono ?_); rintro r w1 ⟨rfl, hb⟩; replace HT := Lib.hid (HT.out.below hb); replace H10 := Lib.hid (H10.out.below hb); replace B := Lib.hid (bl_thru B.out (Nat.le_refl _) hb); clear hb)
      | (go_at_call 49; (refine (LV.out _ HT.out).mono ?_); rintro r w1 ⟨rfl, hb⟩; replace HT := Lib.hid (HT.out.below hb); replace H10 := Lib.hid (H10.out.below hb); replace B := Lib.hid (bl_thru B.out (Nat.le_refl _) hb); clear hb))
    all_goals first
      | (exfalso; omega)
      | (exfalso; simp_all; done)
      | skip
    go_at_call 38
    refine (TR.out _).mono ?_
    rintro r w1 ⟨rfl, hb⟩
    replace HT := Lib.hid (HT.out.below hb)
    replace H10 := Lib.hid (H10.out.below hb)
    replace B := Lib.hid (bl_thru B.out (Nat.le_refl _) hb)
    clear hb
    go_wp2_with (first
      | (go_at_call 49; (refine (LV.out _ HT.out).mono ?_); rintro r w1 ⟨rfl, hb⟩; replace HT := Lib.hid (HT.out.below hb); replace H10 := Lib.hid (H10.out.below hb); replace B := Lib.hid (bl_thru B.out (Nat.le_refl _) hb); clear hb))
    all_goals first
      | (go_ret; exact ⟨rfl, B.out⟩; done)
      | (exfalso; obtain ⟨h1, h2, h3⟩ := HB.out; rcases h3 with h3 | h3 | h3 | h3; (have hT0 : T.toList = [] := (by assumption); rw [hT0] at h3; exact absurd h3 (by decide)); (exact absurd (h3 (by omega)) (by assumption)); omega; omega)
      | (exfalso; simp_all; done)
      | trace_state
  · clear R1
    go_enter Tryz.func13, Tryz.ntmps13
    go_wp2_with (first
      | (go_at_call 33; (refine (C1.out _ HT.out H10.out).mono ?_); rintro r w1 ⟨rfl, hb⟩; replace HT := Lib.hid (HT.out.below hb); replace H10 := Lib.hid (H10.out.below hb); replace B := Lib.hid (bl_thru B.out (Nat.le_refl _) hb); clear hb)
      | (go_at_call 49; (refine (LV.out _ HT.out).mono ?_); rintro r w1 ⟨rfl, hb⟩; replace HT := Lib.hid (HT.out.below hb); replace H10 := Lib.hid (H10.out.below hb); replace B := Lib.hid (bl_thru B.out (Nat.le_refl _) hb); clear hb))
    all_goals first
      | (exfalso; omega)
      | (exfalso; simp_all; done)
      | skip
    go_at_call 38
    refine (TR.out _).mono ?_
    rintro r w1 ⟨rfl, hb⟩
    replace HT := Lib.hid (HT.out.below hb)
    replace H10 := Lib.hid (H10.out.below hb)
    replace B := Lib.hid (bl_thru B.out (Nat.le_refl _) hb)
    clear hb
    go_wp2_with (first
      | (go_at_call 49; (refine (LV.out _ HT.out).mono ?_); rintro r w1 ⟨rfl, hb⟩; replace HT := Lib.hid (HT.out.below hb); replace H10 := Lib.hid (H10.out.below hb); replace B := Lib.hid (bl_thru B.out (Nat.le_refl _) hb); clear hb))
    all_goals first
      | (go_ret; exact ⟨rfl, B.out⟩; done)
      | (exfalso; obtain ⟨h1, h2, h3⟩ := HB.out; rcases h3 with h3 | h3 | h3 | h3; (have hT0 : T.toList = [] := (by assumption); rw [hT0] at h3; exact absurd h3 (by decide)); (exact absurd (h3 (by omega)) (by assumption)); omega; omega)
      | (exfalso; simp_all; done)
      | trace_state
end Go.Proofs.YthlocmhfjandlaaGreatDoor
