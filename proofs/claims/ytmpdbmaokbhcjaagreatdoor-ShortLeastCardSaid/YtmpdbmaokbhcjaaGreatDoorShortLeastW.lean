/-
  THE WALK of the law ShortLeast.
-/
import Derived.Test.YtmpdbmaokbhcjaaGreatDoorYjk
import Derived.Test.YtmpdbmaokbhcjaaGreatDoorYhi
import Derived.Test.YtmpdbmaokbhcjaaGreatDoorLb
import Derived.Test.YtmpdbmaokbhcjaaGreatDoorDa
import Derived.Shelf.Strings.SlTrimAscii
set_option linter.unusedVariables false
set_option linter.unusedSimpArgs false
namespace Go.Proofs.YtmpdbmaokbhcjaaGreatDoor
-- strings.Trim at ASCII signs (as Tm has it: a claim may hold 60 files, so it stands here)
section
open Go.Shelf Go.RowKit Go.Lib

def Tryz.laysTrim_ren : Go.Shelf.Ren := ⟨fun | 160 => 21 | 232 => 63 | 231 => 62 | 227 => 64 | 234 => 66 | 233 => 65 | 236 => 68 | 235 => 67 | 228 => 123 | 271 => 126 | 151 => 125 | 197 => 124 | 120 => 163 | 152 => 162 | 260 => 161 | 137 => 138 | 119 => 194 | 224 => 186 | 225 => 185 | 217 => 170 | 266 => 201 | n => n, fun | 9 => 9 | 4 => 4 | 3 => 3 | 5 => 5 | 117 => 100 | 116 => 99 | 0 => 0 | 124 => 103 | 21 => 21 | 105 => 161 | 46 => 106 | 119 => 221 | 139 => 224 | 138 => 223 | n => n, fun | 3 => 2 | 4 => 3 | n => n⟩
theorem Tryz.laysTrim : Go.Proofs.Lays.n160 Tryz.prog Tryz.laysTrim_ren := {
  mixed := by kernel_rfl
  f119 := Tryz.func194.trans (congrArg some (by kernel_rfl))
  f120 := Tryz.func163.trans (congrArg some (by kernel_rfl))
  f137 := Tryz.func138.trans (congrArg some (by kernel_rfl))
  f151 := Tryz.func125.trans (congrArg some (by kernel_rfl))
  f152 := Tryz.func162.trans (congrArg some (by kernel_rfl))
  f160 := Tryz.func21.trans (congrArg some (by kernel_rfl))
  f197 := Tryz.func124.trans (congrArg some (by kernel_rfl))
  f217 := Tryz.func170.trans (congrArg some (by kernel_rfl))
  f224 := Tryz.func186.trans (congrArg some (by kernel_rfl))
  f225 := Tryz.func185.trans (congrArg some (by kernel_rfl))
  f227 := Tryz.func64.trans (congrArg some (by kernel_rfl))
  f228 := Tryz.func123.trans (congrArg some (by kernel_rfl))
  f231 := Tryz.func62.trans (congrArg some (by kernel_rfl))
  f232 := Tryz.func63.trans (congrArg some (by kernel_rfl))
  f233 := Tryz.func65.trans (congrArg some (by kernel_rfl))
  f234 := Tryz.func66.trans (congrArg some (by kernel_rfl))
  f235 := Tryz.func67.trans (congrArg some (by kernel_rfl))
  f236 := Tryz.func68.trans (congrArg some (by kernel_rfl))
  f260 := Tryz.func161.trans (congrArg some (by kernel_rfl))
  f266 := Tryz.func201.trans (congrArg some (by kernel_rfl))
  f271 := Tryz.func126.trans (congrArg some (by kernel_rfl))
  t0 := Tryz.underlying0
  a0 := Tryz.isAgg0
  z0 := Tryz.sizeOf0
  v0 := Tryz.zeroValue0
  t3 := Tryz.underlying3
  a3 := Tryz.isAgg3
  z3 := Tryz.sizeOf3
  v3 := Tryz.zeroValue3
  t4 := Tryz.underlying4
  a4 := Tryz.isAgg4
  z4 := Tryz.sizeOf4
  v4 := Tryz.zeroValue4
  t5 := Tryz.underlying5
  a5 := Tryz.isAgg5
  z5 := Tryz.sizeOf5
  v5 := Tryz.zeroValue5
  t9 := Tryz.underlying9
  a9 := Tryz.isAgg9
  z9 := Tryz.sizeOf9
  v9 := Tryz.zeroValue9
  t21 := Tryz.underlying21
  a21 := Tryz.isAgg21
  z21 := Tryz.sizeOf21
  v21 := Tryz.zeroValue21
  t46 := Tryz.underlying106
  a46 := Tryz.isAgg106
  z46 := Tryz.sizeOf106
  v46 := Tryz.zeroValue106
  t105 := Tryz.underlying161
  a105 := Tryz.isAgg161
  z105 := Tryz.sizeOf161
  v105 := Tryz.zeroValue161
  t116 := Tryz.underlying99
  a116 := Tryz.isAgg99
  z116 := Tryz.sizeOf99
  t117 := Tryz.underlying100
  a117 := Tryz.isAgg100
  z117 := Tryz.sizeOf100
  v117 := Tryz.zeroValue100
  t119 := Tryz.underlying221
  a119 := Tryz.isAgg221
  z119 := Tryz.sizeOf221
  t124 := Tryz.underlying103
  a124 := Tryz.isAgg103
  z124 := Tryz.sizeOf103
  v124 := Tryz.zeroValue103
  t138 := Tryz.underlying223
  a138 := Tryz.isAgg223
  z138 := Tryz.sizeOf223
  v138 := Tryz.zeroValue223
  t139 := Tryz.underlying224
  a139 := Tryz.isAgg224
  z139 := Tryz.sizeOf224
  v139 := Tryz.zeroValue224
  g3 := by kernel_rfl
  g4 := by kernel_rfl }
theorem fTrim : Tryz.laysTrim_ren.f 160 = 21 := by kernel_rfl
theorem trim_any (s : ByteArray) (cs : List UInt8) (hcs : cs.all (fun b => decide (b.toNat < 128)) = true) (hl : cs.length ≤ 1000) (w : World) (hs : s.size ≤ 1000000000) :
    Calls Tryz.prog 21 #[.string s, .string ⟨cs.toArray⟩] w fun e w' => e = .returned (.string ⟨(Lib.trimS s.data.toList cs).toArray⟩) ∧ Below w.heap.size w w' := by
  have h := Any.strings_Trim_laid Tryz.laysTrim (by kernel_rfl) s ⟨cs.toArray⟩ w (by omega) (by show cs.toArray.size < _; simp; omega) (by
    intro j b hj
    exact of_decide_eq_true (List.all_eq_true.1 hcs b (List.mem_of_getElem? hj)))
  rw [fTrim] at h
  exact h
end
open Go.RowKit Nt Fm Fl

theorem okb2 (x0 x1 : Int) (w : World) (b : Nat) (hb : b = w.heap.size) :
    Calls Tryz.prog 23 #[.slice (some ⟨b, 0, none⟩) 2 2] (w.alloc (.cells #[.int .i64 x0, .int .i64 x1] 28)) fun e w' => e = .returned (.bool (ok2 x0 x1)) ∧ Below w.heap.size w w' :=
  (ok_new2 x0 x1 w b hb).mono (by rintro e w' ⟨rfl, rfl⟩; exact ⟨rfl, (Below.refl _ _).alloc (Nat.le_refl _) _⟩)
set_option maxRecDepth 100000 in
set_option maxHeartbeats 4000000 in
theorem sle_none (x n k er : Int) (w : World) (hT : Tab w) (hT10 : Tab10 w)
    (DG : Hid (∀ w' : World, Tab w' → Tab10 w' → Calls Tryz.prog 27 #[.int .u64 x] w' fun e w2 => e = .returned (.tuple #[.string ⟨#[]⟩, .int .i64 k, .int .i64 er]) ∧ Below w'.heap.size w' w2))
    (LV : Hid (∀ w' : World, Tab w' → Tab10 w' → Calls Tryz.prog 26 #[] w' fun e w2 => e = .returned (.bool true) ∧ Below w'.heap.size w' w2)) :
    Calls Tryz.prog 6 #[.int .u64 x, .int .i64 n] w fun e w' => e = .returned (.bool true) ∧ Below w.heap.size w w' := by
  have HT := Lib.hid hT
  have H10 := Lib.hid hT10
  have B : Hid (Below w.heap.size w w) := Lib.hid (Below.refl w.heap.size w)
  clear hT hT10
  go_enter Tryz.func6, Tryz.ntmps6
  go_wp2_with (first
    | (go_at_call 27; (refine (DG.out _ HT.out H10.out).mono ?_); rintro r w1 ⟨rfl, hb⟩; replace HT := Lib.hid (HT.out.below hb); replace H10 := Lib.hid (H10.out.below hb); replace B := Lib.hid (bl_thru B.out (Nat.le_refl _) hb); clear hb)
    | (go_at_call 26; refine (LV.out _ HT.out H10.out).mono ?_; rintro r w1 ⟨rfl, hb⟩; replace HT := Lib.hid (HT.out.below hb); replace H10 := Lib.hid (H10.out.below hb); replace B := Lib.hid (bl_thru B.out (Nat.le_refl _) hb); clear hb))
  all_goals first
    | (go_ret; exact ⟨rfl, B.out⟩; done)
    | (go_ret; refine ⟨?_, B.out⟩; simp_all; done)
    | (exfalso; simp_all; done)
    | trace_state
set_option maxRecDepth 100000 in
set_option maxHeartbeats 4000000 in
theorem sle_some (x n k : Int) (D : ByteArray) (m : Nat) (zD : D.size = m) (m1 : 1 ≤ m) (hA : ∀ h : 0 < D.size, ¬ (((D[0]'h).toNat : Nat) : Int) = 48) (hZ : ∀ h : m - 1 < D.size, ¬ (((D[m - 1]'h).toNat : Nat) : Int) = 48) (m17 : m ≤ 17) (S1 S2 : ByteArray) (y1 y2 : Int) (l1 l2 c1 c2 : Bool) (hn1 : 1 ≤ n) (hnm : n < (m : Int)) (q1 : (y1 == x) = false) (q2 : (y2 == x) = false) (w : World) (hT : Tab w) (hT10 : Tab10 w)
    (DG : Hid (∀ w' : World, Tab w' → Tab10 w' → Calls Tryz.prog 27 #[.int .u64 x] w' fun e w2 => e = .returned (.tuple #[.string D, .int .i64 k, .int .i64 0]) ∧ Below w'.heap.size w' w2))
    (TR : Hid (∀ w' : World, Calls Tryz.prog 21 #[.string D, .string ⟨#[48, 49, 50, 51, 52, 53, 54, 55, 56, 57]⟩] w' fun e w2 => e = .returned (.string ⟨#[]⟩) ∧ Below w'.heap.size w' w2))
    (C1 : Hid (∀ w' : World, Tab w' → Tab10 w' → Calls Tryz.prog 18 #[.int .u64 x, .int .i64 n, .int .i64 1] w' fun e w2 => e = .returned (.tuple #[.string S1, .bool l1, .int .i64 0]) ∧ Below w'.heap.size w' w2))
    (C2 : Hid (∀ w' : World, Tab w' → Tab10 w' → Calls Tryz.prog 18 #[.int .u64 x, .int .i64 n, .int .i64 2] w' fun e w2 => e = .returned (.tuple #[.string S2, .bool l2, .int .i64 0]) ∧ Below w'.heap.size w' w2))
    (R1 : Hid (∀ w' : World, Tab w' → Calls Tryz.prog 19 #[.string S1, .int .i64 0] w' fun e w2 => e = .returned (.tuple #[.int .u64 y1, .bool c1, .int .i64 0]) ∧ Below w'.heap.size w' w2))
    (R2 : Hid (∀ w' : World, Tab w' → Calls Tryz.prog 19 #[.string S2, .int .i64 0] w' fun e w2 => e = .returned (.tuple #[.int .u64 y2, .bool c2, .int .i64 0]) ∧ Below w'.heap.size w' w2))
    (LV : Hid (∀ w' : World, Tab w' → Tab10 w' → Calls Tryz.prog 26 #[] w' fun e w2 => e = .returned (.bool true) ∧ Below w'.heap.size w' w2)) :
    Calls Tryz.prog 6 #[.int .u64 x, .int .i64 n] w fun e w' => e = .returned (.bool true) ∧ Below w.heap.size w w' := by
  have HT := Lib.hid hT
  have H10 := Lib.hid hT10
  have B : Hid (Below w.heap.size w w) := Lib.hid (Below.refl w.heap.size w)
  clear hT hT10
  go_enter Tryz.func6, Tryz.ntmps6
  have hne : (D.toList == (⟨#[]⟩ : ByteArray).toList) = false := by
    rw [beq_eq_false_iff_ne]
    intro h
    have h2 := congrArg List.length h
    rw [ByteArray.toList_eq, ByteArray.toList_eq] at h2
    have h3 : D.data.toList.length = D.size := by simp
    rw [h3] at h2
    have h4 : ((⟨#[]⟩ : ByteArray).data.toList).length = 0 := rfl
    omega
  have j0 : ∀ w : World, (Instr.index 49 (.agg #[.int .i64 1, .int .i64 2]) (.int .i64 0)).run Tryz.prog w = .ok (.int .i64 1) w := fun _ => by kernel_rfl
  have j1 : ∀ w : World, (Instr.index 49 (.agg #[.int .i64 1, .int .i64 2]) (.int .i64 1)).run Tryz.prog w = .ok (.int .i64 2) w := fun _ => by kernel_rfl
  go_wp2_with (first
    | (go_at_call 27; (refine (DG.out _ HT.out H10.out).mono ?_); rintro r w1 ⟨rfl, hb⟩; replace HT := Lib.hid (HT.out.below hb); replace H10 := Lib.hid (H10.out.below hb); replace B := Lib.hid (bl_thru B.out (Nat.le_refl _) hb); clear hb)
    | (go_at_call 26; refine (LV.out _ HT.out H10.out).mono ?_; rintro r w1 ⟨rfl, hb⟩; replace HT := Lib.hid (HT.out.below hb); replace H10 := Lib.hid (H10.out.below hb); replace B := Lib.hid (bl_thru B.out (Nat.le_refl _) hb); clear hb))
  all_goals first
    | (exfalso; omega)
    | (exfalso; exact hZ (by omega) (by assumption))
    | (exfalso; exact hA (by omega) (by assumption))
    | (exfalso; simp_all; done)
    | skip
  go_at_call 21
  refine (TR.out _).mono ?_
  rintro r w1 ⟨rfl, hb⟩
  replace HT := Lib.hid (HT.out.below hb)
  replace H10 := Lib.hid (H10.out.below hb)
  replace B := Lib.hid (bl_thru B.out (Nat.le_refl _) hb)
  clear hb
  go_wp2
  · exfalso
    rename_i h
    rcases h with (h | h) | h
    · omega
    · rw [beq_iff_eq] at h; exact hA (by omega) h
    · rw [beq_iff_eq] at h; exact hZ (by omega) h
  · go_loopw [67] (fun i wr => ∃ k : Nat, k ≤ 2 ∧ i = .int .i64 k ∧ Hid (Tab wr) ∧ Hid (Tab10 wr) ∧ Hid (Below w.heap.size w wr)) (fun i _ => 2 - (intOf i).toNat)
    case atStart => exact ⟨0, by omega, rfl, HT, H10, B⟩
    case round =>
      clear HT H10 B
      obtain ⟨k, hk, rfl, HT, H10, B⟩ := hrel
      have hk4 : k = 0 ∨ k = 1 ∨ k = 2 := by omega
      rcases hk4 with rfl | rfl | rfl
      · go_wp2_with (first
            | (go_at_call 18; (refine (C1.out _ HT.out H10.out).mono ?_); rintro r w1 ⟨rfl, hb⟩; replace HT := Lib.hid (HT.out.below hb); replace H10 := Lib.hid (H10.out.below hb); replace B := Lib.hid (bl_thru B.out (Nat.le_refl _) hb); clear hb)
            | (go_at_call 19; (refine (R1.out _ HT.out).mono ?_); rintro r w1 ⟨rfl, hb⟩; replace HT := Lib.hid (HT.out.below hb); replace H10 := Lib.hid (H10.out.below hb); replace B := Lib.hid (bl_thru B.out (Nat.le_refl _) hb); clear hb)
            | (go_at_call 23; ((with_reducible refine (okb2 _ _ _ _ (by simp)).mono ?_); rintro r w1 ⟨rfl, hb⟩; replace HT := Lib.hid (HT.out.below hb); replace H10 := Lib.hid (H10.out.below hb); replace B := Lib.hid (bl_thru B.out (Nat.le_refl _) hb); clear hb)))
        all_goals first
          | (exfalso; simp_all [ok2]; done)
          | (go_roundw
             case rel => exact ⟨1, by omega, by go_num, HT, H10, B⟩
             case measure => simp [intOf])
          | trace_state
      · go_wp2_with (first
            | (go_at_call 18; (refine (C2.out _ HT.out H10.out).mono ?_); rintro r w1 ⟨rfl, hb⟩; replace HT := Lib.hid (HT.out.below hb); replace H10 := Lib.hid (H10.out.below hb); replace B := Lib.hid (bl_thru B.out (Nat.le_refl _) hb); clear hb)
            | (go_at_call 19; (refine (R2.out _ HT.out).mono ?_); rintro r w1 ⟨rfl, hb⟩; replace HT := Lib.hid (HT.out.below hb); replace H10 := Lib.hid (H10.out.below hb); replace B := Lib.hid (bl_thru B.out (Nat.le_refl _) hb); clear hb)
            | (go_at_call 23; ((with_reducible refine (okb2 _ _ _ _ (by simp)).mono ?_); rintro r w1 ⟨rfl, hb⟩; replace HT := Lib.hid (HT.out.below hb); replace H10 := Lib.hid (H10.out.below hb); replace B := Lib.hid (bl_thru B.out (Nat.le_refl _) hb); clear hb)))
        all_goals first
          | (exfalso; simp_all [ok2]; done)
          | (go_roundw
             case rel => exact ⟨2, by omega, by go_num, HT, H10, B⟩
             case measure => simp [intOf])
          | trace_state
      · go_wp2
        go_ret
        exact ⟨rfl, B.out⟩
set_option maxRecDepth 100000 in
set_option maxHeartbeats 4000000 in
theorem sle_out (x n k : Int) (D : ByteArray) (m : Nat) (zD : D.size = m) (m1 : 1 ≤ m) (hA : ∀ h : 0 < D.size, ¬ (((D[0]'h).toNat : Nat) : Int) = 48) (hZ : ∀ h : m - 1 < D.size, ¬ (((D[m - 1]'h).toNat : Nat) : Int) = 48) (m17 : m ≤ 17) (hn : n < 1 ∨ (m : Int) ≤ n) (w : World) (hT : Tab w) (hT10 : Tab10 w)
    (DG : Hid (∀ w' : World, Tab w' → Tab10 w' → Calls Tryz.prog 27 #[.int .u64 x] w' fun e w2 => e = .returned (.tuple #[.string D, .int .i64 k, .int .i64 0]) ∧ Below w'.heap.size w' w2))
    (TR : Hid (∀ w' : World, Calls Tryz.prog 21 #[.string D, .string ⟨#[48, 49, 50, 51, 52, 53, 54, 55, 56, 57]⟩] w' fun e w2 => e = .returned (.string ⟨#[]⟩) ∧ Below w'.heap.size w' w2))
    (LV : Hid (∀ w' : World, Tab w' → Tab10 w' → Calls Tryz.prog 26 #[] w' fun e w2 => e = .returned (.bool true) ∧ Below w'.heap.size w' w2)) :
    Calls Tryz.prog 6 #[.int .u64 x, .int .i64 n] w fun e w' => e = .returned (.bool true) ∧ Below w.heap.size w w' := by
  have HT := Lib.hid hT
  have H10 := Lib.hid hT10
  have B : Hid (Below w.heap.size w w) := Lib.hid (Below.refl w.heap.size w)
  clear hT hT10
  go_enter Tryz.func6, Tryz.ntmps6
  have hne : (D.toList == (⟨#[]⟩ : ByteArray).toList) = false := by
    rw [beq_eq_false_iff_ne]
    intro h
    have h2 := congrArg List.length h
    rw [ByteArray.toList_eq, ByteArray.toList_eq] at h2
    have h3 : D.data.toList.length = D.size := by simp
    rw [h3] at h2
    have h4 : ((⟨#[]⟩ : ByteArray).data.toList).length = 0 := rfl
    omega
  go_wp2_with (first
    | (go_at_call 27; (refine (DG.out _ HT.out H10.out).mono ?_); rintro r w1 ⟨rfl, hb⟩; replace HT := Lib.hid (HT.out.below hb); replace H10 := Lib.hid (H10.out.below hb); replace B := Lib.hid (bl_thru B.out (Nat.le_refl _) hb); clear hb)
    | (go_at_call 26; refine (LV.out _ HT.out H10.out).mono ?_; rintro r w1 ⟨rfl, hb⟩; replace HT := Lib.hid (HT.out.below hb); replace H10 := Lib.hid (H10.out.below hb); replace B := Lib.hid (bl_thru B.out (Nat.le_refl _) hb); clear hb))
  all_goals first
    | (exfalso; omega)
    | (exfalso; exact hZ (by omega) (by assumption))
    | (exfalso; exact hA (by omega) (by assumption))
    | (exfalso; simp_all; done)
    | skip
  go_at_call 21
  refine (TR.out _).mono ?_
  rintro r w1 ⟨rfl, hb⟩
  replace HT := Lib.hid (HT.out.below hb)
  replace H10 := Lib.hid (H10.out.below hb)
  replace B := Lib.hid (bl_thru B.out (Nat.le_refl _) hb)
  clear hb
  go_wp2
  · exfalso
    rename_i h
    rcases h with (h | h) | h
    · omega
    · rw [beq_iff_eq] at h; exact hA (by omega) h
    · rw [beq_iff_eq] at h; exact hZ (by omega) h
  all_goals (go_ret; exact ⟨rfl, B.out⟩)
theorem sle_trim {d : List UInt8} (h : ∀ c ∈ d, dgt c) : Lib.trimS d decCs = [] := by
  have hd : ∀ m : List UInt8, (∀ c ∈ m, dgt c) → m.dropWhile (decCs.contains ·) = [] := by
    intro m
    induction m with
    | nil => intro _; rfl
    | cons c m ih =>
      intro hm
      rw [List.dropWhile_cons, if_pos (dec_has (hm c (List.mem_cons_self ..)))]
      exact ih (fun e he => hm e (List.mem_cons_of_mem _ he))
  unfold Lib.trimS Lib.trimLeftS Lib.trimRightS
  rw [hd d.reverse (fun c hc => h c (List.mem_reverse.1 hc))]
  rfl
theorem sle_last {d a : List UInt8} {c : UInt8} (e : d = a ++ [c]) : ∀ h : d.length - 1 < d.length, d[d.length - 1]'h = c := by
  subst e
  intro h
  simp
theorem walkShortLeast (x : Int) (x0 : 0 ≤ x) (x1 : x ≤ 18446744073709551615) (n : Int) (n0 : -9223372036854775808 ≤ n) (n1 : n ≤ 9223372036854775807) (w : World) (hT : Tab w) (hT10 : Tab10 w) :
    Calls Tryz.prog 6 #[.int .u64 x, .int .i64 n] w fun e w' => e = .returned (.bool true) ∧ Below w.heap.size w w' := by
  have DG := Lib.hid (fun w' h1 h2 => sdigits_any x x0 x1 w' h1 h2)
  have LV := Lib.hid (fun w' h1 h2 => shortLives_any w' h1 h2)
  unfold RetSIE at DG
  by_cases hg : hasV x = true ∧ 1 ≤ fabs x
  · obtain ⟨hv, hx⟩ := hg
    rw [show sdT x = shT x by unfold sdT; rw [if_pos ⟨hv, hx⟩], show sdE x = 0 by unfold sdE; rw [if_pos hv]] at DG
    obtain ⟨t1, t2, t3, -, -, -⟩ := shT_facts x0 x1 hx
    obtain ⟨d1, ⟨c0, l0, d2, d3⟩, ⟨a0, c1, d4, d5⟩⟩ := least_d x0 x1 hx
    obtain ⟨-, -, d17, -⟩ := shN_spec x0 x1 hx
    have TR := Lib.hid (fun w' => trim_any ⟨(shT x).toArray⟩ decCs (by decide) (by decide) w' (by show (shT x).toArray.size ≤ _; simp; omega))
    rw [show (⟨(shT x).toArray⟩ : ByteArray).data.toList = shT x from rfl, sle_trim t1] at TR
    have hm1 : 1 ≤ (shT x).length := by rw [d2]; simp
    have hA : ∀ h : 0 < (⟨(shT x).toArray⟩ : ByteArray).size, ¬ ((((⟨(shT x).toArray⟩ : ByteArray)[0]'h).toNat : Nat) : Int) = 48 := by
      intro h hh
      have e : (⟨(shT x).toArray⟩ : ByteArray)[0]'h = (shT x)[0]'(by omega) := rfl
      have e2 : (shT x)[0]'(by omega) = c0 := by simp [d2]
      rw [e, e2] at hh
      exact d3 (UInt8.toNat_inj.1 (by have : (48 : UInt8).toNat = 48 := rfl; omega))
    have hZ : ∀ h : (shT x).length - 1 < (⟨(shT x).toArray⟩ : ByteArray).size, ¬ ((((⟨(shT x).toArray⟩ : ByteArray)[(shT x).length - 1]'h).toNat : Nat) : Int) = 48 := by
      intro h hh
      have e : (⟨(shT x).toArray⟩ : ByteArray)[(shT x).length - 1]'h = (shT x)[(shT x).length - 1]'(by omega) := rfl
      rw [e, sle_last d4 (by omega)] at hh
      exact d5 (UInt8.toNat_inj.1 (by have : (48 : UInt8).toNat = 48 := rfl; omega))
    by_cases hn : 1 ≤ n ∧ n < ((shT x).length : Int)
    · obtain ⟨hn1, hn2⟩ := hn
      obtain ⟨q, rfl⟩ : ∃ q : Nat, n = (q : Int) := ⟨n.toNat, by omega⟩
      obtain ⟨g1, g2⟩ := least_st x0 x1 hx (show 1 ≤ q by omega) (by omega)
      have C1 := Lib.hid (fun w' h1 h2 => sci_any x q 1 x0 x1 w' h1 h2)
      have C2 := Lib.hid (fun w' h1 h2 => sci_any x q 2 x0 x1 w' h1 h2)
      unfold RetSBE at C1 C2
      have z1 : scE x q 1 = 0 := by unfold scE; rw [if_pos hv, if_pos ⟨by omega, by omega, by omega⟩]
      have z2 : scE x q 2 = 0 := by unfold scE; rw [if_pos hv, if_pos ⟨by omega, by omega, by omega⟩]
      have s1 : scS x q 1 = scT x q 1 := by unfold scS; rw [if_pos z1]; rfl
      have s2 : scS x q 2 = scT x q 2 := by unfold scS; rw [if_pos z2]; rfl
      rw [z1, s1] at C1
      rw [z2, s2] at C2
      obtain ⟨r1, r2, -⟩ := least_ne x0 x1 hv hx (show 1 ≤ q by omega) g2 g1 1
      obtain ⟨v1, v2, -⟩ := least_ne x0 x1 hv hx (show 1 ≤ q by omega) g2 g1 2
      have R1 := Lib.hid (fun w' h => rnumber_any (scT x q 1) _ rfl 0 w' h)
      have R2 := Lib.hid (fun w' h => rnumber_any (scT x q 2) _ rfl 0 w' h)
      unfold RetUBE at R1 R2
      rw [r1] at R1
      rw [v1] at R2
      exact sle_some x q _ _ (shT x).length rfl hm1 hA hZ (by omega) _ _ _ _ _ _ _ _ hn1 hn2 (by rw [beq_eq_false_iff_ne]; exact r2) (by rw [beq_eq_false_iff_ne]; exact v2) w hT hT10 DG TR C1 C2 R1 R2 LV
    · exact sle_out x n _ _ (shT x).length rfl hm1 hA hZ (by omega) (by omega) w hT hT10 DG TR LV
  · rw [show sdT x = [] by unfold sdT; rw [if_neg hg]] at DG
    exact sle_none x n _ _ w hT hT10 DG LV
end Go.Proofs.YtmpdbmaokbhcjaaGreatDoor
