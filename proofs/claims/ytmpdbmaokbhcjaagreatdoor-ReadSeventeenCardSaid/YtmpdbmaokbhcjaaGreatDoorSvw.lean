/-
  SOME OF MY TEXTS in one: Svd ReadSeventeenW. Each says what it proves.
-/
import Derived.Test.YtmpdbmaokbhcjaaGreatDoorSvc
import Derived.Lib.SlBytesRow
import Derived.Shelf.Strings.Trim
set_option linter.unusedVariables false
set_option linter.unusedSimpArgs false
/-
  THE WALK of the law ReadSeventeen at fifteen digits (under way).
-/
namespace Go.Proofs.YtmpdbmaokbhcjaaGreatDoor
section
open Go.Shelf Go.RowKit Go.Lib
theorem trimLeft0_any (s : List UInt8) (S : ByteArray) (hS : S = ⟨s.toArray⟩) (w : World) :
    Calls Tryz.prog 22 #[.string S, .string ⟨#[48]⟩] w fun e w' => e = .returned (.string ⟨(Lib.trimLeftB s 48).toArray⟩) ∧ w' = w := by
  have h := Any.strings_TrimLeft_one Tryz.laysTrimLeft S 48 (by decide) w
  rw [fTrimLeft, show S.data.toList = s by rw [hS]] at h
  exact h
end
open Go.RowKit Nt Fm Fl
theorem e3_bytes (n : Nat) (h : n ≤ 290) : ∀ i (hi : i < (⟨(e3 n).toArray⟩ : ByteArray).size), (#[Value.int .u8 (48 + (n : Int) / 100), Value.int .u8 (48 + (n : Int) / 10 % 10), Value.int .u8 (48 + (n : Int) % 10)] : Array Value)[i]? = some (.int .u8 (((⟨(e3 n).toArray⟩ : ByteArray)[i]'hi).toNat : Int)) := by
  intro i hi
  have h3 : (⟨(e3 n).toArray⟩ : ByteArray).size = 3 := rfl
  have hc : i = 0 ∨ i = 1 ∨ i = 2 := by omega
  rcases hc with rfl | rfl | rfl
  · show some (Value.int .u8 (48 + (n : Int) / 100)) = some (.int .u8 (((UInt8.ofNat (48 + n / 100)).toNat : Nat) : Int))
    rw [UInt8.toNat_ofNat_of_lt' (by show _ < 256; omega)]
    congr 2
    
  · show some (Value.int .u8 (48 + (n : Int) / 10 % 10)) = some (.int .u8 (((UInt8.ofNat (48 + n / 10 % 10)).toNat : Nat) : Int))
    rw [UInt8.toNat_ofNat_of_lt' (by show _ < 256; omega)]
    congr 2
    
  · show some (Value.int .u8 (48 + (n : Int) % 10)) = some (.int .u8 (((UInt8.ofNat (48 + n % 10)).toNat : Nat) : Int))
    rw [UInt8.toNat_ofNat_of_lt' (by show _ < 256; omega)]
    congr 2
    
theorem sv_conv (n : Nat) (h : n ≤ 290) (w : World) (T : ByteArray) (hT : T = ⟨(e3 n).toArray⟩) : (convert 42 9 (.slice (some ⟨w.heap.size, 0, none⟩) 3 3)).run Tryz.prog (w.alloc (.cells #[.int .u8 (48 + (n : Int) / 100), .int .u8 (48 + (n : Int) / 10 % 10), .int .u8 (48 + (n : Int) % 10)] 5)) =
    .ok (.string T) (w.alloc (.cells #[.int .u8 (48 + (n : Int) / 100), .int .u8 (48 + (n : Int) / 10 % 10), .int .u8 (48 + (n : Int) % 10)] 5)) := by
  subst hT
  have hb : Lib.Bytes (w.alloc (.cells #[.int .u8 (48 + (n : Int) / 100), .int .u8 (48 + (n : Int) / 10 % 10), .int .u8 (48 + (n : Int) % 10)] 5)) w.heap.size 0 ⟨(e3 n).toArray⟩ := by
    intro i hi
    have h1 := e3_bytes n h i hi
    have h2 : (w.alloc (.cells #[.int .u8 (48 + (n : Int) / 100), .int .u8 (48 + (n : Int) / 10 % 10), .int .u8 (48 + (n : Int) % 10)] 5)).heap[w.heap.size]? = some (.cells #[.int .u8 (48 + (n : Int) / 100), .int .u8 (48 + (n : Int) / 10 % 10), .int .u8 (48 + (n : Int) % 10)] 5 (0, 0)) := heap_alloc_new w _
    unfold World.cell?
    rw [Nat.zero_add]
    simp only [h2]
    exact h1
  exact Lib.run_convert_whole _ 42 5 9 Tryz.underlying42 Tryz.underlying5 Tryz.underlying9 _ _ _ hb 3
def sLen : Value → Nat
  | .string s => s.size
  | _ => 0
def PadR (n : Nat) (E : ByteArray) : Prop := ∃ j : Nat, E = ⟨(List.replicate j 48 ++ Lib.trimLeftB (e3 n) 48).toArray⟩ ∧ (j = 0 ∨ j + (Lib.trimLeftB (e3 n) 48).length ≤ 2)
theorem PadR.next {n : Nat} {E : ByteArray} (h : PadR n E) (hz : E.size < 2) : PadR n (⟨#[48]⟩ ++ E) := by
  obtain ⟨j, rfl, hj⟩ := h
  have h1 : (⟨(List.replicate j 48 ++ Lib.trimLeftB (e3 n) 48).toArray⟩ : ByteArray).size = j + (Lib.trimLeftB (e3 n) 48).length := by
    show (List.replicate j (48 : UInt8) ++ Lib.trimLeftB (e3 n) 48).toArray.size = _
    simp
  refine ⟨j + 1, ?_, Or.inr (by omega)⟩
  apply ByteArray.ext
  simp [List.replicate_succ]
theorem padR_less {E : ByteArray} (hz : E.size < 2) : 2 - sLen (.string (⟨#[48]⟩ ++ E)) < 2 - sLen (.string E) := by
  show 2 - (⟨#[48]⟩ ++ E).size < 2 - E.size
  rw [ByteArray.size_append]
  have : (⟨#[48]⟩ : ByteArray).size = 1 := rfl
  omega
theorem padR_size {n : Nat} {E : ByteArray} (h : PadR n E) : E.size ≤ 3 := by
  obtain ⟨j, rfl, hj⟩ := h
  have h1 : (⟨(List.replicate j 48 ++ Lib.trimLeftB (e3 n) 48).toArray⟩ : ByteArray).size = j + (Lib.trimLeftB (e3 n) 48).length := by
    show (List.replicate j (48 : UInt8) ++ Lib.trimLeftB (e3 n) 48).toArray.size = _
    simp
  have h2 : (Lib.trimLeftB (e3 n) 48).length ≤ (e3 n).length := (List.dropWhile_sublist _).length_le
  have h3 : (e3 n).length = 3 := rfl
  omega
theorem okb2 (x0 x1 : Int) (w : World) (b : Nat) (hb : b = w.heap.size) :
    Calls Tryz.prog 23 #[.slice (some ⟨b, 0, none⟩) 2 2] (w.alloc (.cells #[.int .i64 x0, .int .i64 x1] 28)) fun e w' => e = .returned (.bool (ok2 x0 x1)) ∧ Below w.heap.size w w' :=
  (ok_new2 x0 x1 w b hb).mono (by rintro e w' ⟨rfl, rfl⟩; exact ⟨rfl, (Below.refl _ _).alloc (Nat.le_refl _) _⟩)
set_option maxRecDepth 100000 in
set_option maxHeartbeats 4000000 in
theorem sv_goodp (x : Int) (n : Nat) (hn : n ≤ 290) (D S1 : ByteArray) (l1 c1 : Bool) (m : Nat) (zD : D.size = m) (hm : m = 15) (hA : ∀ h : 0 < D.size, ¬ (((D[0]'h).toNat : Nat) : Int) = 48) (w : World) (hT : Tab w) (hT10 : Tab10 w)
    (C1 : Hid (∀ w' : World, Tab w' → Tab10 w' → Calls Tryz.prog 18 #[.int .u64 x, .int .i64 17, .int .i64 0] w' fun e w2 => e = .returned (.tuple #[.string S1, .bool l1, .int .i64 4]) ∧ Below w'.heap.size w' w2))
    (TT S2 : ByteArray) (y c : Int) (l2 c2 : Bool) (hTT : Hid (∀ E, PadR n E → 2 ≤ E.size → D.extract 0 1 ++ ⟨#[46]⟩ ++ D.extract 1 15 ++ ⟨#[101]⟩ ++ ⟨#[43]⟩ ++ E = TT)) (hfin : (c == 3) = true → (S2.toList == TT.toList) = true)
    (RN : Hid (∀ w' : World, Tab w' → Calls Tryz.prog 19 #[.string TT, .int .i64 0] w' fun e w2 => e = .returned (.tuple #[.int .u64 y, .bool c2, .int .i64 0]) ∧ Below w'.heap.size w' w2))
    (C2 : Hid (∀ w' : World, Tab w' → Tab10 w' → Calls Tryz.prog 18 #[.int .u64 y, .int .i64 15, .int .i64 0] w' fun e w2 => e = .returned (.tuple #[.string S2, .bool l2, .int .i64 0]) ∧ Below w'.heap.size w' w2))
    (CY : Hid (∀ w' : World, Calls Tryz.prog 24 #[.int .u64 y] w' fun e w2 => e = .returned (.int .i64 c) ∧ w' = w2))
    (TR : Hid (∀ w' : World, Calls Tryz.prog 21 #[.string D, .string ⟨#[48, 49, 50, 51, 52, 53, 54, 55, 56, 57]⟩] w' fun e w2 => e = .returned (.string ⟨#[]⟩) ∧ Below w'.heap.size w' w2)) :
    Calls Tryz.prog 4 #[.int .u64 x, .string D, .int .i64 (n : Int)] w fun e w' => e = .returned (.bool true) ∧ Below w.heap.size w w' := by
  have HT := Lib.hid hT
  have H10 := Lib.hid hT10
  have B : Hid (Below w.heap.size w w) := Lib.hid (Below.refl w.heap.size w)
  have LV := Lib.hid (fun w' h => readLives_any w' h)
  obtain ⟨E0, hE0⟩ : ∃ T : ByteArray, T = ⟨(e3 n).toArray⟩ := ⟨_, rfl⟩
  have cv := fun w' => sv_conv n hn w' E0 hE0
  have TL := Lib.hid (fun w' => trimLeft0_any (e3 n) E0 hE0 w')
  clear hT hT10 hE0
  subst hm
  go_enter Tryz.func4, Tryz.ntmps4
  go_wp2_with (first
    | (go_at_call 18; (refine (C1.out _ HT.out H10.out).mono ?_); rintro r w1 ⟨rfl, hb⟩; replace HT := Lib.hid (HT.out.below hb); replace H10 := Lib.hid (H10.out.below hb); replace B := Lib.hid (bl_thru B.out (Nat.le_refl _) hb); clear hb)
    | (go_at_call 20; (refine (LV.out _ HT.out).mono ?_); rintro r w1 ⟨rfl, hb⟩; replace HT := Lib.hid (HT.out.below hb); replace H10 := Lib.hid (H10.out.below hb); replace B := Lib.hid (bl_thru B.out (Nat.le_refl _) hb); clear hb))
  all_goals first
    | (exfalso; omega)
    | (exfalso; exact hA (by omega) (by assumption))
    | (exfalso; simp_all; done)
    | skip
  go_at_call 21
  refine (TR.out _).mono ?_
  rintro r w1 ⟨rfl, hb⟩
  replace HT := Lib.hid (HT.out.below hb)
  replace H10 := Lib.hid (H10.out.below hb)
  replace B := Lib.hid (bl_thru B.out (Nat.le_refl _) hb)
  clear hb
  go_wp2_with (first
    | (go_at_call 20; (refine (LV.out _ HT.out).mono ?_); rintro r w1 ⟨rfl, hb⟩; replace HT := Lib.hid (HT.out.below hb); replace H10 := Lib.hid (H10.out.below hb); replace B := Lib.hid (bl_thru B.out (Nat.le_refl _) hb); clear hb)
    | (go_at_call 22; (refine (TL.out _).mono ?_); rintro r w1 ⟨rfl, rfl⟩))
  all_goals first
    | (exfalso; omega)
    | skip
  · go_ret
    exact ⟨rfl, B.out⟩
  go_loopw [15] (fun v wr => ∃ E, v = .string E ∧ Hid (PadR n E) ∧ Hid (Tab wr) ∧ Hid (Tab10 wr) ∧ Hid (Below w.heap.size w wr)) (fun v _ => 2 - sLen v)
  case atStart => exact ⟨_, rfl, Lib.hid ⟨0, rfl, Or.inl rfl⟩, Lib.hid (HT.out.below ((Below.refl _ _).alloc (Nat.le_refl _) _)), Lib.hid (H10.out.below ((Below.refl _ _).alloc (Nat.le_refl _) _)), Lib.hid (B.out.alloc B.out.size _)⟩
  case round =>
    clear HT H10 B
    obtain ⟨E, rfl, HE, HT, H10, B⟩ := hrel
    have zE := padR_size HE.out
    by_cases hsz : E.size < 2
    · go_wp2
      go_roundw
      case rel => exact ⟨_, rfl, Lib.hid (PadR.next HE.out hsz), HT, H10, B⟩
      case measure => exact padR_less hsz
    · go_wp2
      go_quiet (fail)
      replace B := Lib.hid (below_to_drewN (n := nq) B.out)
      replace HT := Lib.hid (HT.out.below (below_to_drewN (n := nq) (Below.refl _ _)))
      replace H10 := Lib.hid (H10.out.below (below_to_drewN (n := nq) (Below.refl _ _)))
      go_wp2_with (first
        | (go_at_call 21; exact HB))
      rw [hTT.out E HE.out (by omega)]
      go_wp2_with (first
        | (go_at_call 19; (refine (RN.out _ HT.out).mono ?_); rintro r w1 ⟨rfl, hb⟩; replace HT := Lib.hid (HT.out.below hb); replace H10 := Lib.hid (H10.out.below hb); replace B := Lib.hid (bl_thru B.out (Nat.le_refl _) hb); clear hb)
        | (go_at_call 18; (refine (C2.out _ HT.out H10.out).mono ?_); rintro r w1 ⟨rfl, hb⟩; replace HT := Lib.hid (HT.out.below hb); replace H10 := Lib.hid (H10.out.below hb); replace B := Lib.hid (bl_thru B.out (Nat.le_refl _) hb); clear hb)
        | (go_at_call 24; (refine (CY.out _).mono ?_); rintro r w1 ⟨rfl, rfl⟩)
        | (go_at_call 23; ((with_reducible refine (okb2 _ _ _ _ (by simp)).mono ?_); rintro r w1 ⟨rfl, hb⟩; replace HT := Lib.hid (HT.out.below hb); replace H10 := Lib.hid (H10.out.below hb); replace B := Lib.hid (bl_thru B.out (Nat.le_refl _) hb); clear hb)))
      all_goals first
        | (go_ret; exact ⟨rfl, B.out⟩; done)
        | (go_ret; refine ⟨?_, B.out⟩; simp_all [ok2]; done)
        | (exfalso; simp_all [ok2]; done)
        | trace_state
set_option maxRecDepth 100000 in
set_option maxHeartbeats 4000000 in
theorem sv_goodp0 (x : Int) (n : Nat) (hn : n ≤ 290) (D S1 : ByteArray) (l1 c1 : Bool) (m : Nat) (zD : D.size = m) (hm : m = 15) (hA : ∀ h : 0 < D.size, ¬ (((D[0]'h).toNat : Nat) : Int) = 48) (w : World) (hT : Tab w) (hT10 : Tab10 w)
    (C1 : Hid (∀ w' : World, Tab w' → Tab10 w' → Calls Tryz.prog 18 #[.int .u64 x, .int .i64 17, .int .i64 0] w' fun e w2 => e = .returned (.tuple #[.string S1, .bool l1, .int .i64 0]) ∧ Below w'.heap.size w' w2))
    (R1 : Hid (∀ w' : World, Tab w' → Calls Tryz.prog 19 #[.string S1, .int .i64 0] w' fun e w2 => e = .returned (.tuple #[.int .u64 x, .bool c1, .int .i64 0]) ∧ Below w'.heap.size w' w2))
    (TT S2 : ByteArray) (y c : Int) (l2 c2 : Bool) (hTT : Hid (∀ E, PadR n E → 2 ≤ E.size → D.extract 0 1 ++ ⟨#[46]⟩ ++ D.extract 1 15 ++ ⟨#[101]⟩ ++ ⟨#[43]⟩ ++ E = TT)) (hfin : (c == 3) = true → (S2.toList == TT.toList) = true)
    (RN : Hid (∀ w' : World, Tab w' → Calls Tryz.prog 19 #[.string TT, .int .i64 0] w' fun e w2 => e = .returned (.tuple #[.int .u64 y, .bool c2, .int .i64 0]) ∧ Below w'.heap.size w' w2))
    (C2 : Hid (∀ w' : World, Tab w' → Tab10 w' → Calls Tryz.prog 18 #[.int .u64 y, .int .i64 15, .int .i64 0] w' fun e w2 => e = .returned (.tuple #[.string S2, .bool l2, .int .i64 0]) ∧ Below w'.heap.size w' w2))
    (CY : Hid (∀ w' : World, Calls Tryz.prog 24 #[.int .u64 y] w' fun e w2 => e = .returned (.int .i64 c) ∧ w' = w2))
    (TR : Hid (∀ w' : World, Calls Tryz.prog 21 #[.string D, .string ⟨#[48, 49, 50, 51, 52, 53, 54, 55, 56, 57]⟩] w' fun e w2 => e = .returned (.string ⟨#[]⟩) ∧ Below w'.heap.size w' w2)) :
    Calls Tryz.prog 4 #[.int .u64 x, .string D, .int .i64 (n : Int)] w fun e w' => e = .returned (.bool true) ∧ Below w.heap.size w w' := by
  have HT := Lib.hid hT
  have H10 := Lib.hid hT10
  have B : Hid (Below w.heap.size w w) := Lib.hid (Below.refl w.heap.size w)
  have LV := Lib.hid (fun w' h => readLives_any w' h)
  obtain ⟨E0, hE0⟩ : ∃ T : ByteArray, T = ⟨(e3 n).toArray⟩ := ⟨_, rfl⟩
  have cv := fun w' => sv_conv n hn w' E0 hE0
  have TL := Lib.hid (fun w' => trimLeft0_any (e3 n) E0 hE0 w')
  clear hT hT10 hE0
  subst hm
  go_enter Tryz.func4, Tryz.ntmps4
  go_wp2_with (first
    | (go_at_call 19; (refine (R1.out _ HT.out).mono ?_); rintro r w1 ⟨rfl, hb⟩; replace HT := Lib.hid (HT.out.below hb); replace H10 := Lib.hid (H10.out.below hb); replace B := Lib.hid (bl_thru B.out (Nat.le_refl _) hb); clear hb)
    | (go_at_call 18; (refine (C1.out _ HT.out H10.out).mono ?_); rintro r w1 ⟨rfl, hb⟩; replace HT := Lib.hid (HT.out.below hb); replace H10 := Lib.hid (H10.out.below hb); replace B := Lib.hid (bl_thru B.out (Nat.le_refl _) hb); clear hb)
    | (go_at_call 20; (refine (LV.out _ HT.out).mono ?_); rintro r w1 ⟨rfl, hb⟩; replace HT := Lib.hid (HT.out.below hb); replace H10 := Lib.hid (H10.out.below hb); replace B := Lib.hid (bl_thru B.out (Nat.le_refl _) hb); clear hb))
  all_goals first
    | (exfalso; omega)
    | (exfalso; exact hA (by omega) (by assumption))
    | (exfalso; simp_all; done)
    | skip
  go_at_call 21
  refine (TR.out _).mono ?_
  rintro r w1 ⟨rfl, hb⟩
  replace HT := Lib.hid (HT.out.below hb)
  replace H10 := Lib.hid (H10.out.below hb)
  replace B := Lib.hid (bl_thru B.out (Nat.le_refl _) hb)
  clear hb
  go_wp2_with (first
    | (go_at_call 20; (refine (LV.out _ HT.out).mono ?_); rintro r w1 ⟨rfl, hb⟩; replace HT := Lib.hid (HT.out.below hb); replace H10 := Lib.hid (H10.out.below hb); replace B := Lib.hid (bl_thru B.out (Nat.le_refl _) hb); clear hb)
    | (go_at_call 22; (refine (TL.out _).mono ?_); rintro r w1 ⟨rfl, rfl⟩))
  all_goals first
    | (exfalso; omega)
    | skip
  · go_ret
    exact ⟨rfl, B.out⟩
  go_loopw [15] (fun v wr => ∃ E, v = .string E ∧ Hid (PadR n E) ∧ Hid (Tab wr) ∧ Hid (Tab10 wr) ∧ Hid (Below w.heap.size w wr)) (fun v _ => 2 - sLen v)
  case atStart => exact ⟨_, rfl, Lib.hid ⟨0, rfl, Or.inl rfl⟩, Lib.hid (HT.out.below ((Below.refl _ _).alloc (Nat.le_refl _) _)), Lib.hid (H10.out.below ((Below.refl _ _).alloc (Nat.le_refl _) _)), Lib.hid (B.out.alloc B.out.size _)⟩
  case round =>
    clear HT H10 B
    obtain ⟨E, rfl, HE, HT, H10, B⟩ := hrel
    have zE := padR_size HE.out
    by_cases hsz : E.size < 2
    · go_wp2
      go_roundw
      case rel => exact ⟨_, rfl, Lib.hid (PadR.next HE.out hsz), HT, H10, B⟩
      case measure => exact padR_less hsz
    · go_wp2
      go_quiet (fail)
      replace B := Lib.hid (below_to_drewN (n := nq) B.out)
      replace HT := Lib.hid (HT.out.below (below_to_drewN (n := nq) (Below.refl _ _)))
      replace H10 := Lib.hid (H10.out.below (below_to_drewN (n := nq) (Below.refl _ _)))
      go_wp2_with (first
        | (go_at_call 21; exact HB))
      rw [hTT.out E HE.out (by omega)]
      go_wp2_with (first
        | (go_at_call 19; (refine (RN.out _ HT.out).mono ?_); rintro r w1 ⟨rfl, hb⟩; replace HT := Lib.hid (HT.out.below hb); replace H10 := Lib.hid (H10.out.below hb); replace B := Lib.hid (bl_thru B.out (Nat.le_refl _) hb); clear hb)
        | (go_at_call 18; (refine (C2.out _ HT.out H10.out).mono ?_); rintro r w1 ⟨rfl, hb⟩; replace HT := Lib.hid (HT.out.below hb); replace H10 := Lib.hid (H10.out.below hb); replace B := Lib.hid (bl_thru B.out (Nat.le_refl _) hb); clear hb)
        | (go_at_call 24; (refine (CY.out _).mono ?_); rintro r w1 ⟨rfl, rfl⟩)
        | (go_at_call 23; ((with_reducible refine (okb2 _ _ _ _ (by simp)).mono ?_); rintro r w1 ⟨rfl, hb⟩; replace HT := Lib.hid (HT.out.below hb); replace H10 := Lib.hid (H10.out.below hb); replace B := Lib.hid (bl_thru B.out (Nat.le_refl _) hb); clear hb)))
      all_goals first
        | (go_ret; exact ⟨rfl, B.out⟩; done)
        | (go_ret; refine ⟨?_, B.out⟩; simp_all [ok2]; done)
        | (exfalso; simp_all [ok2]; done)
        | trace_state
set_option maxRecDepth 100000 in
set_option maxHeartbeats 4000000 in
theorem sv_goodn (x : Int) (n : Nat) (hn : n ≤ 290) (hn1 : 1 ≤ n) (D S1 : ByteArray) (l1 c1 : Bool) (m : Nat) (zD : D.size = m) (hm : m = 15) (hA : ∀ h : 0 < D.size, ¬ (((D[0]'h).toNat : Nat) : Int) = 48) (w : World) (hT : Tab w) (hT10 : Tab10 w)
    (C1 : Hid (∀ w' : World, Tab w' → Tab10 w' → Calls Tryz.prog 18 #[.int .u64 x, .int .i64 17, .int .i64 0] w' fun e w2 => e = .returned (.tuple #[.string S1, .bool l1, .int .i64 4]) ∧ Below w'.heap.size w' w2))
    (TT S2 : ByteArray) (y c : Int) (l2 c2 : Bool) (hTT : Hid (∀ E, PadR n E → 2 ≤ E.size → D.extract 0 1 ++ ⟨#[46]⟩ ++ D.extract 1 15 ++ ⟨#[101]⟩ ++ ⟨#[45]⟩ ++ E = TT)) (hfin : (c == 3) = true → (S2.toList == TT.toList) = true)
    (RN : Hid (∀ w' : World, Tab w' → Calls Tryz.prog 19 #[.string TT, .int .i64 0] w' fun e w2 => e = .returned (.tuple #[.int .u64 y, .bool c2, .int .i64 0]) ∧ Below w'.heap.size w' w2))
    (C2 : Hid (∀ w' : World, Tab w' → Tab10 w' → Calls Tryz.prog 18 #[.int .u64 y, .int .i64 15, .int .i64 0] w' fun e w2 => e = .returned (.tuple #[.string S2, .bool l2, .int .i64 0]) ∧ Below w'.heap.size w' w2))
    (CY : Hid (∀ w' : World, Calls Tryz.prog 24 #[.int .u64 y] w' fun e w2 => e = .returned (.int .i64 c) ∧ w' = w2))
    (TR : Hid (∀ w' : World, Calls Tryz.prog 21 #[.string D, .string ⟨#[48, 49, 50, 51, 52, 53, 54, 55, 56, 57]⟩] w' fun e w2 => e = .returned (.string ⟨#[]⟩) ∧ Below w'.heap.size w' w2)) :
    Calls Tryz.prog 4 #[.int .u64 x, .string D, .int .i64 (-(n : Int))] w fun e w' => e = .returned (.bool true) ∧ Below w.heap.size w w' := by
  have HT := Lib.hid hT
  have H10 := Lib.hid hT10
  have B : Hid (Below w.heap.size w w) := Lib.hid (Below.refl w.heap.size w)
  have LV := Lib.hid (fun w' h => readLives_any w' h)
  obtain ⟨E0, hE0⟩ : ∃ T : ByteArray, T = ⟨(e3 n).toArray⟩ := ⟨_, rfl⟩
  have cv := fun w' => sv_conv n hn w' E0 hE0
  have TL := Lib.hid (fun w' => trimLeft0_any (e3 n) E0 hE0 w')
  clear hT hT10 hE0
  subst hm
  go_enter Tryz.func4, Tryz.ntmps4
  go_wp2_with (first
    | (go_at_call 18; (refine (C1.out _ HT.out H10.out).mono ?_); rintro r w1 ⟨rfl, hb⟩; replace HT := Lib.hid (HT.out.below hb); replace H10 := Lib.hid (H10.out.below hb); replace B := Lib.hid (bl_thru B.out (Nat.le_refl _) hb); clear hb)
    | (go_at_call 20; (refine (LV.out _ HT.out).mono ?_); rintro r w1 ⟨rfl, hb⟩; replace HT := Lib.hid (HT.out.below hb); replace H10 := Lib.hid (H10.out.below hb); replace B := Lib.hid (bl_thru B.out (Nat.le_refl _) hb); clear hb))
  all_goals first
    | (exfalso; omega)
    | (exfalso; exact hA (by omega) (by assumption))
    | (exfalso; simp_all; done)
    | skip
  go_at_call 21
  refine (TR.out _).mono ?_
  rintro r w1 ⟨rfl, hb⟩
  replace HT := Lib.hid (HT.out.below hb)
  replace H10 := Lib.hid (H10.out.below hb)
  replace B := Lib.hid (bl_thru B.out (Nat.le_refl _) hb)
  clear hb
  go_wp2_with (first
    | (go_at_call 20; (refine (LV.out _ HT.out).mono ?_); rintro r w1 ⟨rfl, hb⟩; replace HT := Lib.hid (HT.out.below hb); replace H10 := Lib.hid (H10.out.below hb); replace B := Lib.hid (bl_thru B.out (Nat.le_refl _) hb); clear hb)
    | (go_at_call 22; (refine (TL.out _).mono ?_); rintro r w1 ⟨rfl, rfl⟩))
  all_goals first
    | (exfalso; omega)
    | skip
  · go_ret
    exact ⟨rfl, B.out⟩
  go_loopw [15] (fun v wr => ∃ E, v = .string E ∧ Hid (PadR n E) ∧ Hid (Tab wr) ∧ Hid (Tab10 wr) ∧ Hid (Below w.heap.size w wr)) (fun v _ => 2 - sLen v)
  case atStart => exact ⟨_, rfl, Lib.hid ⟨0, rfl, Or.inl rfl⟩, Lib.hid (HT.out.below ((Below.refl _ _).alloc (Nat.le_refl _) _)), Lib.hid (H10.out.below ((Below.refl _ _).alloc (Nat.le_refl _) _)), Lib.hid (B.out.alloc B.out.size _)⟩
  case round =>
    clear HT H10 B
    obtain ⟨E, rfl, HE, HT, H10, B⟩ := hrel
    have zE := padR_size HE.out
    by_cases hsz : E.size < 2
    · go_wp2
      go_roundw
      case rel => exact ⟨_, rfl, Lib.hid (PadR.next HE.out hsz), HT, H10, B⟩
      case measure => exact padR_less hsz
    · go_wp2
      go_quiet (fail)
      replace B := Lib.hid (below_to_drewN (n := nq) B.out)
      replace HT := Lib.hid (HT.out.below (below_to_drewN (n := nq) (Below.refl _ _)))
      replace H10 := Lib.hid (H10.out.below (below_to_drewN (n := nq) (Below.refl _ _)))
      go_wp2_with (first
        | (go_at_call 21; exact HB))
      rw [hTT.out E HE.out (by omega)]
      go_wp2_with (first
        | (go_at_call 19; (refine (RN.out _ HT.out).mono ?_); rintro r w1 ⟨rfl, hb⟩; replace HT := Lib.hid (HT.out.below hb); replace H10 := Lib.hid (H10.out.below hb); replace B := Lib.hid (bl_thru B.out (Nat.le_refl _) hb); clear hb)
        | (go_at_call 18; (refine (C2.out _ HT.out H10.out).mono ?_); rintro r w1 ⟨rfl, hb⟩; replace HT := Lib.hid (HT.out.below hb); replace H10 := Lib.hid (H10.out.below hb); replace B := Lib.hid (bl_thru B.out (Nat.le_refl _) hb); clear hb)
        | (go_at_call 24; (refine (CY.out _).mono ?_); rintro r w1 ⟨rfl, rfl⟩)
        | (go_at_call 23; ((with_reducible refine (okb2 _ _ _ _ (by simp)).mono ?_); rintro r w1 ⟨rfl, hb⟩; replace HT := Lib.hid (HT.out.below hb); replace H10 := Lib.hid (H10.out.below hb); replace B := Lib.hid (bl_thru B.out (Nat.le_refl _) hb); clear hb)))
      all_goals first
        | (go_ret; exact ⟨rfl, B.out⟩; done)
        | (go_ret; refine ⟨?_, B.out⟩; simp_all [ok2]; done)
        | (exfalso; simp_all [ok2]; done)
        | trace_state
set_option maxRecDepth 100000 in
set_option maxHeartbeats 4000000 in
theorem sv_goodn0 (x : Int) (n : Nat) (hn : n ≤ 290) (hn1 : 1 ≤ n) (D S1 : ByteArray) (l1 c1 : Bool) (m : Nat) (zD : D.size = m) (hm : m = 15) (hA : ∀ h : 0 < D.size, ¬ (((D[0]'h).toNat : Nat) : Int) = 48) (w : World) (hT : Tab w) (hT10 : Tab10 w)
    (C1 : Hid (∀ w' : World, Tab w' → Tab10 w' → Calls Tryz.prog 18 #[.int .u64 x, .int .i64 17, .int .i64 0] w' fun e w2 => e = .returned (.tuple #[.string S1, .bool l1, .int .i64 0]) ∧ Below w'.heap.size w' w2))
    (R1 : Hid (∀ w' : World, Tab w' → Calls Tryz.prog 19 #[.string S1, .int .i64 0] w' fun e w2 => e = .returned (.tuple #[.int .u64 x, .bool c1, .int .i64 0]) ∧ Below w'.heap.size w' w2))
    (TT S2 : ByteArray) (y c : Int) (l2 c2 : Bool) (hTT : Hid (∀ E, PadR n E → 2 ≤ E.size → D.extract 0 1 ++ ⟨#[46]⟩ ++ D.extract 1 15 ++ ⟨#[101]⟩ ++ ⟨#[45]⟩ ++ E = TT)) (hfin : (c == 3) = true → (S2.toList == TT.toList) = true)
    (RN : Hid (∀ w' : World, Tab w' → Calls Tryz.prog 19 #[.string TT, .int .i64 0] w' fun e w2 => e = .returned (.tuple #[.int .u64 y, .bool c2, .int .i64 0]) ∧ Below w'.heap.size w' w2))
    (C2 : Hid (∀ w' : World, Tab w' → Tab10 w' → Calls Tryz.prog 18 #[.int .u64 y, .int .i64 15, .int .i64 0] w' fun e w2 => e = .returned (.tuple #[.string S2, .bool l2, .int .i64 0]) ∧ Below w'.heap.size w' w2))
    (CY : Hid (∀ w' : World, Calls Tryz.prog 24 #[.int .u64 y] w' fun e w2 => e = .returned (.int .i64 c) ∧ w' = w2))
    (TR : Hid (∀ w' : World, Calls Tryz.prog 21 #[.string D, .string ⟨#[48, 49, 50, 51, 52, 53, 54, 55, 56, 57]⟩] w' fun e w2 => e = .returned (.string ⟨#[]⟩) ∧ Below w'.heap.size w' w2)) :
    Calls Tryz.prog 4 #[.int .u64 x, .string D, .int .i64 (-(n : Int))] w fun e w' => e = .returned (.bool true) ∧ Below w.heap.size w w' := by
  have HT := Lib.hid hT
  have H10 := Lib.hid hT10
  have B : Hid (Below w.heap.size w w) := Lib.hid (Below.refl w.heap.size w)
  have LV := Lib.hid (fun w' h => readLives_any w' h)
  obtain ⟨E0, hE0⟩ : ∃ T : ByteArray, T = ⟨(e3 n).toArray⟩ := ⟨_, rfl⟩
  have cv := fun w' => sv_conv n hn w' E0 hE0
  have TL := Lib.hid (fun w' => trimLeft0_any (e3 n) E0 hE0 w')
  clear hT hT10 hE0
  subst hm
  go_enter Tryz.func4, Tryz.ntmps4
  go_wp2_with (first
    | (go_at_call 19; (refine (R1.out _ HT.out).mono ?_); rintro r w1 ⟨rfl, hb⟩; replace HT := Lib.hid (HT.out.below hb); replace H10 := Lib.hid (H10.out.below hb); replace B := Lib.hid (bl_thru B.out (Nat.le_refl _) hb); clear hb)
    | (go_at_call 18; (refine (C1.out _ HT.out H10.out).mono ?_); rintro r w1 ⟨rfl, hb⟩; replace HT := Lib.hid (HT.out.below hb); replace H10 := Lib.hid (H10.out.below hb); replace B := Lib.hid (bl_thru B.out (Nat.le_refl _) hb); clear hb)
    | (go_at_call 20; (refine (LV.out _ HT.out).mono ?_); rintro r w1 ⟨rfl, hb⟩; replace HT := Lib.hid (HT.out.below hb); replace H10 := Lib.hid (H10.out.below hb); replace B := Lib.hid (bl_thru B.out (Nat.le_refl _) hb); clear hb))
  all_goals first
    | (exfalso; omega)
    | (exfalso; exact hA (by omega) (by assumption))
    | (exfalso; simp_all; done)
    | skip
  go_at_call 21
  refine (TR.out _).mono ?_
  rintro r w1 ⟨rfl, hb⟩
  replace HT := Lib.hid (HT.out.below hb)
  replace H10 := Lib.hid (H10.out.below hb)
  replace B := Lib.hid (bl_thru B.out (Nat.le_refl _) hb)
  clear hb
  go_wp2_with (first
    | (go_at_call 20; (refine (LV.out _ HT.out).mono ?_); rintro r w1 ⟨rfl, hb⟩; replace HT := Lib.hid (HT.out.below hb); replace H10 := Lib.hid (H10.out.below hb); replace B := Lib.hid (bl_thru B.out (Nat.le_refl _) hb); clear hb)
    | (go_at_call 22; (refine (TL.out _).mono ?_); rintro r w1 ⟨rfl, rfl⟩))
  all_goals first
    | (exfalso; omega)
    | skip
  · go_ret
    exact ⟨rfl, B.out⟩
  go_loopw [15] (fun v wr => ∃ E, v = .string E ∧ Hid (PadR n E) ∧ Hid (Tab wr) ∧ Hid (Tab10 wr) ∧ Hid (Below w.heap.size w wr)) (fun v _ => 2 - sLen v)
  case atStart => exact ⟨_, rfl, Lib.hid ⟨0, rfl, Or.inl rfl⟩, Lib.hid (HT.out.below ((Below.refl _ _).alloc (Nat.le_refl _) _)), Lib.hid (H10.out.below ((Below.refl _ _).alloc (Nat.le_refl _) _)), Lib.hid (B.out.alloc B.out.size _)⟩
  case round =>
    clear HT H10 B
    obtain ⟨E, rfl, HE, HT, H10, B⟩ := hrel
    have zE := padR_size HE.out
    by_cases hsz : E.size < 2
    · go_wp2
      go_roundw
      case rel => exact ⟨_, rfl, Lib.hid (PadR.next HE.out hsz), HT, H10, B⟩
      case measure => exact padR_less hsz
    · go_wp2
      go_quiet (fail)
      replace B := Lib.hid (below_to_drewN (n := nq) B.out)
      replace HT := Lib.hid (HT.out.below (below_to_drewN (n := nq) (Below.refl _ _)))
      replace H10 := Lib.hid (H10.out.below (below_to_drewN (n := nq) (Below.refl _ _)))
      go_wp2_with (first
        | (go_at_call 21; exact HB))
      rw [hTT.out E HE.out (by omega)]
      go_wp2_with (first
        | (go_at_call 19; (refine (RN.out _ HT.out).mono ?_); rintro r w1 ⟨rfl, hb⟩; replace HT := Lib.hid (HT.out.below hb); replace H10 := Lib.hid (H10.out.below hb); replace B := Lib.hid (bl_thru B.out (Nat.le_refl _) hb); clear hb)
        | (go_at_call 18; (refine (C2.out _ HT.out H10.out).mono ?_); rintro r w1 ⟨rfl, hb⟩; replace HT := Lib.hid (HT.out.below hb); replace H10 := Lib.hid (H10.out.below hb); replace B := Lib.hid (bl_thru B.out (Nat.le_refl _) hb); clear hb)
        | (go_at_call 24; (refine (CY.out _).mono ?_); rintro r w1 ⟨rfl, rfl⟩)
        | (go_at_call 23; ((with_reducible refine (okb2 _ _ _ _ (by simp)).mono ?_); rintro r w1 ⟨rfl, hb⟩; replace HT := Lib.hid (HT.out.below hb); replace H10 := Lib.hid (H10.out.below hb); replace B := Lib.hid (bl_thru B.out (Nat.le_refl _) hb); clear hb)))
      all_goals first
        | (go_ret; exact ⟨rfl, B.out⟩; done)
        | (go_ret; refine ⟨?_, B.out⟩; simp_all [ok2]; done)
        | (exfalso; simp_all [ok2]; done)
        | trace_state
end Go.Proofs.YtmpdbmaokbhcjaaGreatDoor

/-
  THE WALK of the law ReadSeventeen, joined.
-/
namespace Go.Proofs.YtmpdbmaokbhcjaaGreatDoor
open Go.RowKit Nt Fm Fl

theorem padR_end {n : Nat} (hn : n ≤ 290) {E : ByteArray} (h : PadR n E) (hz : 2 ≤ E.size) : E = ⟨((if n < 10 then [48] else []) ++ Lib.decDigits n).toArray⟩ := by
  obtain ⟨j, rfl, hj⟩ := h
  have h1 : (⟨(List.replicate j 48 ++ Lib.trimLeftB (e3 n) 48).toArray⟩ : ByteArray).size = j + (Lib.trimLeftB (e3 n) 48).length := by
    show (List.replicate j (48 : UInt8) ++ Lib.trimLeftB (e3 n) 48).toArray.size = _
    simp
  have h2 : j = 2 - (Lib.trimLeftB (e3 n) 48).length := by omega
  rw [h2, exp_text hn]
theorem tt_eq {d : List UInt8} (hl : d.length = 15) {k : Int} {n : Nat} (hk : k.natAbs = n) {c : UInt8} (hc : c = if k < 0 then 45 else 43) : (⟨d.toArray⟩ : ByteArray).extract 0 1 ++ ⟨#[46]⟩ ++ (⟨d.toArray⟩ : ByteArray).extract 1 15 ++ ⟨#[101]⟩ ++ ⟨#[c]⟩ ++ ⟨((if n < 10 then [48] else []) ++ Lib.decDigits n).toArray⟩ = ⟨(fT d k).toArray⟩ := by
  subst hk hc
  apply ByteArray.ext
  unfold fT pwS
  simp [ByteArray.data_extract]
  exact List.take_of_length_le (by simp; omega)
theorem sle_trim {d : List UInt8} (h : ∀ c ∈ d, dgt c) : Lib.trimS d decCs = [] := by
  have hd : ∀ m : List UInt8, (∀ c ∈ m, dgt c) → m.dropWhile (decCs.contains ·) = [] := by
    intro m
    induction m with
    | nil => intro _; rfl
    | cons c m ih =>
      intro hm
      rw [List.dropWhile_cons, if_pos (dec_has (hm c (List.mem_cons_self ..)))]
      exact ih (fun e he => hm e (List.mem_cons_of_mem _ he))
  unfold Lib.trimS Lib.trimLeftS Lib.trimRightS
  rw [hd d.reverse (fun c hc => h c (List.mem_reverse.1 hc))]
  rfl
theorem trim_nil {l cs : List UInt8} (h : Lib.trimS l cs = []) : ∀ c ∈ l, cs.contains c = true := by
  have hdw : ∀ m : List UInt8, m.dropWhile (cs.contains ·) = [] → ∀ c ∈ m, cs.contains c = true := by
    intro m hm c hc
    rw [← List.takeWhile_append_dropWhile (p := (cs.contains ·)) (l := m), hm, List.append_nil] at hc
    exact takeW_mem hc
  have h1 := hdw _ h
  intro c hc
  rw [← List.mem_reverse, ← List.takeWhile_append_dropWhile (p := (cs.contains ·)) (l := l.reverse)] at hc
  rcases List.mem_append.1 hc with hc | hc
  · exact takeW_mem hc
  · exact h1 c (List.mem_reverse.2 hc)
theorem has_dgt {c : UInt8} (h : decCs.contains c = true) : dgt c := by
  have hm : c ∈ decCs := by simpa using h
  simp [decCs] at hm
  rcases hm with rfl | rfl | rfl | rfl | rfl | rfl | rfl | rfl | rfl | rfl <;> exact ⟨by decide, by decide⟩
theorem trimS_len (l cs : List UInt8) : (Lib.trimS l cs).length ≤ l.length := by
  unfold Lib.trimS Lib.trimLeftS Lib.trimRightS
  have h1 := (List.dropWhile_sublist (cs.contains ·) (l := (l.reverse.dropWhile (cs.contains ·)).reverse)).length_le
  have h2 := (List.dropWhile_sublist (cs.contains ·) (l := l.reverse)).length_le
  simp at h1 h2 ⊢
  omega
theorem walkReadSeventeen (x : Int) (x0 : 0 ≤ x) (x1 : x ≤ 18446744073709551615) (D : ByteArray) (k : Int) (k0 : -9223372036854775808 ≤ k) (k1 : k ≤ 9223372036854775807) (w : World) (hT : Tab w) (hT10 : Tab10 w) (zD : D.size ≤ 140737488355328) :
    Calls Tryz.prog 4 #[.int .u64 x, .string D, .int .i64 k] w fun e w' => e = .returned (.bool true) ∧ Below w.heap.size w w' := by
  obtain ⟨d, hd⟩ : ∃ d, d = D.data.toList := ⟨_, rfl⟩
  have hD : D = ⟨d.toArray⟩ := by rw [hd]
  have zd : D.size = d.length := by rw [hD]; rfl
  have C1 := Lib.hid (fun w' h1 h2 => sci_any x 17 0 x0 x1 w' h1 h2)
  unfold RetSBE at C1
  have he : scE x 17 0 = 0 ∨ scE x 17 0 = 4 := by
    unfold scE
    by_cases hv : hasV x = true
    · left; rw [if_pos hv, if_pos ⟨by omega, by omega, by omega⟩]
    · right; rw [if_neg hv]
  obtain ⟨S1, hS1⟩ : ∃ T : ByteArray, T = ⟨(scS x 17 0).toArray⟩ := ⟨_, rfl⟩
  rw [← hS1] at C1
  have R1 : scE x 17 0 = 0 → Hid (∀ w' : World, Tab w' → Calls Tryz.prog 19 #[.string S1, .int .i64 0] w' fun e w2 => e = .returned (.tuple #[.int .u64 x, .bool (readC (scT x 17 0) 0), .int .i64 0]) ∧ Below w'.heap.size w' w2) := by
    intro h
    have hv : hasV x = true := by
      cases g : hasV x
      · unfold scE at h; rw [g] at h; exact absurd h (by decide)
      · rfl
    have s1 : scS x 17 0 = scT x 17 0 := by unfold scS; rw [if_pos h]; rfl
    obtain ⟨r1, r2⟩ := sv_back x0 x1 hv
    have RN := Lib.hid (fun w' h => rnumber_any (scT x 17 0) S1 (by rw [hS1, s1]) 0 w' h)
    unfold RetUBE at RN
    rw [r1, r2] at RN
    exact RN
  generalize scE x 17 0 = er at *
  by_cases hm : d.length = 15
  · have TR := Lib.hid (fun w' => trim_any D decCs (by decide) (by decide) w' (by omega))
    rw [show D.data.toList = d from hd.symm] at TR
    by_cases hb : Lib.trimS d decCs = [] ∧ (∀ c l, d = c :: l → c ≠ 48) ∧ -290 ≤ k ∧ k ≤ 290
    · obtain ⟨b1, b2, b3, b4⟩ := hb
      have hdg : ∀ c ∈ d, dgt c := fun c hc => has_dgt (trim_nil b1 c hc)
      obtain ⟨c, l, hcd⟩ : ∃ c l, d = c :: l := by
        cases h : d with
        | nil => rw [h] at hm; simp at hm
        | cons c l => exact ⟨c, l, rfl⟩
      have h48 := b2 c l hcd
      obtain ⟨f1, f2, f3, f4, f5, f6⟩ := fifteen_text hdg hm hcd h48 (k := k) b3 b4
      rw [b1] at TR
      obtain ⟨TT, hTT⟩ : ∃ T : ByteArray, T = ⟨(fT d k).toArray⟩ := ⟨_, rfl⟩
      have RN := Lib.hid (fun w' h => rnumber_any (fT d k) TT hTT 0 w' h)
      unfold RetUBE at RN
      rw [f1] at RN
      generalize readV (fT d k) 0 = y at *
      have C2 := Lib.hid (fun w' h1 h2 => sci_any y 15 0 f3 f4 w' h1 h2)
      unfold RetSBE at C2
      have z2 : scE y 15 0 = 0 := by unfold scE; rw [if_pos f5, if_pos ⟨by omega, by omega, by omega⟩]
      have s2 : scS y 15 0 = scT y 15 0 := by unfold scS; rw [if_pos z2]; rfl
      rw [z2, s2] at C2
      have CY := Lib.hid (fun w' => class_any y f3 f4 w')
      have hfin : (fcls y == 3) = true → ((⟨(scT y 15 0).toArray⟩ : ByteArray).toList == TT.toList) = true := fun h => by
        rw [beq_iff_eq] at h
        rw [f6 h, hTT]
        simp
      have hA : ∀ h : 0 < D.size, ¬ (((D[0]'h).toNat : Nat) : Int) = 48 := by
        intro h hh
        have e0 : ∀ (D : ByteArray) (h : 0 < D.size), D = ⟨(c :: l).toArray⟩ → D[0]'h = c := by
          intro D h e
          subst e
          rfl
        rw [e0 D h (by rw [hD, hcd])] at hh
        exact h48 (UInt8.toNat_inj.1 (by have : (48 : UInt8).toNat = 48 := rfl; omega))
      obtain ⟨n, hn⟩ : ∃ n, n = k.natAbs := ⟨_, rfl⟩
      by_cases hk : k < 0
      · have hT2 : Hid (∀ E, PadR n E → 2 ≤ E.size → D.extract 0 1 ++ ⟨#[46]⟩ ++ D.extract 1 15 ++ ⟨#[101]⟩ ++ ⟨#[45]⟩ ++ E = TT) := Lib.hid (fun E h1 h2 => by
          rw [padR_end (by omega) h1 h2, hD, hTT]
          exact tt_eq hm hn.symm (by rw [if_pos hk]))
        obtain rfl : k = -(n : Int) := by omega
        rcases he with rfl | rfl
        · exact sv_goodn0 x n (by omega) (by omega) D S1 _ _ 15 (by omega) rfl hA w hT hT10 C1 (R1 rfl) TT _ y _ _ _ hT2 hfin RN C2 CY TR
        · exact sv_goodn x n (by omega) (by omega) D S1 _ true 15 (by omega) rfl hA w hT hT10 C1 TT _ y _ _ _ hT2 hfin RN C2 CY TR
      · have hT2 : Hid (∀ E, PadR n E → 2 ≤ E.size → D.extract 0 1 ++ ⟨#[46]⟩ ++ D.extract 1 15 ++ ⟨#[101]⟩ ++ ⟨#[43]⟩ ++ E = TT) := Lib.hid (fun E h1 h2 => by
          rw [padR_end (by omega) h1 h2, hD, hTT]
          exact tt_eq hm hn.symm (by rw [if_neg hk]))
        obtain rfl : k = (n : Int) := by omega
        rcases he with rfl | rfl
        · exact sv_goodp0 x n (by omega) D S1 _ _ 15 (by omega) rfl hA w hT hT10 C1 (R1 rfl) TT _ y _ _ _ hT2 hfin RN C2 CY TR
        · exact sv_goodp x n (by omega) D S1 _ true 15 (by omega) rfl hA w hT hT10 C1 TT _ y _ _ _ hT2 hfin RN C2 CY TR
    · refine sv_bad x k D S1 _ _ _ er he 15 (by omega) rfl (by have := trimS_len d decCs; show (Lib.trimS d decCs).toArray.size ≤ _; simp; omega) (Lib.hid ⟨trivial, trivial, ?_⟩) w hT hT10 C1 TR R1
      by_cases g1 : Lib.trimS d decCs = []
      · by_cases g2 : ∀ c l, d = c :: l → c ≠ 48
        · by_cases g3 : k < -290
          · exact Or.inr (Or.inr (Or.inl g3))
          · exact Or.inr (Or.inr (Or.inr (Int.not_le.1 fun g4 => hb ⟨g1, g2, by omega, g4⟩)))
        · right; left
          intro h
          cases hcd : d with
          | nil => rw [hcd] at hm; simp at hm
          | cons c l =>
            have h48 : c = 48 := Decidable.byContradiction fun g => g2 fun c' l' e => by
              rw [hcd] at e
              rw [← (List.cons.inj e).1]
              exact g
            have e0 : ∀ (D : ByteArray) (h : 0 < D.size), D = ⟨(c :: l).toArray⟩ → D[0]'h = c := by
              intro D h e
              subst e
              rfl
            rw [e0 D h (by rw [hD, hcd]), h48]
            rfl
      · left
        rw [ByteArray.toList_eq]
        cases hq : Lib.trimS d decCs with
        | nil => exact absurd hq g1
        | cons a b => simp
  · exact sv_size x k D S1 _ _ er he (by rw [bne_iff_ne]; omega) zD w hT hT10 C1 R1
end Go.Proofs.YtmpdbmaokbhcjaaGreatDoor
