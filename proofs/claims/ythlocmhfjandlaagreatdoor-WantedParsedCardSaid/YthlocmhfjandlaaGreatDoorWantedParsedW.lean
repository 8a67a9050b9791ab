/-
  THE WALK of ulpkeep.WantedParsed.
-/
import Derived.Test.YthlocmhfjandlaaGreatDoorWpt
set_option linter.unusedVariables false
set_option linter.unusedSimpArgs false
namespace Go.Proofs.YthlocmhfjandlaaGreatDoor
open Go.RowKit Go.Lib Nt Fm Fl

def iNt : Value → Nat
  | .int .i64 k => k.toNat
  | _ => 0
set_option maxRecDepth 100000 in
set_option maxHeartbeats 8000000 in
theorem wparsed_no (S : ByteArray) (x E : Int) (hE : E = 1 ∨ E = 5) (w : World) (hT : Tab w) (hT10 : Tab10 w)
    (PA : Hid (∀ w' : World, Calls Tryz.prog 43 #[.string S] w' fun e w2 => e = .returned (.tuple #[.agg #[.int .i64 0, .bool false, .bool false, .bool false, .bool false, .bool false, .int .i64 0, .int .i64 0], .int .i64 E]) ∧ Below w'.heap.size w' w2)) :
    Calls Tryz.prog 9 #[.string S, .int .u64 x] w fun e w' => e = .returned (.bool true) ∧ Below w.heap.size w w' := by
  have LI := Lib.hid (fun w' h1 h2 => wantedLives_any w' h1 h2)
  have HT := Lib.hid hT
  have H10 := Lib.hid hT10
  clear hT hT10
  rcases hE with rfl | rfl
  all_goals
    go_enter Tryz.func9, Tryz.ntmps9
    go_wp2_with fail
    refine (PA.out _).mono ?_
    rintro e w1 ⟨rfl, hb⟩
    have B : Hid (Below w.heap.size w w1) := Lib.hid hb
    clear hb
    go_wp2_with fail
    refine (LI.out _ (tab_al (HT.out.below B.out)) (t10_al (H10.out.below B.out))).mono ?_
    rintro e w2 ⟨rfl, hb⟩
    have X := Lib.hid ((Bx8.new w1 _ _ _ _ _ _ _ _ _).below hb)
    have hsz := hb.size
    rw [size_alloc] at hsz
    replace B : Hid (Below w.heap.size w w2) := Lib.hid (bl_thru (B.out.alloc B.out.size _) (Nat.le_refl _) hb)
    clear hb
    go_wp2_with fail
    refine (LI.out _ (HT.out.below B.out) (H10.out.below B.out)).mono ?_
    rintro e w3 ⟨rfl, hb⟩
    replace X := Lib.hid (X.out.below hb)
    replace B : Hid (Below w.heap.size w w3) := Lib.hid (bl_thru B.out (Nat.le_refl _) hb)
    clear hb
    obtain ⟨c0', c1, c2, c3, c4, c5', c6, c7⟩ := X.out.cells
    go_wp2
    all_goals first
      | (go_ret; exact ⟨rfl, B.out⟩; done)
      | trace_state
set_option maxRecDepth 100000 in
set_option maxHeartbeats 8000000 in
theorem wparsed_t (t : List UInt8) (k : Nat) (ht : t.length = k) (hk : k ≤ 140737488351232) (S T U : ByteArray) (zS : S.size = k + 1) (hx : S.extract 1 (k + 1) = T) (hT : T = ⟨t.toArray⟩)
    (v : Int) (mi pl bl ze al : Bool) (wd pr x g : Int) (hg : g = 0 ∨ (g = 1 ∧ v = 97 ∧ 30 < pr)) (w : World) (hTb : Tab w) (hT10 : Tab10 w)
    (PA : Hid (∀ w' : World, Calls Tryz.prog 43 #[.string S] w' fun e w2 => e = .returned (.tuple #[.agg #[.int .i64 v, .bool mi, .bool pl, .bool bl, .bool ze, .bool al, .int .i64 wd, .int .i64 pr], .int .i64 0]) ∧ Below w'.heap.size w' w2))
    (FO : Hid (∀ w' : World, Tab w' → Tab10 w' → Calls Tryz.prog 45 #[.agg #[.int .i64 v, .bool mi, .bool pl, .bool bl, .bool ze, .bool al, .int .i64 wd, .int .i64 pr], .int .u64 x] w' fun e w2 => e = .returned (.tuple #[.string U, .int .i64 g]) ∧ Below w'.heap.size w' w2))
    (PB : Hid (∀ (A : ByteArray) (w' : World), A = ⟨(37 :: ((t.takeWhile isFl).reverse ++ t)).toArray⟩ → Calls Tryz.prog 43 #[.string A] w' fun e w2 => e = .returned (.tuple #[.agg #[.int .i64 v, .bool mi, .bool pl, .bool bl, .bool ze, .bool al, .int .i64 wd, .int .i64 pr], .int .i64 0]) ∧ Below w'.heap.size w' w2))
    (IB : Hid (∀ (c : Int) (w' : World), Calls Tryz.prog 46 #[.string ⟨#[45, 43, 32, 48, 35]⟩, .int .u8 c] w' fun e w2 => e = .returned (.int .i64 (Lib.indexByte [45, 43, 32, 48, 35] c.toNat.toUInt8)) ∧ w' = w2)) :
    Calls Tryz.prog 9 #[.string S, .int .u64 x] w fun e w' => e = .returned (.bool true) ∧ Below w.heap.size w w' := by
  have LI := Lib.hid (fun w' h1 h2 => wantedLives_any w' h1 h2)
  have HT := Lib.hid hTb
  have H10 := Lib.hid hT10
  clear hTb hT10
  have zT : T.size = k := by rw [hT, ← ht]; rfl
  have HTT := Lib.hid (⟨hT, trivial⟩ : T = ⟨t.toArray⟩ ∧ True)
  clear hT
  go_enter Tryz.func9, Tryz.ntmps9
  go_wp2_with fail
  refine (PA.out _).mono ?_
  rintro e w1 ⟨rfl, hb⟩
  have B : Hid (Below w.heap.size w w1) := Lib.hid hb
  clear hb
  go_wp2_with fail
  refine (LI.out _ (tab_al (HT.out.below B.out)) (t10_al (H10.out.below B.out))).mono ?_
  rintro e w2 ⟨rfl, hb⟩
  have X := Lib.hid ((Bx8.new w1 _ _ _ _ _ _ _ _ _).below hb)
  replace B : Hid (Below w.heap.size w w2) := Lib.hid (bl_thru (B.out.alloc B.out.size _) (Nat.le_refl _) hb)
  clear hb
  obtain ⟨c0', c1, c2, c3, c4, c5', c6, c7⟩ := X.out.cells
  go_wp2_with fail
  refine (FO.out _ (HT.out.below B.out) (H10.out.below B.out)).mono ?_
  rintro e w3 ⟨rfl, hb⟩
  replace X := Lib.hid (X.out.below hb)
  replace B : Hid (Below w.heap.size w w3) := Lib.hid (bl_thru B.out (Nat.le_refl _) hb)
  clear hb c0' c1 c2 c3 c4 c5' c6 c7
  obtain ⟨c0', c1, c2, c3, c4, c5', c6, c7⟩ := X.out.cells
  have hcv := Lib.run_convert_string_bytes (P := Tryz.prog) w3 9 68 5 T Tryz.underlying9 Tryz.underlying68 Tryz.underlying5
  rw [zT] at hcv
  have XV : Hid (Bx8 (Lib.bytesWorld w3 5 T) w1.heap.size 63 v mi pl bl ze al wd pr) := Lib.hid ((Lib.bytesWorld_at_old w3 _ T _ X.out.lt).trans X.out)
  have CV : Hid (∀ j, (hj : j < k) → (Lib.bytesWorld w3 5 T).cell? ⟨w3.heap.size, j, none⟩ = some (.int .u8 ((t.getD j 0).toNat : Int))) := Lib.hid (fun j hj => by
    rw [Lib.bytesWorld_cell w3 _ T j (by omega), HTT.out.1])
  have BV : Hid (Below w.heap.size w (Lib.bytesWorld w3 5 T)) := Lib.hid (by
    refine ⟨B.out.os, B.out.tape, B.out.output, ?_, ?_⟩
    · rw [Lib.bytesWorld_size]; have := B.out.size; omega
    · intro j hj; rw [Lib.bytesWorld_at_old _ _ _ _ (by have := B.out.size; omega)]; exact B.out.block j hj)
  have SV := Lib.bytesWorld_size w3 5 T
  have hlt3 := X.out.lt
  generalize Lib.bytesWorld w3 5 T = V at *
  generalize grownCap w3 k 0 5 = CAP at *
  clear c0' c1 c2 c3 c4 c5' c6 c7
  obtain ⟨c0', c1, c2, c3, c4, c5', c6, c7⟩ := X.out.cells
  rcases hg with rfl | ⟨rfl, rfl, hpr⟩
  · go_wp2
    clear c0' c1 c2 c3 c4 c5' c6 c7 hcv
    go_loopw [53, 9] (fun i fl wr => ∃ (j : Nat) (F : ByteArray), i = .int .i64 (j : Int) ∧ fl = .string F ∧ j ≤ k ∧ Hid (F = ⟨(t.take j).reverse.toArray⟩ ∧ (∀ c ∈ t.take j, isFl c = true)) ∧ F.size = j ∧ Hid (Bx8 wr w1.heap.size 63 v mi pl bl ze al wd pr) ∧ Hid (∀ j, (hj : j < k) → wr.cell? ⟨w3.heap.size, j, none⟩ = some (.int .u8 ((t.getD j 0).toNat : Int))) ∧ Hid (Below w.heap.size w wr ∧ w3.heap.size + 1 ≤ wr.heap.size)) (fun i _ _ => k - iNt i)
    case atStart => exact ⟨0, ⟨#[]⟩, rfl, rfl, by omega, Lib.hid ⟨rfl, by simp⟩, rfl, XV, CV, Lib.hid ⟨BV.out, by omega⟩⟩
    case round =>
      clear XV CV BV X B
      obtain ⟨j, F, rfl, rfl, hj, HF, zF, X, C, B⟩ := hrel
      have hb3 := B.out.2
      by_cases hjk : j < k
      · obtain ⟨c, hc⟩ : ∃ c, c = t.getD j 0 := ⟨_, rfl⟩
        have cx := C.out j hjk
        rw [← hc] at cx
        have hcb := c.toNat_lt
        have IC := Lib.hid (fun w' => IB.out (c.toNat : Int) w')
        rw [Int.toNat_natCast, show c.toNat.toUInt8 = c from UInt8.ofNat_toNat] at IC
        have hfl := flags_has c
        generalize Lib.indexByte [45, 43, 32, 48, 35] c = ix at IC hfl
        have htk : t.take (j + 1) = t.take j ++ [c] := by
          rw [List.take_add_one, hc]
          have : t[j]? = some (t.getD j 0) := by rw [List.getD_eq_getElem?_getD, List.getElem?_eq_getElem (by omega)]; rfl
          rw [this]
          rfl
        by_cases hf : isFl c = true
        · have hix := hfl.2 hf
          obtain ⟨F', hF'⟩ : ∃ A, ⟨#[c]⟩ ++ F = A := ⟨_, rfl⟩
          have zF' : F'.size = j + 1 := by rw [← hF', ByteArray.size_append, zF]; show 1 + j = j + 1; omega
          have HF2 : Hid (F' = ⟨(t.take (j + 1)).reverse.toArray⟩ ∧ (∀ c ∈ t.take (j + 1), isFl c = true)) := Lib.hid ⟨by rw [← hF', HF.out.1, b_cons, htk]; simp, by
            intro b hb
            rw [htk] at hb
            rcases List.mem_append.1 hb with g | g
            · exact HF.out.2 b g
            · rw [List.mem_singleton.1 g]; exact hf⟩
          have hbc := byte_conv wr c
          have C2 := Lib.hid C.out
          clear hfl hc htk C
          go_wp2_with (go_at_call 46; refine (IC.out _).mono ?_; rintro e w9 ⟨rfl, rfl⟩)
          go_roundw
          case rel => exact ⟨j + 1, F', by first | rfl | (push_cast; rfl), rfl, by omega, HF2, zF', Lib.hid ((heap_alloc_old _ _ X.out.lt).trans X.out), Lib.hid (fun i hi => (show World.cell? _ _ = _ from (by unfold World.cell?; rw [heap_alloc_old _ _ (by show w3.heap.size < wr.heap.size; omega)])).trans (C2.out i hi)), Lib.hid ⟨B.out.1.alloc B.out.1.size _, by rw [size_alloc]; omega⟩⟩
          case measure =>
            show k - (((j : Int) + 1)).toNat < k - ((j : Int)).toNat
            omega
        · have hix : ix < 0 := by
            rcases Int.lt_or_le ix 0 with g | g
            · exact g
            · exact absurd (hfl.1 g) hf
          have hpp : t.takeWhile isFl = t.take j := by
            have e : t = t.take j ++ t.drop j := (List.take_append_drop j t).symm
            have e2 : t.drop j = c :: t.drop (j + 1) := by
              rw [List.drop_eq_getElem_cons (by omega), hc, List.getD_eq_getElem?_getD, List.getElem?_eq_getElem (by omega)]
              rfl
            have := (tw_app (t.take j) (t.drop j) HF.out.2).1
            rw [← e, e2, List.takeWhile_cons_of_neg hf, List.append_nil] at this
            exact this
          clear hfl hc htk C
          have HP : Hid (F = ⟨(t.takeWhile isFl).reverse.toArray⟩ ∧ True) := Lib.hid ⟨by rw [hpp]; exact HF.out.1, trivial⟩
          obtain ⟨A1, hA1⟩ : ∃ A, ⟨#[37]⟩ ++ F = A := ⟨_, rfl⟩
          obtain ⟨A2, hA2⟩ : ∃ A, A1 ++ T = A := ⟨_, rfl⟩
          have zA1 : A1.size = j + 1 := by rw [← hA1, ByteArray.size_append, zF]; show 1 + j = j + 1; omega
          have zA2 : A2.size = j + 1 + k := by rw [← hA2, ByteArray.size_append, zA1, zT]
          have HA : Hid (A2 = ⟨(37 :: ((t.takeWhile isFl).reverse ++ t)).toArray⟩ ∧ True) := Lib.hid ⟨by
            rw [← hA2, ← hA1, HP.out.1, HTT.out.1, b_cons, b_app]
            rfl, trivial⟩
          clear hpp
          go_wp2_with (go_at_call 46; refine (IC.out _).mono ?_; rintro e w9 ⟨rfl, rfl⟩)
          refine (PB.out _ _ HA.out.1).mono ?_
          rintro e w5 ⟨rfl, hb⟩
          replace X := Lib.hid (X.out.below hb)
          have hlt := X.out.lt
          replace B : Hid (Below w.heap.size w w5 ∧ True) := Lib.hid ⟨bl_thru B.out.1 (Nat.le_refl _) hb, trivial⟩
          clear hb
          obtain ⟨c0', c1, c2, c3, c4, c5', c6, c7⟩ := X.out.cells
          go_wp2
          all_goals first
            | (go_ret; exact ⟨rfl, B.out.1.alloc B.out.1.size _⟩; done)
            | trace_state
      · have hjk2 : j = k := by omega
        subst hjk2
        have hpp : t.takeWhile isFl = t.take j := by
          have e : t.take j = t := List.take_of_length_le (by omega)
          have := (tw_app (t.take j) [] HF.out.2).1
          rw [List.append_nil, e] at this
          rw [e, this]
          simp
        clear C
        have HP : Hid (F = ⟨(t.takeWhile isFl).reverse.toArray⟩ ∧ True) := Lib.hid ⟨by rw [hpp]; exact HF.out.1, trivial⟩
        obtain ⟨A1, hA1⟩ : ∃ A, ⟨#[37]⟩ ++ F = A := ⟨_, rfl⟩
        obtain ⟨A2, hA2⟩ : ∃ A, A1 ++ T = A := ⟨_, rfl⟩
        have zA1 : A1.size = j + 1 := by rw [← hA1, ByteArray.size_append, zF]; show 1 + j = j + 1; omega
        have zA2 : A2.size = j + 1 + j := by rw [← hA2, ByteArray.size_append, zA1, zT]
        have HA : Hid (A2 = ⟨(37 :: ((t.takeWhile isFl).reverse ++ t)).toArray⟩ ∧ True) := Lib.hid ⟨by
          rw [← hA2, ← hA1, HP.out.1, HTT.out.1, b_cons, b_app]
          rfl, trivial⟩
        clear hpp
        go_wp2_with fail
        refine (PB.out _ _ HA.out.1).mono ?_
        rintro e w5 ⟨rfl, hb⟩
        replace X := Lib.hid (X.out.below hb)
        have hlt := X.out.lt
        replace B : Hid (Below w.heap.size w w5 ∧ True) := Lib.hid ⟨bl_thru B.out.1 (Nat.le_refl _) hb, trivial⟩
        clear hb
        obtain ⟨c0', c1, c2, c3, c4, c5', c6, c7⟩ := X.out.cells
        go_wp2
        all_goals first
          | (go_ret; exact ⟨rfl, B.out.1.alloc B.out.1.size _⟩; done)
          | trace_state
  · go_wp2
    clear c0' c1 c2 c3 c4 c5' c6 c7 hcv
    go_loopw [53, 9] (fun i fl wr => ∃ (j : Nat) (F : ByteArray), i = .int .i64 (j : Int) ∧ fl = .string F ∧ j ≤ k ∧ Hid (F = ⟨(t.take j).reverse.toArray⟩ ∧ (∀ c ∈ t.take j, isFl c = true)) ∧ F.size = j ∧ Hid (Bx8 wr w1.heap.size 63 97 mi pl bl ze al wd pr) ∧ Hid (∀ j, (hj : j < k) → wr.cell? ⟨w3.heap.size, j, none⟩ = some (.int .u8 ((t.getD j 0).toNat : Int))) ∧ Hid (Below w.heap.size w wr ∧ w3.heap.size + 1 ≤ wr.heap.size)) (fun i _ _ => k - iNt i)
    case atStart => exact ⟨0, ⟨#[]⟩, rfl, rfl, by omega, Lib.hid ⟨rfl, by simp⟩, rfl, XV, CV, Lib.hid ⟨BV.out, by omega⟩⟩
    case round =>
      clear XV CV BV X B
      obtain ⟨j, F, rfl, rfl, hj, HF, zF, X, C, B⟩ := hrel
      have hb3 := B.out.2
      by_cases hjk : j < k
      · obtain ⟨c, hc⟩ : ∃ c, c = t.getD j 0 := ⟨_, rfl⟩
        have cx := C.out j hjk
        rw [← hc] at cx
        have hcb := c.toNat_lt
        have IC := Lib.hid (fun w' => IB.out (c.toNat : Int) w')
        rw [Int.toNat_natCast, show c.toNat.toUInt8 = c from UInt8.ofNat_toNat] at IC
        have hfl := flags_has c
        generalize Lib.indexByte [45, 43, 32, 48, 35] c = ix at IC hfl
        have htk : t.take (j + 1) = t.take j ++ [c] := by
          rw [List.take_add_one, hc]
          have : t[j]? = some (t.getD j 0) := by rw [List.getD_eq_getElem?_getD, List.getElem?_eq_getElem (by omega)]; rfl
          rw [this]
          rfl
        by_cases hf : isFl c = true
        · have hix := hfl.2 hf
          obtain ⟨F', hF'⟩ : ∃ A, ⟨#[c]⟩ ++ F = A := ⟨_, rfl⟩
          have zF' : F'.size = j + 1 := by rw [← hF', ByteArray.size_append, zF]; show 1 + j = j + 1; omega
          have HF2 : Hid (F' = ⟨(t.take (j + 1)).reverse.toArray⟩ ∧ (∀ c ∈ t.take (j + 1), isFl c = true)) := Lib.hid ⟨by rw [← hF', HF.out.1, b_cons, htk]; simp, by
            intro b hb
            rw [htk] at hb
            rcases List.mem_append.1 hb with g | g
            · exact HF.out.2 b g
            · rw [List.mem_singleton.1 g]; exact hf⟩
          have hbc := byte_conv wr c
          have C2 := Lib.hid C.out
          clear hfl hc htk C
          go_wp2_with (go_at_call 46; refine (IC.out _).mono ?_; rintro e w9 ⟨rfl, rfl⟩)
          go_roundw
          case rel => exact ⟨j + 1, F', by first | rfl | (push_cast; rfl), rfl, by omega, HF2, zF', Lib.hid ((heap_alloc_old _ _ X.out.lt).trans X.out), Lib.hid (fun i hi => (show World.cell? _ _ = _ from (by unfold World.cell?; rw [heap_alloc_old _ _ (by show w3.heap.size < wr.heap.size; omega)])).trans (C2.out i hi)), Lib.hid ⟨B.out.1.alloc B.out.1.size _, by rw [size_alloc]; omega⟩⟩
          case measure =>
            show k - (((j : Int) + 1)).toNat < k - ((j : Int)).toNat
            omega
        · have hix : ix < 0 := by
            rcases Int.lt_or_le ix 0 with g | g
            · exact g
            · exact absurd (hfl.1 g) hf
          have hpp : t.takeWhile isFl = t.take j := by
            have e : t = t.take j ++ t.drop j := (List.take_append_drop j t).symm
            have e2 : t.drop j = c :: t.drop (j + 1) := by
              rw [List.drop_eq_getElem_cons (by omega), hc, List.getD_eq_getElem?_getD, List.getElem?_eq_getElem (by omega)]
              rfl
            have := (tw_app (t.take j) (t.drop j) HF.out.2).1
            rw [← e, e2, List.takeWhile_cons_of_neg hf, List.append_nil] at this
            exact this
          clear hfl hc htk C
          have HP : Hid (F = ⟨(t.takeWhile isFl).reverse.toArray⟩ ∧ True) := Lib.hid ⟨by rw [hpp]; exact HF.out.1, trivial⟩
          obtain ⟨A1, hA1⟩ : ∃ A, ⟨#[37]⟩ ++ F = A := ⟨_, rfl⟩
          obtain ⟨A2, hA2⟩ : ∃ A, A1 ++ T = A := ⟨_, rfl⟩
          have zA1 : A1.size = j + 1 := by rw [← hA1, ByteArray.size_append, zF]; show 1 + j = j + 1; omega
          have zA2 : A2.size = j + 1 + k := by rw [← hA2, ByteArray.size_append, zA1, zT]
          have HA : Hid (A2 = ⟨(37 :: ((t.takeWhile isFl).reverse ++ t)).toArray⟩ ∧ True) := Lib.hid ⟨by
            rw [← hA2, ← hA1, HP.out.1, HTT.out.1, b_cons, b_app]
            rfl, trivial⟩
          clear hpp
          go_wp2_with (go_at_call 46; refine (IC.out _).mono ?_; rintro e w9 ⟨rfl, rfl⟩)
          refine (PB.out _ _ HA.out.1).mono ?_
          rintro e w5 ⟨rfl, hb⟩
          replace X := Lib.hid (X.out.below hb)
          have hlt := X.out.lt
          replace B : Hid (Below w.heap.size w w5 ∧ True) := Lib.hid ⟨bl_thru B.out.1 (Nat.le_refl _) hb, trivial⟩
          clear hb
          obtain ⟨c0', c1, c2, c3, c4, c5', c6, c7⟩ := X.out.cells
          go_wp2
          all_goals first
            | (go_ret; exact ⟨rfl, B.out.1.alloc B.out.1.size _⟩; done)
            | trace_state
      · have hjk2 : j = k := by omega
        subst hjk2
        have hpp : t.takeWhile isFl = t.take j := by
          have e : t.take j = t := List.take_of_length_le (by omega)
          have := (tw_app (t.take j) [] HF.out.2).1
          rw [List.append_nil, e] at this
          rw [e, this]
          simp
        clear C
        have HP : Hid (F = ⟨(t.takeWhile isFl).reverse.toArray⟩ ∧ True) := Lib.hid ⟨by rw [hpp]; exact HF.out.1, trivial⟩
        obtain ⟨A1, hA1⟩ : ∃ A, ⟨#[37]⟩ ++ F = A := ⟨_, rfl⟩
        obtain ⟨A2, hA2⟩ : ∃ A, A1 ++ T = A := ⟨_, rfl⟩
        have zA1 : A1.size = j + 1 := by rw [← hA1, ByteArray.size_append, zF]; show 1 + j = j + 1; omega
        have zA2 : A2.size = j + 1 + j := by rw [← hA2, ByteArray.size_append, zA1, zT]
        have HA : Hid (A2 = ⟨(37 :: ((t.takeWhile isFl).reverse ++ t)).toArray⟩ ∧ True) := Lib.hid ⟨by
          rw [← hA2, ← hA1, HP.out.1, HTT.out.1, b_cons, b_app]
          rfl, trivial⟩
        clear hpp
        go_wp2_with fail
        refine (PB.out _ _ HA.out.1).mono ?_
        rintro e w5 ⟨rfl, hb⟩
        replace X := Lib.hid (X.out.below hb)
        have hlt := X.out.lt
        replace B : Hid (Below w.heap.size w w5 ∧ True) := Lib.hid ⟨bl_thru B.out.1 (Nat.le_refl _) hb, trivial⟩
        clear hb
        obtain ⟨c0', c1, c2, c3, c4, c5', c6, c7⟩ := X.out.cells
        go_wp2
        all_goals first
          | (go_ret; exact ⟨rfl, B.out.1.alloc B.out.1.size _⟩; done)
          | trace_state
theorem wp_good {t : List UInt8} (h : wpE (37 :: t) = 0) : (∃ c, wp4 t = [c] ∧ (c = 101 ∨ c = 102 ∨ c = 103 ∨ c = 97)) ∧ wpW t ≤ 200 ∧ wpP t ≤ 100 ∧ -1 ≤ wpP t := by
  unfold wpE at h
  rw [(trim37 t).1, (trim37 t).2, if_pos rfl] at h
  have hp : -1 ≤ wpP t := by unfold wpP; split <;> omega
  by_cases hv : vbB (wp4 t) = true
  · rw [if_pos hv] at h
    by_cases hw : 200 < wpW t ∨ 100 < wpP t
    · rw [if_pos hw] at h; exact absurd h (by decide)
    · refine ⟨?_, by omega, by omega, hp⟩
      rcases vbB_ways (wp4 t) with ⟨_, c, h1, _⟩ | ⟨h1, _⟩
      · refine ⟨c, h1, ?_⟩
        rw [h1] at hv
        simp [vbB] at hv
        rcases hv with ((h | h) | h) | h
        · exact Or.inl h
        · exact Or.inr (Or.inl h)
        · exact Or.inr (Or.inr (Or.inl h))
        · exact Or.inr (Or.inr (Or.inr h))
      · rw [h1] at hv; exact absurd hv (by decide)
  · rw [if_neg hv] at h; exact absurd h (by decide)
theorem wp_err {t : List UInt8} (h : wpE (37 :: t) = 0) : wErr (wpG t) = 0 ∨ (wErr (wpG t) = 1 ∧ (wpG t).verb = 97 ∧ 30 < (wpG t).pr) := by
  obtain ⟨⟨c, hc, hv⟩, h1, h2, h3⟩ := wp_good h
  have e1 : (wpG t).verb = (c.toNat : Int) := by unfold wpG; simp only; rw [hc]; rfl
  have e2 : (wpG t).wd = (wpW t : Int) := rfl
  have e3 : (wpG t).pr = wpP t := rfl
  have hvv : (c.toNat : Int) = 101 ∨ (c.toNat : Int) = 102 ∨ (c.toNat : Int) = 103 ∨ (c.toNat : Int) = 97 := by
    rcases hv with h | h | h | h <;> subst h <;> simp
  rcases wErr_01 (wpG t) with g | g
  · exact Or.inl g
  · refine Or.inr ⟨g, ?_⟩
    unfold wErr at g
    rw [e1, e2, e3] at g
    rw [e1, e3]
    by_cases h97 : (c.toNat : Int) = 97
    · rw [if_pos h97] at g
      by_cases hp : 30 < wpP t
      · exact ⟨h97, hp⟩
      · rw [if_neg (by omega)] at g; exact absurd g (by decide)
    · rw [if_neg h97] at g
      rw [if_neg (by omega)] at g
      exact absurd g (by decide)
theorem wpE_ways (s : List UInt8) : wpE s = 0 ∨ wpE s = 1 ∨ wpE s = 5 := by
  unfold wpE
  repeat' split
  all_goals simp
theorem wp_pre {s : List UInt8} (h : wpE s = 0) : ∃ t, s = 37 :: t := by
  have hp : Lib.hasPrefix s [37] = true := by
    cases g : Lib.hasPrefix s [37] with
    | true => rfl
    | false => unfold wpE at h; rw [g, if_neg (by simp)] at h; exact absurd h (by decide)
  cases s with
  | nil => simp [Lib.hasPrefix] at hp
  | cons c t =>
    refine ⟨t, ?_⟩
    simp [Lib.hasPrefix] at hp
    rw [hp]
theorem walkWantedParsed (S : ByteArray) (x : Int) (x0 : 0 ≤ x) (x1 : x ≤ 18446744073709551615) (w : World) (hT : Tab w) (hT10 : Tab10 w) (zs : S.size ≤ 140737488351232) :
    Calls Tryz.prog 9 #[.string S, .int .u64 x] w fun e w' => e = .returned (.bool true) ∧ Below w.heap.size w w' := by
  obtain ⟨s, hs⟩ : ∃ s : List UInt8, S = ⟨s.toArray⟩ := ⟨S.data.toList, by simp⟩
  have hl : s.length = S.size := by rw [hs]; rfl
  have PA := fun w' => wparse_any s S hs (by omega) w'
  by_cases hE : wpE s = 0
  · obtain ⟨t, rfl⟩ := wp_pre hE
    have hF : wpF (37 :: t) = wpG t := by unfold wpF; rw [if_pos hE, (trim37 t).1]
    have hlt : t.length + 1 = S.size := by rw [← hl, List.length_cons]
    have hg := wp_err hE
    have FO := fun w' h1 h2 => wformat_any (wpG t) x x0 x1 w' h1 h2
    have hSl := wS_len (wpG t) x0 x1
    obtain ⟨a1, a2⟩ := wp_again t
    have PB := fun (A : ByteArray) (w' : World) (hA : A = ⟨(37 :: ((t.takeWhile isFl).reverse ++ t)).toArray⟩) => wparse_any (37 :: ((t.takeWhile isFl).reverse ++ t)) A hA (by
      have := (List.takeWhile_sublist isFl (l := t)).length_le
      rw [List.length_cons, List.length_append, List.length_reverse]
      omega) w'
    rw [a1, a2, hF, hE] at PB
    rw [hF, hE] at PA
    unfold Spc.v at PA FO PB
    generalize wErr (wpG t) = g at *
    generalize (⟨(wS (wpG t) x).toArray⟩ : ByteArray) = U at *
    exact wparsed_t t t.length rfl (by omega) S ⟨t.toArray⟩ U (by omega) (by rw [hs]; exact w_tail 37 t _ rfl) rfl _ _ _ _ _ _ _ _ x g hg w hT hT10 (Lib.hid PA) (Lib.hid FO) (Lib.hid PB)
      (Lib.hid (fun c w' => (indexByteS_any ⟨#[45, 43, 32, 48, 35]⟩ c w').mono fun e w2 k => ⟨k.1, k.2.symm⟩))
  · have hF : wpF s = spz := by unfold wpF; rw [if_neg hE]
    rw [hF] at PA
    exact wparsed_no S x (wpE s) (by rcases wpE_ways s with h | h | h; · exact absurd h hE
                                     · exact Or.inl h
                                     · exact Or.inr h) w hT hT10 (Lib.hid PA)
end Go.Proofs.YthlocmhfjandlaaGreatDoor
