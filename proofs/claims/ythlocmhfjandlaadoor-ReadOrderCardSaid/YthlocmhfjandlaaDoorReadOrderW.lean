/-
  THE WALK of the law ReadOrder.
-/
import Derived.Test.YthlocmhfjandlaaDoorZu
import Derived.Test.YthlocmhfjandlaaDoorZo
import Derived.Test.YthlocmhfjandlaaDoorTm
set_option linter.unusedVariables false
set_option linter.unusedSimpArgs false
namespace Go.Proofs.YthlocmhfjandlaaDoor
open Go.RowKit Nt Fm Fl

theorem trim_nil {l cs : List UInt8} (h : Lib.trimS l cs = []) : ∀ c ∈ l, cs.contains c = true := by
  have hdw : ∀ m : List UInt8, m.dropWhile (cs.contains ·) = [] → ∀ c ∈ m, cs.contains c = true := by
    intro m hm c hc
    rw [← List.takeWhile_append_dropWhile (p := (cs.contains ·)) (l := m), hm, List.append_nil] at hc
    exact takeW_mem hc
  have h1 := hdw _ h
  intro c hc
  rw [← List.mem_reverse, ← List.takeWhile_append_dropWhile (p := (cs.contains ·)) (l := l.reverse)] at hc
  rcases List.mem_append.1 hc with hc | hc
  · exact takeW_mem hc
  · exact h1 c (List.mem_reverse.2 hc)
theorem trimDec_any (d : List UInt8) (D : ByteArray) (hD : D = ⟨d.toArray⟩) (hl : d.length ≤ 1000) (w : World) :
    Calls Tryd.prog 35 #[.string D, .string ⟨#[48, 49, 50, 51, 52, 53, 54, 55, 56, 57]⟩] w fun e w' => e = .returned (.string ⟨(Lib.trimS d decCs).toArray⟩) ∧ Below w.heap.size w w' := by
  have zD : D.size = d.length := by rw [hD]; rfl
  have h := trim_any D decCs (by decide) (by decide) w (by omega)
  rw [show D.data.toList = d by rw [hD]] at h
  exact h
theorem ok_bl2 (x0 x1 : Int) (w : World) (b : Nat) (hb : b = w.heap.size) :
    Calls Tryd.prog 16 #[.slice (some ⟨b, 0, none⟩) 2 2] (w.alloc (.cells #[.int .i64 x0, .int .i64 x1] 23)) fun e w' => e = .returned (.bool (ok2 x0 x1)) ∧ Below w.heap.size w w' :=
  (ok_new2 x0 x1 w b hb).mono (by rintro e w' ⟨rfl, rfl⟩; exact ⟨rfl, (Below.refl _ _).alloc (Nat.le_refl _) _⟩)
theorem ok_bl3 (x0 x1 x2 : Int) (w : World) (b : Nat) (hb : b = w.heap.size) :
    Calls Tryd.prog 16 #[.slice (some ⟨b, 0, none⟩) 3 3] (w.alloc (.cells #[.int .i64 x0, .int .i64 x1, .int .i64 x2] 23)) fun e w' => e = .returned (.bool (ok3 x0 x1 x2)) ∧ Below w.heap.size w w' :=
  (ok_new3 x0 x1 x2 w b hb).mono (by rintro e w' ⟨rfl, rfl⟩; exact ⟨rfl, (Below.refl _ _).alloc (Nat.le_refl _) _⟩)
theorem ok2_both {a b : Int} (h : ok2 a b = true) : a = 0 ∧ b = 0 := by unfold ok2 at h; simp at h; exact h
theorem read_len {s : List UInt8} {mode : Int} (h : readE s mode = 0) : s.length ≤ 1000 := by
  unfold readE at h
  split at h
  · split at h
    · rename_i g
      rcases g with rfl | rfl | rfl <;> decide
    · exact rerr_len h
  · exact absurd h (by decide)
set_option maxRecDepth 100000 in
set_option maxHeartbeats 8000000 in
theorem walkReadOrder (D C E : ByteArray) (mode : Int) (mode0 : -9223372036854775808 ≤ mode) (mode1 : mode ≤ 9223372036854775807) (w : World) (hT : Tab w) (hT10 : Tab10 w) (zd : D.size ≤ 140737488355328) (zc : C.size ≤ 140737488355328) (ze : E.size ≤ 140737488355328) :
    Calls Tryd.prog 11 #[.string D, .string C, .string E, .int .i64 mode] w fun e w' => e = .returned (.bool true) ∧ Below w.heap.size w w' := by
  obtain ⟨d, hd⟩ : ∃ d, d = D.data.toList := ⟨_, rfl⟩
  obtain ⟨c, hc⟩ : ∃ c, c = C.data.toList := ⟨_, rfl⟩
  obtain ⟨e, he⟩ : ∃ e, e = E.data.toList := ⟨_, rfl⟩
  have hD : D = ⟨d.toArray⟩ := by rw [hd]
  have hC : C = ⟨c.toArray⟩ := by rw [hc]
  have hE : E = ⟨e.toArray⟩ := by rw [he]
  have zD : D.size = d.length := by rw [hD]; rfl
  have zC : C.size = c.length := by rw [hC]; rfl
  have eD := empt d D hD
  have HT := Lib.hid hT
  have B : Hid (Below w.heap.size w w) := Lib.hid (Below.refl w.heap.size w)
  have LV := Lib.hid (fun w' h => readLives_any w' h)
  obtain ⟨DE, hDE⟩ : ∃ T : ByteArray, D ++ E = T := ⟨_, rfl⟩
  obtain ⟨CE, hCE⟩ : ∃ T : ByteArray, C ++ E = T := ⟨_, rfl⟩
  have s1 : DE = ⟨(d ++ e).toArray⟩ := by rw [← hDE]; exact ba_app d e hD hE
  have s2 : CE = ⟨(c ++ e).toArray⟩ := by rw [← hCE]; exact ba_app c e hC hE
  have N1 := Lib.hid (fun w' h => rnumber_any (d ++ e) DE s1 mode w' h)
  have N2 := Lib.hid (fun w' h => rnumber_any (c ++ e) CE s2 mode w' h)
  unfold RetUBE at N1 N2
  clear hT hd hc he
  by_cases hok : readE (d ++ e) mode = 0 ∧ readE (c ++ e) mode = 0
  · obtain ⟨he, hf⟩ := hok
    have hlen : (d ++ e).length ≤ 1000 ∧ (c ++ e).length ≤ 1000 := by
      refine ⟨read_len he, read_len hf⟩
    rw [List.length_append, List.length_append] at hlen
    have T1 := Lib.hid (fun w' => trimDec_any d D hD (by omega) w')
    have T2 := Lib.hid (fun w' => trimDec_any c C hC (by omega) w')
    obtain ⟨TD, hTD⟩ : ∃ T : ByteArray, T = ⟨(Lib.trimS d decCs).toArray⟩ := ⟨_, rfl⟩
    obtain ⟨TC, hTC⟩ : ∃ T : ByteArray, T = ⟨(Lib.trimS c decCs).toArray⟩ := ⟨_, rfl⟩
    rw [← hTD] at T1
    rw [← hTC] at T2
    have eTD := empt _ _ hTD
    have eTC := empt _ _ hTC
    have hbl : Op.bytesLess D.toList C.toList = Op.bytesLess d c := by rw [Lib.toList_data, Lib.toList_data, hC, hD]
    have hbe : (D.toList == C.toList) = (d == c) := by rw [Lib.toList_data, Lib.toList_data, hC, hD]
    rw [he] at N1
    rw [hf] at N2
    by_cases hgood : d ≠ [] ∧ d.length = c.length ∧ Lib.trimS d decCs = [] ∧ Lib.trimS c decCs = [] ∧ (Op.bytesLess d c = true ∨ d = c)
    · obtain ⟨g0, g1, g2, g3, g4⟩ := hgood
      obtain ⟨l1, l2, l3, l4, l5, l6⟩ := ro_law d c e mode g0 g1 (fun x hx => decCs_dgt (trim_nil g2 x hx)) (fun x hx => decCs_dgt (trim_nil g3 x hx)) he hf g4
      have M1 := Lib.hid (fun w' h => rnumber_any (d ++ e) DE s1 2 w' h)
      have M2 := Lib.hid (fun w' h => rnumber_any (d ++ e) DE s1 0 w' h)
      have M3 := Lib.hid (fun w' h => rnumber_any (d ++ e) DE s1 1 w' h)
      unfold RetUBE at M1 M2 M3
      rw [l2] at M1
      rw [l3] at M2
      rw [l4] at M3
      have hdE : d.isEmpty = false := by cases d with | nil => exact absurd rfl g0 | cons a b => rfl
      rw [hdE] at eD
      rw [g2] at eTD
      rw [g3] at eTC
      have eTD2 : TD.toList.isEmpty = true := eTD
      have eTC2 : TC.toList.isEmpty = true := eTC
      have hzz : D.size = C.size := by omega
      generalize readV (d ++ e) mode = X1 at *
      generalize readV (c ++ e) mode = X2 at *
      generalize readC (d ++ e) mode = C1 at *
      generalize readC (c ++ e) mode = C2 at *
      generalize readV (d ++ e) 2 = Y1 at *
      generalize readV (d ++ e) 0 = Y2 at *
      generalize readV (d ++ e) 1 = Y3 at *
      generalize readC (d ++ e) 2 = Z1 at *
      generalize readC (d ++ e) 0 = Z2 at *
      generalize readC (d ++ e) 1 = Z3 at *
      clear hTD hTC eTD eTC s1 s2 g0 g1 g2 g3 g4 hdE hD hC hE zD zC he hf hlen l2 l3 l4
      go_enter Tryd.func11, Tryd.ntmps11
      go_wp2_with (first
        | (go_at_call 33; refine (LV.out _ HT.out).mono ?_; rintro r w1 ⟨rfl, hb⟩; replace HT := Lib.hid (HT.out.below hb); replace B := Lib.hid (bl_thru B.out (Nat.le_refl _) hb); clear hb)
        | (go_at_call 34; ((with_reducible refine (N1.out _ HT.out).mono ?_); rintro r w1 ⟨rfl, hb⟩; replace HT := Lib.hid (HT.out.below hb); replace B := Lib.hid (bl_thru B.out (Nat.le_refl _) hb); clear hb))
        | (go_at_call 34; ((with_reducible refine (N2.out _ HT.out).mono ?_); rintro r w1 ⟨rfl, hb⟩; replace HT := Lib.hid (HT.out.below hb); replace B := Lib.hid (bl_thru B.out (Nat.le_refl _) hb); clear hb))
        | (go_at_call 34; ((with_reducible refine (M1.out _ HT.out).mono ?_); rintro r w1 ⟨rfl, hb⟩; replace HT := Lib.hid (HT.out.below hb); replace B := Lib.hid (bl_thru B.out (Nat.le_refl _) hb); clear hb))
        | (go_at_call 34; ((with_reducible refine (M2.out _ HT.out).mono ?_); rintro r w1 ⟨rfl, hb⟩; replace HT := Lib.hid (HT.out.below hb); replace B := Lib.hid (bl_thru B.out (Nat.le_refl _) hb); clear hb))
        | (go_at_call 34; ((with_reducible refine (M3.out _ HT.out).mono ?_); rintro r w1 ⟨rfl, hb⟩; replace HT := Lib.hid (HT.out.below hb); replace B := Lib.hid (bl_thru B.out (Nat.le_refl _) hb); clear hb))
        | (go_at_call 35; ((with_reducible refine (T1.out _).mono ?_); rintro r w1 ⟨rfl, hb⟩; replace HT := Lib.hid (HT.out.below hb); replace B := Lib.hid (bl_thru B.out (Nat.le_refl _) hb); clear hb))
        | (go_at_call 35; ((with_reducible refine (T2.out _).mono ?_); rintro r w1 ⟨rfl, hb⟩; replace HT := Lib.hid (HT.out.below hb); replace B := Lib.hid (bl_thru B.out (Nat.le_refl _) hb); clear hb))
        | (go_at_call 16; first | ((with_reducible refine (ok_bl2 _ _ _ _ (by simp)).mono ?_); rintro r w1 ⟨rfl, hb⟩; replace HT := Lib.hid (HT.out.below hb); replace B := Lib.hid (bl_thru B.out (Nat.le_refl _) hb); clear hb) | ((with_reducible refine (ok_bl3 _ _ _ _ _ (by simp)).mono ?_); rintro r w1 ⟨rfl, hb⟩; replace HT := Lib.hid (HT.out.below hb); replace B := Lib.hid (bl_thru B.out (Nat.le_refl _) hb); clear hb)))
      all_goals first
        | (go_ret; refine ⟨rfl, B.out⟩; done)
        | (go_ret; refine ⟨?_, B.out⟩; simp_all [ok2, ok3]; done)
        | (exfalso; simp_all [ok2, ok3]; done)
        | trace_state
    ·
      generalize readV (d ++ e) mode = X1 at *
      generalize readV (c ++ e) mode = X2 at *
      generalize readC (d ++ e) mode = C1 at *
      generalize readC (c ++ e) mode = C2 at *
      cases hde : d.isEmpty
      · rw [hde] at eD
        by_cases g1 : d.length = c.length
        · have hzz : D.size = C.size := by omega
          cases h2 : (Lib.trimS d decCs).isEmpty
          · rw [h2] at eTD
            clear hTD hTC s1 s2 hD hC hE he hf hlen hgood zD zC g1 hde h2
            go_enter Tryd.func11, Tryd.ntmps11
            go_wp2_with (first
              | (go_at_call 33; refine (LV.out _ HT.out).mono ?_; rintro r w1 ⟨rfl, hb⟩; replace HT := Lib.hid (HT.out.below hb); replace B := Lib.hid (bl_thru B.out (Nat.le_refl _) hb); clear hb)
              | (go_at_call 34; ((with_reducible refine (N1.out _ HT.out).mono ?_); rintro r w1 ⟨rfl, hb⟩; replace HT := Lib.hid (HT.out.below hb); replace B := Lib.hid (bl_thru B.out (Nat.le_refl _) hb); clear hb))
              | (go_at_call 34; ((with_reducible refine (N2.out _ HT.out).mono ?_); rintro r w1 ⟨rfl, hb⟩; replace HT := Lib.hid (HT.out.below hb); replace B := Lib.hid (bl_thru B.out (Nat.le_refl _) hb); clear hb))
              | (go_at_call 35; ((with_reducible refine (T1.out _).mono ?_); rintro r w1 ⟨rfl, hb⟩; replace HT := Lib.hid (HT.out.below hb); replace B := Lib.hid (bl_thru B.out (Nat.le_refl _) hb); clear hb))
              | (go_at_call 35; ((with_reducible refine (T2.out _).mono ?_); rintro r w1 ⟨rfl, hb⟩; replace HT := Lib.hid (HT.out.below hb); replace B := Lib.hid (bl_thru B.out (Nat.le_refl _) hb); clear hb))
              | (go_at_call 16; ((with_reducible refine (ok_bl2 _ _ _ _ (by simp)).mono ?_); rintro r w1 ⟨rfl, hb⟩; replace HT := Lib.hid (HT.out.below hb); replace B := Lib.hid (bl_thru B.out (Nat.le_refl _) hb); clear hb)))
            all_goals first
              | (go_ret; refine ⟨rfl, B.out⟩; done)
              | (exfalso; simp_all [ok2, ok3]; done)
              | trace_state
          · rw [h2] at eTD
            cases h3 : (Lib.trimS c decCs).isEmpty
            · rw [h3] at eTC
              clear hTD hTC s1 s2 hD hC hE he hf hlen hgood zD zC g1 hde h2 h3
              go_enter Tryd.func11, Tryd.ntmps11
              go_wp2_with (first
                | (go_at_call 33; refine (LV.out _ HT.out).mono ?_; rintro r w1 ⟨rfl, hb⟩; replace HT := Lib.hid (HT.out.below hb); replace B := Lib.hid (bl_thru B.out (Nat.le_refl _) hb); clear hb)
                | (go_at_call 34; ((with_reducible refine (N1.out _ HT.out).mono ?_); rintro r w1 ⟨rfl, hb⟩; replace HT := Lib.hid (HT.out.below hb); replace B := Lib.hid (bl_thru B.out (Nat.le_refl _) hb); clear hb))
                | (go_at_call 34; ((with_reducible refine (N2.out _ HT.out).mono ?_); rintro r w1 ⟨rfl, hb⟩; replace HT := Lib.hid (HT.out.below hb); replace B := Lib.hid (bl_thru B.out (Nat.le_refl _) hb); clear hb))
                | (go_at_call 35; ((with_reducible refine (T1.out _).mono ?_); rintro r w1 ⟨rfl, hb⟩; replace HT := Lib.hid (HT.out.below hb); replace B := Lib.hid (bl_thru B.out (Nat.le_refl _) hb); clear hb))
                | (go_at_call 35; ((with_reducible refine (T2.out _).mono ?_); rintro r w1 ⟨rfl, hb⟩; replace HT := Lib.hid (HT.out.below hb); replace B := Lib.hid (bl_thru B.out (Nat.le_refl _) hb); clear hb))
                | (go_at_call 16; ((with_reducible refine (ok_bl2 _ _ _ _ (by simp)).mono ?_); rintro r w1 ⟨rfl, hb⟩; replace HT := Lib.hid (HT.out.below hb); replace B := Lib.hid (bl_thru B.out (Nat.le_refl _) hb); clear hb)))
              all_goals first
                | (go_ret; refine ⟨rfl, B.out⟩; done)
                | (exfalso; simp_all [ok2, ok3]; done)
                | trace_state
            · rw [h3] at eTC
              by_cases h4 : Op.bytesLess d c = true ∨ d = c
              · exfalso
                exact hgood ⟨fun h => by rw [h] at hde; exact absurd hde (by decide), g1, List.isEmpty_iff.1 h2, List.isEmpty_iff.1 h3, h4⟩
              · have h5 : Op.bytesLess d c = false := by cases h : Op.bytesLess d c; rfl; exact absurd (Or.inl h) h4
                have h6 : (d == c) = false := by rw [beq_eq_false_iff_ne]; exact fun h => h4 (Or.inr h)
                rw [h5] at hbl
                rw [h6] at hbe
                clear h5 h6
                clear hTD hTC s1 s2 hD hC hE he hf hlen hgood zD zC g1 hde h2 h3 h4
                go_enter Tryd.func11, Tryd.ntmps11
                go_wp2_with (first
                  | (go_at_call 33; refine (LV.out _ HT.out).mono ?_; rintro r w1 ⟨rfl, hb⟩; replace HT := Lib.hid (HT.out.below hb); replace B := Lib.hid (bl_thru B.out (Nat.le_refl _) hb); clear hb)
                  | (go_at_call 34; ((with_reducible refine (N1.out _ HT.out).mono ?_); rintro r w1 ⟨rfl, hb⟩; replace HT := Lib.hid (HT.out.below hb); replace B := Lib.hid (bl_thru B.out (Nat.le_refl _) hb); clear hb))
                  | (go_at_call 34; ((with_reducible refine (N2.out _ HT.out).mono ?_); rintro r w1 ⟨rfl, hb⟩; replace HT := Lib.hid (HT.out.below hb); replace B := Lib.hid (bl_thru B.out (Nat.le_refl _) hb); clear hb))
                  | (go_at_call 35; ((with_reducible refine (T1.out _).mono ?_); rintro r w1 ⟨rfl, hb⟩; replace HT := Lib.hid (HT.out.below hb); replace B := Lib.hid (bl_thru B.out (Nat.le_refl _) hb); clear hb))
                  | (go_at_call 35; ((with_reducible refine (T2.out _).mono ?_); rintro r w1 ⟨rfl, hb⟩; replace HT := Lib.hid (HT.out.below hb); replace B := Lib.hid (bl_thru B.out (Nat.le_refl _) hb); clear hb))
                  | (go_at_call 16; ((with_reducible refine (ok_bl2 _ _ _ _ (by simp)).mono ?_); rintro r w1 ⟨rfl, hb⟩; replace HT := Lib.hid (HT.out.below hb); replace B := Lib.hid (bl_thru B.out (Nat.le_refl _) hb); clear hb)))
                all_goals first
                  | (go_ret; refine ⟨rfl, B.out⟩; done)
                  | (exfalso; simp_all [ok2, ok3]; done)
                  | trace_state
        · have hzz : (((D.size : Nat) : Int) != ((C.size : Nat) : Int)) = true := by rw [bne_iff_ne]; omega
          clear hTD hTC s1 s2 hD hC hE he hf hlen hgood zD zC g1 hde
          go_enter Tryd.func11, Tryd.ntmps11
          go_wp2_with (first
            | (go_at_call 33; refine (LV.out _ HT.out).mono ?_; rintro r w1 ⟨rfl, hb⟩; replace HT := Lib.hid (HT.out.below hb); replace B := Lib.hid (bl_thru B.out (Nat.le_refl _) hb); clear hb)
            | (go_at_call 34; ((with_reducible refine (N1.out _ HT.out).mono ?_); rintro r w1 ⟨rfl, hb⟩; replace HT := Lib.hid (HT.out.below hb); replace B := Lib.hid (bl_thru B.out (Nat.le_refl _) hb); clear hb))
            | (go_at_call 34; ((with_reducible refine (N2.out _ HT.out).mono ?_); rintro r w1 ⟨rfl, hb⟩; replace HT := Lib.hid (HT.out.below hb); replace B := Lib.hid (bl_thru B.out (Nat.le_refl _) hb); clear hb))
            | (go_at_call 35; ((with_reducible refine (T1.out _).mono ?_); rintro r w1 ⟨rfl, hb⟩; replace HT := Lib.hid (HT.out.below hb); replace B := Lib.hid (bl_thru B.out (Nat.le_refl _) hb); clear hb))
            | (go_at_call 35; ((with_reducible refine (T2.out _).mono ?_); rintro r w1 ⟨rfl, hb⟩; replace HT := Lib.hid (HT.out.below hb); replace B := Lib.hid (bl_thru B.out (Nat.le_refl _) hb); clear hb))
            | (go_at_call 16; ((with_reducible refine (ok_bl2 _ _ _ _ (by simp)).mono ?_); rintro r w1 ⟨rfl, hb⟩; replace HT := Lib.hid (HT.out.below hb); replace B := Lib.hid (bl_thru B.out (Nat.le_refl _) hb); clear hb)))
          all_goals first
            | (go_ret; refine ⟨rfl, B.out⟩; done)
            | (exfalso; simp_all [ok2, ok3]; done)
            | trace_state
      · rw [hde] at eD
        clear hTD hTC s1 s2 hD hC hE he hf hlen hgood zD zC hde
        go_enter Tryd.func11, Tryd.ntmps11
        go_wp2_with (first
          | (go_at_call 33; refine (LV.out _ HT.out).mono ?_; rintro r w1 ⟨rfl, hb⟩; replace HT := Lib.hid (HT.out.below hb); replace B := Lib.hid (bl_thru B.out (Nat.le_refl _) hb); clear hb)
          | (go_at_call 34; ((with_reducible refine (N1.out _ HT.out).mono ?_); rintro r w1 ⟨rfl, hb⟩; replace HT := Lib.hid (HT.out.below hb); replace B := Lib.hid (bl_thru B.out (Nat.le_refl _) hb); clear hb))
          | (go_at_call 34; ((with_reducible refine (N2.out _ HT.out).mono ?_); rintro r w1 ⟨rfl, hb⟩; replace HT := Lib.hid (HT.out.below hb); replace B := Lib.hid (bl_thru B.out (Nat.le_refl _) hb); clear hb))
          | (go_at_call 35; ((with_reducible refine (T1.out _).mono ?_); rintro r w1 ⟨rfl, hb⟩; replace HT := Lib.hid (HT.out.below hb); replace B := Lib.hid (bl_thru B.out (Nat.le_refl _) hb); clear hb))
          | (go_at_call 35; ((with_reducible refine (T2.out _).mono ?_); rintro r w1 ⟨rfl, hb⟩; replace HT := Lib.hid (HT.out.below hb); replace B := Lib.hid (bl_thru B.out (Nat.le_refl _) hb); clear hb))
          | (go_at_call 16; ((with_reducible refine (ok_bl2 _ _ _ _ (by simp)).mono ?_); rintro r w1 ⟨rfl, hb⟩; replace HT := Lib.hid (HT.out.below hb); replace B := Lib.hid (bl_thru B.out (Nat.le_refl _) hb); clear hb)))
        all_goals first
          | (go_ret; refine ⟨rfl, B.out⟩; done)
          | (exfalso; simp_all [ok2, ok3]; done)
          | trace_state
  · have hO : ok2 (readE (d ++ e) mode) (readE (c ++ e) mode) = false := by
      cases h : ok2 (readE (d ++ e) mode) (readE (c ++ e) mode)
      · rfl
      · exact absurd (ok2_both h) hok
    generalize readE (d ++ e) mode = E1 at *
    generalize readE (c ++ e) mode = E2 at *
    generalize readV (d ++ e) mode = X1 at *
    generalize readV (c ++ e) mode = X2 at *
    generalize readC (d ++ e) mode = C1 at *
    generalize readC (c ++ e) mode = C2 at *
    clear s1 s2 hD hC hE hok zD zC eD
    go_enter Tryd.func11, Tryd.ntmps11
    go_wp2_with (first
      | (go_at_call 33; refine (LV.out _ HT.out).mono ?_; rintro r w1 ⟨rfl, hb⟩; replace HT := Lib.hid (HT.out.below hb); replace B := Lib.hid (bl_thru B.out (Nat.le_refl _) hb); clear hb)
      | (go_at_call 34; ((with_reducible refine (N1.out _ HT.out).mono ?_); rintro r w1 ⟨rfl, hb⟩; replace HT := Lib.hid (HT.out.below hb); replace B := Lib.hid (bl_thru B.out (Nat.le_refl _) hb); clear hb))
      | (go_at_call 34; ((with_reducible refine (N2.out _ HT.out).mono ?_); rintro r w1 ⟨rfl, hb⟩; replace HT := Lib.hid (HT.out.below hb); replace B := Lib.hid (bl_thru B.out (Nat.le_refl _) hb); clear hb))
      | (go_at_call 16; ((with_reducible refine (ok_bl2 _ _ _ _ (by simp)).mono ?_); rintro r w1 ⟨rfl, hb⟩; replace HT := Lib.hid (HT.out.below hb); replace B := Lib.hid (bl_thru B.out (Nat.le_refl _) hb); clear hb)))
    all_goals first
      | (go_ret; refine ⟨rfl, B.out⟩; done)
      | (exfalso; simp_all [ok2, ok3]; done)
      | trace_state
end Go.Proofs.YthlocmhfjandlaaDoor
