/-
  THE WALK of the law HexShifts.
-/
import Derived.Test.YthlocmhfjandlaaGreatDoorHg
import Derived.Test.YthlocmhfjandlaaGreatDoorLz
set_option linter.unusedVariables false
set_option linter.unusedSimpArgs false
namespace Go.Proofs.YthlocmhfjandlaaGreatDoor
open Go.RowKit Nt Fm Fl

theorem trim_nil {l cs : List UInt8} (h : Lib.trimS l cs = []) : ∀ c ∈ l, cs.contains c = true := by
  have hdw : ∀ m : List UInt8, m.dropWhile (cs.contains ·) = [] → ∀ c ∈ m, cs.contains c = true := by
    intro m hm c hc
    rw [← List.takeWhile_append_dropWhile (p := (cs.contains ·)) (l := m), hm, List.append_nil] at hc
    exact takeW_mem hc
  have h1 := hdw _ h
  intro c hc
  rw [← List.mem_reverse, ← List.takeWhile_append_dropWhile (p := (cs.contains ·)) (l := l.reverse)] at hc
  rcases List.mem_append.1 hc with hc | hc
  · exact takeW_mem hc
  · exact h1 c (List.mem_reverse.2 hc)
theorem hn_bd (neg : Bool) (M : Nat) (K mode : Int) : 0 ≤ hnV neg M K mode := by
  unfold hnV
  split
  · split <;> omega
  · unfold numR; split <;> omega
/-- three texts of one number -/
theorem shifts_law (d : List UInt8) (k mode : Int) :
    hnV false (hxN 0 (d ++ [48])) (k - 4 * (([48] : List UInt8).length : Int)) mode = hnV false (hxN 0 ([48] ++ d ++ [])) (k - 4 * (([] : List UInt8).length : Int)) mode ∧
    hnC false (hxN 0 (d ++ [48])) (k - 4 * (([48] : List UInt8).length : Int)) = hnC false (hxN 0 ([48] ++ d ++ [])) (k - 4 * (([] : List UInt8).length : Int)) ∧
    hnV false (hxN 0 ([] ++ d)) (k - 4 * (d.length : Int)) mode ≤ hnV false (hxN 0 (d ++ [48])) (k - 4 * (([48] : List UInt8).length : Int)) mode := by
  have e1 : hxN 0 (d ++ [48]) = hxN 0 d * 2 ^ 4 := by rw [hxN_app]; rfl
  have e2 : hxN 0 ([48] ++ d ++ []) = hxN 0 d := by rw [List.append_nil, hxN_app]; rfl
  have e3 : hxN 0 ([] ++ d) = hxN 0 d := rfl
  rw [e1, e2, e3]
  obtain ⟨h1, h2⟩ := hn_shift false (hxN 0 d) 4 k mode
  have e4 : k - 4 * (([48] : List UInt8).length : Int) = k - ((4 : Nat) : Int) := rfl
  have e5 : k - 4 * (([] : List UInt8).length : Int) = k := by simp
  rw [e4, e5, h1, h2]
  exact ⟨rfl, rfl, hn_mono _ _ _ _ (by omega)⟩
theorem trimHex_any (d : List UInt8) (D : ByteArray) (hD : D = ⟨d.toArray⟩) (hl : d.length ≤ 1000) (w : World) :
    Calls Tryz.prog 38 #[.string D, .string ⟨#[48, 49, 50, 51, 52, 53, 54, 55, 56, 57, 97, 98, 99, 100, 101, 102]⟩] w fun e w' => e = .returned (.string ⟨(Lib.trimS d hexCs).toArray⟩) ∧ Below w.heap.size w w' := by
  have zD : D.size = d.length := by rw [hD]; rfl
  have h := trim_any D hexCs (by decide) (by decide) w (by omega)
  rw [show D.data.toList = d by rw [hD]] at h
  exact h
set_option maxRecDepth 100000 in
set_option maxHeartbeats 8000000 in
theorem walkHexShifts (D : ByteArray) (E : ByteArray) (mode : Int) (mode0 : -9223372036854775808 ≤ mode) (mode1 : mode ≤ 9223372036854775807) (w : World) (hT : Tab w) (hT10 : Tab10 w) :
    Calls Tryz.prog 8 #[.string D, .string E, .int .i64 mode] w fun e w' => e = .returned (.bool true) ∧ Below w.heap.size w w' := by
  obtain ⟨d, hd⟩ : ∃ d, d = D.data.toList := ⟨_, rfl⟩
  obtain ⟨e, he⟩ : ∃ e, e = E.data.toList := ⟨_, rfl⟩
  have hD : D = ⟨d.toArray⟩ := by rw [hd]
  have hE : E = ⟨e.toArray⟩ := by rw [he]
  have zD : D.size = d.length := by rw [hD]; rfl
  have zE : E.size = e.length := by rw [hE]; rfl
  have eD := empt d D hD
  have HT := Lib.hid hT
  have H10 := Lib.hid hT10
  have B : Hid (Below w.heap.size w w) := Lib.hid (Below.refl w.heap.size w)
  have LV := Lib.hid (fun w' h1 h2 => hexLives_any w' h1 h2)
  clear hT hT10 hd he
  by_cases hgd : d.isEmpty = false ∧ d.length ≤ 100 ∧ e.length ≤ 100
  · obtain ⟨g1, g2, g3⟩ := hgd
    have TR := Lib.hid (fun w' => trimHex_any d D hD (by omega) w')
    obtain ⟨TS, hTS⟩ : ∃ T : ByteArray, T = ⟨(Lib.trimS d hexCs).toArray⟩ := ⟨_, rfl⟩
    rw [← hTS] at TR
    have eT := empt _ TS hTS
    rw [g1] at eD
    have i1 : ¬ (100 : Int) < ((D.size : Nat) : Int) := by omega
    have i2 : ¬ (100 : Int) < ((E.size : Nat) : Int) := by omega
    cases htb : (Lib.trimS d hexCs).isEmpty
    · rw [htb] at eT
      clear hTS htb hD hE zD zE
      go_enter Tryz.func8, Tryz.ntmps8
      go_wp2_with (first
        | (go_at_call 38; refine (TR.out _).mono ?_; rintro r w1 ⟨rfl, hb⟩; replace HT := Lib.hid (HT.out.below hb); replace H10 := Lib.hid (H10.out.below hb); replace B := Lib.hid (bl_thru B.out (Nat.le_refl _) hb); clear hb)
        | (go_at_call 32; refine (LV.out _ HT.out H10.out).mono ?_; rintro r w1 ⟨rfl, hb⟩; replace HT := Lib.hid (HT.out.below hb); replace H10 := Lib.hid (H10.out.below hb); replace B := Lib.hid (bl_thru B.out (Nat.le_refl _) hb); clear hb))
      all_goals first
        | (go_ret; refine ⟨rfl, B.out⟩; done)
        | (exfalso; simp_all; done)
        | trace_state
    · have hhx := trim_nil (List.isEmpty_iff.1 htb)
      rw [htb] at eT
      obtain ⟨t6, power, rest, down, up, P⟩ := prx_any e
      have hhx0 : ∀ c ∈ [(48 : UInt8)] ++ d, hexCs.contains c = true := fun c hc => by
        rcases List.mem_append.1 hc with h | h
        · obtain rfl := List.mem_singleton.1 h; decide
        · exact hhx c h
      have P1 := prs_point P false d [48] hhx (fun c hc => by obtain rfl := List.mem_singleton.1 hc; decide)
      have P2 := prs_point P false [] d (fun c hc => by simp at hc) hhx
      have P3 := prs_whole P false ([48] ++ d) hhx0
      have s1 : (⟨#[48, 120]⟩ : ByteArray) ++ D ++ ⟨#[46]⟩ ++ ⟨#[48, 112]⟩ ++ E = ⟨((if false = true then [45] else []) ++ ([48, 120] ++ (d ++ 46 :: ([48] ++ 112 :: e)))).toArray⟩ := by
        rw [ba_app [48, 120] d rfl hD, ba_app _ [46] rfl rfl, ba_app _ [48, 112] rfl rfl, ba_app _ e rfl hE]
        simp
      have s2 : (⟨#[48, 120, 46]⟩ : ByteArray) ++ D ++ ⟨#[112]⟩ ++ E = ⟨((if false = true then [45] else []) ++ ([48, 120] ++ ([] ++ 46 :: (d ++ 112 :: e)))).toArray⟩ := by
        rw [ba_app [48, 120, 46] d rfl hD, ba_app _ [112] rfl rfl, ba_app _ e rfl hE]
        simp
      have s3 : (⟨#[48, 120, 48]⟩ : ByteArray) ++ D ++ ⟨#[112]⟩ ++ E = ⟨((if false = true then [45] else []) ++ ([48, 120] ++ (([48] ++ d) ++ 112 :: e))).toArray⟩ := by
        rw [ba_app [48, 120, 48] d rfl hD, ba_app _ [112] rfl rfl, ba_app _ e rfl hE]
        simp
      have N1 := Lib.hid (fun w' => hnumber_any P1 _ s1 mode w')
      have N2 := Lib.hid (fun w' => hnumber_any P2 _ s2 mode w')
      have N3 := Lib.hid (fun w' => hnumber_any P3 _ s3 mode w')
      have hne : d ≠ [] := fun h => by rw [h] at g1; cases g1
      obtain ⟨bad, hbad⟩ : ∃ bad, bad = (power.isEmpty || decide (5 < power.length) || !rest.isEmpty) := ⟨_, rfl⟩
      have b1 : prBad d [48] power rest true true = bad := by unfold prBad; rw [hbad, show List.isEmpty (d ++ [48] : List UInt8) = false by cases d <;> rfl]; simp
      have b2 : prBad [] d power rest true true = bad := by unfold prBad; rw [hbad, show List.isEmpty ([] ++ d : List UInt8) = false from g1]; simp
      have b3 : prBad ([48] ++ d) [] power rest true true = bad := by unfold prBad; rw [hbad]; simp
      rw [b1] at N1
      rw [b2] at N2
      rw [b3] at N3
      obtain ⟨Er, hEr⟩ : ∃ Er, Er = if knownB mode = true then (if bad = true then (5 : Int) else 0) else 1 := ⟨_, rfl⟩
      have hn : ∀ s : List UInt8, s.length ≤ 1000 → hnE s bad mode = Er := fun s hs => by rw [hEr]; unfold hnE; rw [if_neg (show ¬ 1000 < s.length by omega)]
      rw [hn _ (by simp; omega)] at N1
      rw [hn _ (by simp; omega)] at N2
      rw [hn _ (by simp; omega)] at N3
      have SL := shifts_law d (if down = true then -((dcN 0 power : Nat) : Int) else ((dcN 0 power : Nat) : Int)) mode
      unfold prK at N1 N2 N3
      obtain ⟨l1, l2, l3⟩ := SL
      rw [← l1, ← l2] at N3
      generalize hnV false (hxN 0 (d ++ [48])) ((if down = true then -((dcN 0 power : Nat) : Int) else ((dcN 0 power : Nat) : Int)) - 4 * (([48] : List UInt8).length : Int)) mode = X at *
      generalize hnC false (hxN 0 (d ++ [48])) ((if down = true then -((dcN 0 power : Nat) : Int) else ((dcN 0 power : Nat) : Int)) - 4 * (([48] : List UInt8).length : Int)) = XC at *
      generalize hnV false (hxN 0 ([] ++ d)) ((if down = true then -((dcN 0 power : Nat) : Int) else ((dcN 0 power : Nat) : Int)) - 4 * (d.length : Int)) mode = Y at *
      generalize hnC false (hxN 0 ([] ++ d)) ((if down = true then -((dcN 0 power : Nat) : Int) else ((dcN 0 power : Nat) : Int)) - 4 * (d.length : Int)) = YC at *
      unfold RetUBE at N1 N2 N3
      have zd : D.size ≤ 100 := by omega
      have ze : E.size ≤ 100 := by omega
      clear P P1 P2 P3 s1 s2 s3 hbad b1 b2 b3 hEr hn l1 l2 hhx hhx0 hne hTS htb hD hE zD zE
      by_cases hE0 : Er = 0
      · subst hE0
        rw [if_pos rfl, show (decide ((0 : Int) = 0) && XC) = XC by rfl] at N1 N3
        rw [if_pos rfl, show (decide ((0 : Int) = 0) && YC) = YC by rfl] at N2
        go_enter Tryz.func8, Tryz.ntmps8
        go_wp2_with (first
          | (go_at_call 38; refine (TR.out _).mono ?_; rintro r w1 ⟨rfl, hb⟩; replace HT := Lib.hid (HT.out.below hb); replace H10 := Lib.hid (H10.out.below hb); replace B := Lib.hid (bl_thru B.out (Nat.le_refl _) hb); clear hb)
          | (go_at_call 42; ((with_reducible refine (N1.out _).mono ?_); rintro r w1 ⟨rfl, hb⟩; replace HT := Lib.hid (HT.out.below hb); replace H10 := Lib.hid (H10.out.below hb); replace B := Lib.hid (bl_thru B.out (Nat.le_refl _) hb); clear hb))
          | (go_at_call 42; ((with_reducible refine (N2.out _).mono ?_); rintro r w1 ⟨rfl, hb⟩; replace HT := Lib.hid (HT.out.below hb); replace H10 := Lib.hid (H10.out.below hb); replace B := Lib.hid (bl_thru B.out (Nat.le_refl _) hb); clear hb))
          | (go_at_call 42; ((with_reducible refine (N3.out _).mono ?_); rintro r w1 ⟨rfl, hb⟩; replace HT := Lib.hid (HT.out.below hb); replace H10 := Lib.hid (H10.out.below hb); replace B := Lib.hid (bl_thru B.out (Nat.le_refl _) hb); clear hb))
          | (go_at_call 32; refine (LV.out _ HT.out H10.out).mono ?_; rintro r w1 ⟨rfl, hb⟩; replace HT := Lib.hid (HT.out.below hb); replace H10 := Lib.hid (H10.out.below hb); replace B := Lib.hid (bl_thru B.out (Nat.le_refl _) hb); clear hb))
        all_goals first
          | (go_ret; refine ⟨rfl, B.out⟩; done)
          | (go_ret; refine ⟨?_, B.out⟩; simp_all; done)
          | (exfalso; simp_all; done)
          | trace_state
      · have hE1 : (Er == 0) = false := by rw [beq_eq_false_iff_ne]; exact hE0
        have hE2 : (Er != 0) = true := by rw [bne_iff_ne]; exact hE0
        rw [if_neg hE0, show (decide (Er = 0) && XC) = false by simp [hE0]] at N1 N3
        rw [if_neg hE0, show (decide (Er = 0) && YC) = false by simp [hE0]] at N2
        go_enter Tryz.func8, Tryz.ntmps8
        go_wp2_with (first
          | (go_at_call 38; refine (TR.out _).mono ?_; rintro r w1 ⟨rfl, hb⟩; replace HT := Lib.hid (HT.out.below hb); replace H10 := Lib.hid (H10.out.below hb); replace B := Lib.hid (bl_thru B.out (Nat.le_refl _) hb); clear hb)
          | (go_at_call 42; ((with_reducible refine (N1.out _).mono ?_); rintro r w1 ⟨rfl, hb⟩; replace HT := Lib.hid (HT.out.below hb); replace H10 := Lib.hid (H10.out.below hb); replace B := Lib.hid (bl_thru B.out (Nat.le_refl _) hb); clear hb))
          | (go_at_call 42; ((with_reducible refine (N2.out _).mono ?_); rintro r w1 ⟨rfl, hb⟩; replace HT := Lib.hid (HT.out.below hb); replace H10 := Lib.hid (H10.out.below hb); replace B := Lib.hid (bl_thru B.out (Nat.le_refl _) hb); clear hb))
          | (go_at_call 42; ((with_reducible refine (N3.out _).mono ?_); rintro r w1 ⟨rfl, hb⟩; replace HT := Lib.hid (HT.out.below hb); replace H10 := Lib.hid (H10.out.below hb); replace B := Lib.hid (bl_thru B.out (Nat.le_refl _) hb); clear hb))
          | (go_at_call 32; refine (LV.out _ HT.out H10.out).mono ?_; rintro r w1 ⟨rfl, hb⟩; replace HT := Lib.hid (HT.out.below hb); replace H10 := Lib.hid (H10.out.below hb); replace B := Lib.hid (bl_thru B.out (Nat.le_refl _) hb); clear hb))
        all_goals first
          | (go_ret; refine ⟨rfl, B.out⟩; done)
          | (go_ret; refine ⟨?_, B.out⟩; simp_all; done)
          | (exfalso; simp_all; done)
          | trace_state
  · by_cases g1 : d.isEmpty = true
    · rw [g1] at eD
      clear hgd hD hE zD zE
      go_enter Tryz.func8, Tryz.ntmps8
      go_wp2_with (go_at_call 32; refine (LV.out _ HT.out H10.out).mono ?_; rintro r w1 ⟨rfl, hb⟩; replace HT := Lib.hid (HT.out.below hb); replace H10 := Lib.hid (H10.out.below hb); replace B := Lib.hid (bl_thru B.out (Nat.le_refl _) hb); clear hb)
      all_goals first
        | (go_ret; refine ⟨rfl, B.out⟩; done)
        | (exfalso; simp_all; done)
        | trace_state
    · have g1' : d.isEmpty = false := by cases h : d.isEmpty; rfl; exact absurd h g1
      rw [g1'] at eD
      by_cases g2 : d.length ≤ 100
      · have g3 : ¬ e.length ≤ 100 := fun h => hgd ⟨g1', g2, h⟩
        have i1 : ¬ (100 : Int) < ((D.size : Nat) : Int) := by omega
        have i2 : (100 : Int) < ((E.size : Nat) : Int) := by omega
        clear hgd hD hE zD zE
        go_enter Tryz.func8, Tryz.ntmps8
        go_wp2_with (go_at_call 32; refine (LV.out _ HT.out H10.out).mono ?_; rintro r w1 ⟨rfl, hb⟩; replace HT := Lib.hid (HT.out.below hb); replace H10 := Lib.hid (H10.out.below hb); replace B := Lib.hid (bl_thru B.out (Nat.le_refl _) hb); clear hb)
        all_goals first
          | (go_ret; refine ⟨rfl, B.out⟩; done)
          | (exfalso; simp_all; done)
          | trace_state
      · have i1 : (100 : Int) < ((D.size : Nat) : Int) := by omega
        clear hgd hD hE zD zE
        go_enter Tryz.func8, Tryz.ntmps8
        go_wp2_with (go_at_call 32; refine (LV.out _ HT.out H10.out).mono ?_; rintro r w1 ⟨rfl, hb⟩; replace HT := Lib.hid (HT.out.below hb); replace H10 := Lib.hid (H10.out.below hb); replace B := Lib.hid (bl_thru B.out (Nat.le_refl _) hb); clear hb)
        all_goals first
          | (go_ret; refine ⟨rfl, B.out⟩; done)
          | (exfalso; simp_all; done)
          | trace_state
end Go.Proofs.YthlocmhfjandlaaGreatDoor
