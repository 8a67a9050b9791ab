/-
  SOME OF MY TEXTS in one: Yj Yk. Each says what it proves.
-/
import Derived.Test.YtmpdbmaokbhcjaaGreatDoorYhi
import Derived.BigQuiet
import Derived.Deep.QuietTactic
import Derived.Test.YtmpdbmaokbhcjaaGreatDoorYfg
import Derived.Test.YtmpdbmaokbhcjaaGreatDoorLk
set_option linter.unusedVariables false
set_option linter.unusedSimpArgs false
/-
  THE WALK of short.Text.
-/
namespace Go.Proofs.YtmpdbmaokbhcjaaGreatDoor
open Go.RowKit Nt Fm Fl

def sg1 (b : Bool) : List UInt8 := if b = true then [45] else []
theorem stext_nan (x : Int) (sg : Bool) (hsg : (x / 9223372036854775808 == 1) = sg) (w : World) (CL : Hid (∀ w' : World, Calls Tryz.prog 24 #[.int .u64 x] w' fun e w2 => e = .returned (.int .i64 5) ∧ w' = w2)) :
    Calls Tryz.prog 25 #[.int .u64 x] w fun e w' => e = .returned (.string ⟨#[110, 97, 110]⟩) ∧ Below w.heap.size w w' := by
  go_enter Tryz.func25, Tryz.ntmps25
  go_wp2_with (go_at_call 24; refine (CL.out _).mono ?_; rintro e w1 ⟨rfl, rfl⟩)
  all_goals first
    | (go_ret; exact ⟨rfl, Below.refl _ _⟩; done)
    | (exfalso; simp_all; done)
    | trace_state
theorem stext_inf (x : Int) (sg : Bool) (hsg : (x / 9223372036854775808 == 1) = sg) (w : World) (CL : Hid (∀ w' : World, Calls Tryz.prog 24 #[.int .u64 x] w' fun e w2 => e = .returned (.int .i64 4) ∧ w' = w2)) :
    Calls Tryz.prog 25 #[.int .u64 x] w fun e w' => e = .returned (.string ⟨(sg1 sg ++ [105, 110, 102]).toArray⟩) ∧ Below w.heap.size w w' := by
  cases sg
  all_goals
    go_enter Tryz.func25, Tryz.ntmps25
    go_wp2_with (go_at_call 24; refine (CL.out _).mono ?_; rintro e w1 ⟨rfl, rfl⟩)
    all_goals first
      | (go_ret; exact ⟨rfl, Below.refl _ _⟩; done)
      | (exfalso; simp_all; done)
      | trace_state
theorem stext_zero (x : Int) (sg : Bool) (hsg : (x / 9223372036854775808 == 1) = sg) (w : World) (CL : Hid (∀ w' : World, Calls Tryz.prog 24 #[.int .u64 x] w' fun e w2 => e = .returned (.int .i64 1) ∧ w' = w2)) :
    Calls Tryz.prog 25 #[.int .u64 x] w fun e w' => e = .returned (.string ⟨(sg1 sg ++ [48]).toArray⟩) ∧ Below w.heap.size w w' := by
  cases sg
  all_goals
    go_enter Tryz.func25, Tryz.ntmps25
    go_wp2_with (go_at_call 24; refine (CL.out _).mono ?_; rintro e w1 ⟨rfl, rfl⟩)
    all_goals first
      | (go_ret; exact ⟨rfl, Below.refl _ _⟩; done)
      | (exfalso; simp_all; done)
      | trace_state
theorem st_one {d l : List UInt8} {D P : ByteArray} {n : Nat} (hD : D = ⟨d.toArray⟩) (hP : P = ⟨l.toArray⟩) (hn : n = d.length) (s : List UInt8) : (⟨s.toArray⟩ : ByteArray) ++ D.extract 0 1 ++ (⟨#[46]⟩ ++ D.extract 1 n) ++ ⟨#[101]⟩ ++ P = ⟨(s ++ (d.take 1 ++ ((46 :: d.drop 1) ++ 101 :: l))).toArray⟩ := by
  subst hD hP hn
  apply ByteArray.ext
  simp [ByteArray.data_extract]
  exact List.take_of_length_le (by simp)
theorem st_two {d l : List UInt8} {D P : ByteArray} {n : Nat} (hD : D = ⟨d.toArray⟩) (hP : P = ⟨l.toArray⟩) (hn : n = d.length) (s : List UInt8) : (⟨s.toArray⟩ : ByteArray) ++ D.extract 0 1 ++ ⟨#[101]⟩ ++ P = ⟨(s ++ (d.take 1 ++ ([] ++ 101 :: l))).toArray⟩ := by
  subst hD hP hn
  apply ByteArray.ext
  simp [ByteArray.data_extract]
set_option maxRecDepth 100000 in
set_option maxHeartbeats 16000000 in
theorem st_w (x c k er : Int) (b1 : (c == 1) = false) (b4 : (c == 4) = false) (b5 : (c == 5) = false) (b5' : (c != 5) = true) (sg : Bool) (hsg : (x / 9223372036854775808 == 1) = sg) (w : World) (CL : Hid (∀ w' : World, Calls Tryz.prog 24 #[.int .u64 x] w' fun e w2 => e = .returned (.int .i64 c) ∧ w' = w2))
    (D : ByteArray) (n : Nat) (zD : D.size = n) (hd0 : 1 ≤ n) (hdl : n ≤ 30) (HT : Hid (Tab w)) (H10 : Hid (Tab10 w))
    (DG : Hid (∀ w' : World, Tab w' → Tab10 w' → Calls Tryz.prog 27 #[.int .u64 x] w' fun e w2 => e = .returned (.tuple #[.string D, .int .i64 k, .int .i64 er]) ∧ Below w'.heap.size w' w2))
    (k0 : -500 ≤ k) (k1 : k ≤ 500) (p : Int) (hp : k + (n : Int) - 1 = p) (G T R : ByteArray) (hG : G = ⟨(sg1 sg).toArray⟩) (zT : T.size ≤ 100)
    (hR : ((p < -5 ∨ ¬ p < -5 ∧ 20 < p) ∧ (∀ w' : World, Tab10 w' → Calls Tryz.prog 58 #[.int .i64 p] w' fun e w2 => e = .returned (.string T) ∧ Below w'.heap.size w' w2) ∧ ((1 : Int) < (n : Int) ∧ R = G ++ D.extract 0 1 ++ (⟨#[46]⟩ ++ D.extract 1 n) ++ ⟨#[101]⟩ ++ T ∨ ¬ (1 : Int) < (n : Int) ∧ R = G ++ D.extract 0 1 ++ ⟨#[101]⟩ ++ T)) ∨
      (¬ p < -5 ∧ ¬ 20 < p ∧ (∃ z : Int, (∀ X (w' : World), X = z → Calls Tryz.prog 70 #[.string ⟨#[48]⟩, .int .i64 X] w' fun e w2 => e = .returned (.string T) ∧ Below w'.heap.size w' w2) ∧ ((0 ≤ k ∧ z = k ∧ R = G ++ D ++ T) ∨ (¬ 0 ≤ k ∧ ¬ 0 ≤ p ∧ z = -p - 1 ∧ R = G ++ ⟨#[48, 46]⟩ ++ T ++ D)))) ∨
      (¬ p < -5 ∧ ¬ 20 < p ∧ ¬ 0 ≤ k ∧ 0 ≤ p ∧ ∃ q : Nat, p + 1 = (q : Int) ∧ q ≤ n ∧ R = G ++ D.extract 0 q ++ ⟨#[46]⟩ ++ D.extract q n)) :
    Calls Tryz.prog 25 #[.int .u64 x] w fun e w' => e = .returned (.string R) ∧ Below w.heap.size w w' := by
  have B : Hid (Below w.heap.size w w) := Lib.hid (Below.refl _ _)
  subst hG
  rcases hR with ⟨h | ⟨h0, h⟩, hP, ⟨h1n, rfl⟩ | ⟨h1n, rfl⟩⟩ | ⟨h0, h, z, hP, ⟨hk, rfl, rfl⟩ | ⟨hk, hpp, rfl, rfl⟩⟩ | ⟨h0, h, hk, hpp, q, hq, hqn, rfl⟩ <;> cases sg
  all_goals
    try have PW := Lib.hid hP
    try clear hP
    go_enter Tryz.func25, Tryz.ntmps25
    go_wp2_with (first
      | (go_at_call 24; refine (CL.out _).mono ?_; rintro e w1 ⟨rfl, rfl⟩)
      | (go_at_call 27; refine (DG.out _ HT.out H10.out).mono ?_; rintro e w2 ⟨rfl, hb⟩; replace H10 := Lib.hid (H10.out.below hb); replace B := Lib.hid (bl_thru B.out (Nat.le_refl _) hb); clear hb)
      | (first | (go_at_call 58; refine (PW.out _ H10.out).mono ?_) | (go_at_call 70; refine (PW.out _ _ (by omega)).mono ?_)
         rintro e w3 ⟨rfl, hb⟩; replace B := Lib.hid (bl_thru B.out (Nat.le_refl _) hb); clear hb))
    all_goals first
      | (go_ret; exact ⟨rfl, B.out⟩; done)
      | (go_quiet (fail)
         replace B := Lib.hid (below_to_drewN (n := nq) B.out)
         go_wp2
         all_goals first
           | (go_ret; exact ⟨rfl, B.out⟩; done)
           | (exfalso; simp_all; done))
      | (exfalso; simp_all; done)
theorem st_fin {a b : ByteArray} (h : a = b) (x : Int) (w : World) (H : Calls Tryz.prog 25 #[.int .u64 x] w fun e w' => e = .returned (.string a) ∧ Below w.heap.size w w') :
    Calls Tryz.prog 25 #[.int .u64 x] w fun e w' => e = .returned (.string b) ∧ Below w.heap.size w w' := by rw [← h]; exact H
theorem st_three {d l : List UInt8} {D P : ByteArray} (hD : D = ⟨d.toArray⟩) (hP : P = ⟨l.toArray⟩) (s : List UInt8) : (⟨s.toArray⟩ : ByteArray) ++ D ++ P = ⟨(s ++ (d ++ l)).toArray⟩ := by
  subst hD hP
  apply ByteArray.ext
  simp
theorem st_four {d : List UInt8} {D : ByteArray} {n q : Nat} (hD : D = ⟨d.toArray⟩) (hn : n = d.length) (s : List UInt8) : (⟨s.toArray⟩ : ByteArray) ++ D.extract 0 q ++ ⟨#[46]⟩ ++ D.extract q n = ⟨(s ++ (d.take q ++ 46 :: d.drop q)).toArray⟩ := by
  subst hD hn
  apply ByteArray.ext
  simp [ByteArray.data_extract]
  exact List.take_of_length_le (by simp)
theorem st_five {d l : List UInt8} {D P : ByteArray} (hD : D = ⟨d.toArray⟩) (hP : P = ⟨l.toArray⟩) (s : List UInt8) : (⟨s.toArray⟩ : ByteArray) ++ ⟨#[48, 46]⟩ ++ P ++ D = ⟨(s ++ (48 :: 46 :: (l ++ d))).toArray⟩ := by
  subst hD hP
  apply ByteArray.ext
  simp
theorem stext_val (x c : Int) (hc1 : c ≠ 1) (hc4 : c ≠ 4) (hc5 : c ≠ 5) (sg : Bool) (hsg : (x / 9223372036854775808 == 1) = sg) (w : World) (CL : Hid (∀ w' : World, Calls Tryz.prog 24 #[.int .u64 x] w' fun e w2 => e = .returned (.int .i64 c) ∧ w' = w2))
    (d : List UInt8) (k er : Int) (D : ByteArray) (hD : D = ⟨d.toArray⟩) (hd0 : 1 ≤ d.length) (hdl : d.length ≤ 30) (k0 : -500 ≤ k) (k1 : k ≤ 500) (HT : Hid (Tab w)) (H10 : Hid (Tab10 w))
    (DG : Hid (∀ w' : World, Tab w' → Tab10 w' → Calls Tryz.prog 27 #[.int .u64 x] w' fun e w2 => e = .returned (.tuple #[.string D, .int .i64 k, .int .i64 er]) ∧ Below w'.heap.size w' w2)) :
    Calls Tryz.prog 25 #[.int .u64 x] w fun e w' => e = .returned (.string ⟨(sg1 sg ++ stB d k).toArray⟩) ∧ Below w.heap.size w w' := by
  have b1 : (c == 1) = false := by rw [beq_eq_false_iff_ne]; exact hc1
  have b4 : (c == 4) = false := by rw [beq_eq_false_iff_ne]; exact hc4
  have b5 : (c == 5) = false := by rw [beq_eq_false_iff_ne]; exact hc5
  have b5' : (c != 5) = true := by rw [bne_iff_ne]; exact hc5
  obtain ⟨n, hn⟩ : ∃ n, n = d.length := ⟨_, rfl⟩
  have zD : D.size = n := by rw [hD, hn]; rfl
  obtain ⟨p, hp⟩ : ∃ p, k + (n : Int) - 1 = p := ⟨_, rfl⟩
  rw [← hn] at hd0 hdl
  unfold stB
  rw [← hn, hp]
  have W := fun T R zT hR => st_w x c k er b1 b4 b5 b5' sg hsg w CL D n zD hd0 hdl HT H10 DG k0 k1 p hp _ T R rfl zT hR
  by_cases c1 : p < -5 ∨ 20 < p
  · rw [if_pos c1]
    have PW := fun w' (h : Tab10 w') => power_any p w' (by omega) (by omega) h
    have zP : (⟨(pwS p).toArray⟩ : ByteArray).size ≤ 100 := by
      show (pwS p).toArray.size ≤ 100
      have h2 := dec_mono (show p.natAbs ≤ 9999 by omega)
      have h3 : (Lib.decDigits 9999).length = 4 := by decide +kernel
      unfold pwS
      rw [List.size_toArray, List.length_cons, List.length_append]
      split <;> simp <;> omega
    have hc : p < -5 ∨ ¬ p < -5 ∧ 20 < p := by omega
    by_cases h1n : 1 < n
    · rw [if_pos h1n]
      exact st_fin (st_one hD rfl hn (sg1 sg)) x w (W _ _ zP (Or.inl ⟨hc, PW, Or.inl ⟨by omega, rfl⟩⟩))
    · rw [if_neg h1n]
      exact st_fin (st_two hD rfl hn (sg1 sg)) x w (W _ _ zP (Or.inl ⟨hc, PW, Or.inr ⟨by omega, rfl⟩⟩))
  · rw [if_neg c1]
    have zR : ∀ z : Nat, z ≤ 100 → (⟨(List.replicate z (48 : UInt8)).toArray⟩ : ByteArray).size ≤ 100 := by
      intro z hz; show (List.replicate z (48 : UInt8)).toArray.size ≤ 100; simp; omega
    by_cases hk : 0 ≤ k
    · rw [if_pos hk]
      exact st_fin (st_three hD rfl (sg1 sg)) x w (W _ _ (zR _ (by omega)) (Or.inr (Or.inl ⟨by omega, by omega, k, fun X w' h => rep_any k.toNat X (by omega) (by omega) w', Or.inl ⟨hk, rfl, rfl⟩⟩)))
    · rw [if_neg hk]
      by_cases hpp : 0 ≤ p
      · rw [if_pos hpp]
        exact st_fin (st_four hD hn (sg1 sg)) x w (W ⟨#[]⟩ _ (by decide) (Or.inr (Or.inr ⟨by omega, by omega, hk, hpp, (k + (n : Int)).toNat, by omega, by omega, rfl⟩)))
      · rw [if_neg hpp]
        exact st_fin (st_five hD rfl (sg1 sg)) x w (W _ _ (zR _ (by omega)) (Or.inr (Or.inl ⟨by omega, by omega, -p - 1, fun X w' h => rep_any (-(k + (n : Int))).toNat X (by omega) (by omega) w', Or.inr ⟨hk, hpp, rfl, rfl⟩⟩)))
theorem stext_any (x : Int) (x0 : 0 ≤ x) (x1 : x ≤ 18446744073709551615) (w : World) (hT : Tab w) (hT10 : Tab10 w) :
    Calls Tryz.prog 25 #[.int .u64 x] w fun e w' => e = .returned (.string ⟨(stT x).toArray⟩) ∧ Below w.heap.size w w' := by
  have CL := Lib.hid (fun w' => class_any x x0 x1 w')
  have hsg : (x / 9223372036854775808 == 1) = decide (9223372036854775808 ≤ x) := by
    rw [Bool.eq_iff_iff, beq_iff_eq, decide_eq_true_eq]; omega
  have hsS : sgS x = sg1 (decide (9223372036854775808 ≤ x)) := sgS_if x
  unfold stT
  by_cases h5 : fcls x = 5
  · rw [if_pos h5]
    rw [h5] at CL
    exact stext_nan x _ hsg w CL
  · rw [if_neg h5, hsS]
    by_cases h4 : fcls x = 4
    · rw [if_pos h4]
      rw [h4] at CL
      exact stext_inf x _ hsg w CL
    · rw [if_neg h4]
      by_cases h1 : fcls x = 1
      · rw [if_pos h1]
        rw [h1] at CL
        exact stext_zero x _ hsg w CL
      · rw [if_neg h1]
        have hab := fabs_bd x
        have hv : hasV x = true := by
          unfold hasV
          rw [decide_eq_true_eq]
          unfold fcls at h1 h4 h5
          repeat' split at h1
          all_goals omega
        have hx : 1 ≤ fabs x := by
          unfold fcls at h1
          split at h1
          · exact absurd rfl h1
          · omega
        obtain ⟨t1, t2, t3, t4, t5, -⟩ := shT_facts x0 x1 hx
        have hl1 : 1 ≤ (shT x).length := by
          cases h : shT x with
          | nil => exact absurd h t2
          | cons a b => simp
        have DG := Lib.hid (fun w' h1 h2 => sdigits_good x x0 x1 hv hx w' h1 h2)
        unfold RetSIE at DG
        exact stext_val x (fcls x) h1 h4 h5 _ hsg w CL (shT x) (shX x) 0 _ rfl hl1 (by omega) (by omega) (by omega) (Lib.hid hT) (Lib.hid hT10) DG
end Go.Proofs.YtmpdbmaokbhcjaaGreatDoor

/-
  THE WALK of shortLives.
-/
namespace Go.Proofs.YtmpdbmaokbhcjaaGreatDoor
open Go.RowKit Nt Fm Fl

theorem sl_lg1 : lgD (shD 1) = -324 := lgD_eq (by unfold IsLg; decide +kernel)
theorem sl_lg2 : lgD (shD 13815242216921733530) = -1 := lgD_eq (by unfold IsLg; decide +kernel)
theorem sl_k1 : shK 1 1 = -324 := by unfold shK; rw [sl_lg1]; decide
theorem sl_k2 : shK 13815242216921733530 1 = -1 := by unfold shK; rw [sl_lg2]; decide
theorem sl_q1 : shQ 1 1 = 4 := by unfold shQ; rw [sl_k1]; decide +kernel
theorem sl_q2 : shQ 13815242216921733530 1 = 1 := by unfold shQ; rw [sl_k2]; decide +kernel
theorem sl_f1 : shFa 1 1 = true ∧ shFc 1 1 = true ∧ shHf 1 1 < 0 := by
  unfold shFa shFc shHf
  rw [sl_q1, sl_k1]
  decide +kernel
theorem sl_f2 : shFa 13815242216921733530 1 = true ∧ shFc 13815242216921733530 1 = false := by
  unfold shFa shFc
  rw [sl_q2, sl_k2]
  decide +kernel
theorem sl_one : shT 1 = [53] ∧ shX 1 = -324 := by
  obtain ⟨a, b, c⟩ := sl_f1
  have hc : shC 1 1 = true := by
    unfold shC
    rw [if_pos ⟨a, b⟩, Bool.or_eq_true, decide_eq_true_eq]
    exact Or.inl c
  obtain ⟨e1, e2⟩ := sh_end (x := 1) (by omega) (by omega) (by decide) (n := 1) (by omega) (by unfold shSt; rw [a]; rfl) (fun i h1 h2 => by omega) hc
  rw [sl_q1] at e1 e2
  have e3 : shT 1 = [53] := e1.trans (by decide +kernel)
  refine ⟨e3, ?_⟩
  rw [e2, e3, sl_k1]
  decide +kernel
theorem sl_two : shT 13815242216921733530 = [49] ∧ shX 13815242216921733530 = -1 := by
  obtain ⟨a, b⟩ := sl_f2
  have hc : shC 13815242216921733530 1 = false := by
    unfold shC
    rw [if_neg (by rw [b]; exact fun h => absurd h.2 (by decide))]
    exact b
  obtain ⟨e1, e2⟩ := sh_end (x := 13815242216921733530) (by omega) (by omega) (by decide) (n := 1) (by omega) (by unfold shSt; rw [a]; rfl) (fun i h1 h2 => by omega) hc
  rw [sl_q2] at e1 e2
  have e3 : shT 13815242216921733530 = [49] := e1.trans (by decide +kernel)
  refine ⟨e3, ?_⟩
  rw [e2, e3, sl_k2]
  decide +kernel
theorem sl_text : stT 13815242216921733530 = [45, 48, 46, 49] := by
  unfold stT
  rw [if_neg (by decide), if_neg (by decide), if_neg (by decide), sl_two.1, sl_two.2]
  decide +kernel
theorem sl_digits : sdT 1 = [53] ∧ sdX 1 = -324 ∧ sdE 1 = 0 := by
  unfold sdT sdX sdE
  rw [if_pos (by decide), if_pos (by decide), if_pos (by decide), sl_one.1, sl_one.2]
  exact ⟨rfl, rfl, rfl⟩
set_option maxRecDepth 100000 in
set_option maxHeartbeats 4000000 in
theorem shortLives_any (w : World) (hT : Tab w) (hT10 : Tab10 w) :
    Calls Tryz.prog 26 #[] w fun e w' => e = .returned (.bool true) ∧ Below w.heap.size w w' := by
  have DG := Lib.hid (fun w' h1 h2 => sdigits_any 1 (by omega) (by omega) w' h1 h2)
  rw [sl_digits.1, sl_digits.2.1, sl_digits.2.2] at DG
  have TX := Lib.hid (fun w' h1 h2 => stext_any 13815242216921733530 (by omega) (by omega) w' h1 h2)
  rw [sl_text] at TX
  unfold RetSIE at DG
  have HT := Lib.hid hT
  have H10 := Lib.hid hT10
  have B : Hid (Below w.heap.size w w) := Lib.hid (Below.refl w.heap.size w)
  clear hT hT10
  go_enter Tryz.func26, Tryz.ntmps26
  go_wp2_with (first
    | (go_at_call 27; refine (DG.out _ HT.out H10.out).mono ?_; rintro r w1 ⟨rfl, hb⟩; replace HT := Lib.hid (HT.out.below hb); replace H10 := Lib.hid (H10.out.below hb); replace B := Lib.hid (bl_thru B.out (Nat.le_refl _) hb); clear hb)
    | (go_at_call 25; refine (TX.out _ HT.out H10.out).mono ?_; rintro r w1 ⟨rfl, hb⟩; replace HT := Lib.hid (HT.out.below hb); replace H10 := Lib.hid (H10.out.below hb); replace B := Lib.hid (bl_thru B.out (Nat.le_refl _) hb); clear hb))
  all_goals first
    | (go_ret; exact ⟨rfl, B.out⟩; done)
    | (go_ret; refine ⟨?_, B.out⟩; simp_all; done)
    | (exfalso; simp_all; done)
    | trace_state
end Go.Proofs.YtmpdbmaokbhcjaaGreatDoor
