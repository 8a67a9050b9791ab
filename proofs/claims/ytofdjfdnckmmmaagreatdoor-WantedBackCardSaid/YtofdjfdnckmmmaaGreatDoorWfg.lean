/-
  wanted.Format: its contract.
-/
import Derived.Test.YtofdjfdnckmmmaaGreatDoorWff
import Derived.Test.YtofdjfdnckmmmaaGreatDoorWfh
set_option linter.unusedVariables false
set_option linter.unusedSimpArgs false
namespace Go.Proofs.YtofdjfdnckmmmaaGreatDoor
open Go.Shelf Go.RowKit Go.Lib Nt Fm Fl

theorem wf_fin {x : Int} (h : fabs x < 9218868437227405312) : fcls x ≠ 5 ∧ fcls x ≠ 4 := by
  unfold fcls
  repeat' split
  all_goals omega
theorem wf_c4 {x : Int} (h : fabs x = 9218868437227405312) : fcls x = 4 := by
  unfold fcls
  repeat' split
  all_goals omega
theorem wf_c5 {x : Int} (h : 9218868437227405312 < fabs x) : fcls x = 5 := by
  unfold fcls
  repeat' split
  all_goals omega
theorem wErr_01 (f : Spc) : wErr f = 0 ∨ wErr f = 1 := by
  unfold wErr
  by_cases h : ((f.verb ≠ 101 ∧ f.verb ≠ 102 ∧ f.verb ≠ 103 ∧ f.verb ≠ 97) ∨ f.wd < 0 ∨ 200 < f.wd ∨ f.pr < -1 ∨ (if f.verb = 97 then 30 else 100) < f.pr)
  · rw [if_pos h]; exact Or.inr rfl
  · rw [if_neg h]; exact Or.inl rfl
theorem wHead_le (f : Spc) (x : Int) : (wHead f x).length ≤ 1 := by
  unfold wHead
  repeat' split
  all_goals simp
theorem hxW_2 (x : Int) (d : D) (n : Nat) : 2 ≤ (hxW x d n).length := by
  unfold hxW hxP
  rw [List.length_append]
  split <;> simp <;> omega
theorem wIns_len (c : UInt8) (s : List UInt8) : (wIns c s).length = s.length + 1 := by
  have h2 := congrArg List.length (wAB c s)
  unfold wIns
  rw [List.length_append] at h2
  rw [List.length_append, List.length_append, List.length_singleton]
  omega
theorem wVal_2 (f : Spc) {y : Int} (hy : hasV y = true) (hv : f.verb = 97) (p0 : -1 ≤ f.pr) (p1 : f.pr ≤ 30) : 2 ≤ (wVal f y).length := by
  have h0 : 2 ≤ (wVal0 f y).length := by
    have hc : fcls y ≠ 5 ∧ fcls y ≠ 4 := wf_fin (of_decide_eq_true hy)
    unfold wVal0
    rw [if_neg (by omega), if_neg (by omega), if_neg (by omega)]
    split
    · unfold hxT
      rw [if_neg hc.1, if_neg hc.2]
      exact hxW_2 _ _ _
    · rename_i h
      unfold hfS
      rw [if_pos]
      · exact hxW_2 _ _ _
      · rcases hfE_cases y f.pr 0 with ⟨a, b⟩ | ⟨a, b, c⟩ | ⟨a, b, c⟩
        · rw [hy] at a; exact absurd a (by simp)
        · exact absurd ⟨by omega, by omega, p1⟩ b
        · exact c
  unfold wVal
  by_cases h : (f.al = true ∧ 46 ∉ wVal0 f y)
  · rw [if_pos h, wIns_len]; omega
  · rw [if_neg h]; exact h0
theorem wText_ok {f : Spc} {x : Int} {t : List UInt8} {B : ByteArray} {w : World} (hE : wErr f = 0) (ht : wTxt f x = t) (hB : B = ⟨t.toArray⟩) (h : Calls Tryz.prog 9 #[f.v, .int .u64 x] w fun e w' => e = .returned (.tuple #[.string B, .int .i64 0]) ∧ Below w.heap.size w w') :
    Calls Tryz.prog 9 #[f.v, .int .u64 x] w fun e w' => e = .returned (.tuple #[.string ⟨(wS f x).toArray⟩, .int .i64 (wErr f)]) ∧ Below w.heap.size w w' := by
  unfold wS
  rw [if_pos hE, hE, ht, ← hB]
  exact h
theorem rep_size (n : Nat) (b : UInt8) : (⟨(List.replicate n b).toArray⟩ : ByteArray).size = n := by
  show (List.replicate n b).toArray.size = n
  simp
theorem b_app (a b : List UInt8) : (⟨a.toArray⟩ : ByteArray) ++ ⟨b.toArray⟩ = ⟨(a ++ b).toArray⟩ := by
  apply ByteArray.ext
  simp
theorem b_app3 (a b c : List UInt8) : (⟨a.toArray⟩ : ByteArray) ++ ⟨b.toArray⟩ ++ ⟨c.toArray⟩ = ⟨(a ++ b ++ c).toArray⟩ := by rw [b_app, b_app]
theorem b_drop (a : List UInt8) (n k : Nat) (h : n = a.length) : (⟨a.toArray⟩ : ByteArray).extract k n = ⟨(a.drop k).toArray⟩ := by
  subst h
  apply ByteArray.ext
  simp [ByteArray.data_extract]
  rw [List.take_of_length_le (by simp)]
set_option maxHeartbeats 4000000 in
theorem wformat_any (f : Spc) (x : Int) (x0 : 0 ≤ x) (x1 : x ≤ 18446744073709551615) (w : World) (hT : Tab w) (hT10 : Tab10 w) :
    Calls Tryz.prog 9 #[f.v, .int .u64 x] w fun e w' => e = .returned (.tuple #[.string ⟨(wS f x).toArray⟩, .int .i64 (wErr f)]) ∧ Below w.heap.size w w' := by
  obtain ⟨v, mi, pl, bl, ze, al, wd, pr⟩ := f
  by_cases hE : wErr ⟨v, mi, pl, bl, ze, al, wd, pr⟩ = 0
  · have hE1 := hE
    unfold wErr at hE1
    simp only at hE1
    have hc : ¬ ((v ≠ 101 ∧ v ≠ 102 ∧ v ≠ 103 ∧ v ≠ 97) ∨ wd < 0 ∨ 200 < wd ∨ pr < -1 ∨ (if v = 97 then 30 else 100) < pr) := by
      intro h
      rw [if_pos h] at hE1
      exact absurd hE1 (by decide)
    have hv : (v = 97 ∧ pr ≤ 30) ∨ ((v = 101 ∨ v = 102 ∨ v = 103) ∧ pr ≤ 100) := by
      by_cases h97 : v = 97
      · rw [if_pos h97] at hc; omega
      · rw [if_neg h97] at hc; omega
    have w0 : 0 ≤ wd := by omega
    have w1 : wd ≤ 200 := by omega
    have p0 : -1 ≤ pr := by omega
    have pm : pr ≤ 100 := by omega
    clear hc hE1
    have hb := fabs_bd x
    have SG := fun w' => wsign_any v mi pl bl ze al wd pr x x0 x1 w'
    have CL := fun w' => class_any x x0 x1 w'
    have HV := fun w' => hasValue_any x x0 x1 w'
    have AB := fun w' => abs_any x x0 x1 w'
    have hl := wHead_le ⟨v, mi, pl, bl, ze, al, wd, pr⟩ x
    obtain ⟨HD, hHD⟩ : ∃ H, H = wHead ⟨v, mi, pl, bl, ze, al, wd, pr⟩ x := ⟨_, rfl⟩
    obtain ⟨BO, hBO⟩ : ∃ H, H = wBody ⟨v, mi, pl, bl, ze, al, wd, pr⟩ x := ⟨_, rfl⟩
    obtain ⟨n, hn⟩ : ∃ n, n = wPad ⟨v, mi, pl, bl, ze, al, wd, pr⟩ x := ⟨_, rfl⟩
    have hn2 : max (wd - (HD.length : Int) - (BO.length : Int)) 0 = (n : Int) := by rw [hn, hHD, hBO]; unfold wPad; simp only; omega
    have hnl : n ≤ 200 := by omega
    rw [← hHD] at SG hl
    have RP := fun (b : UInt8) X w' (hX : X = (n : Int)) => repB_any b n X hX (by omega) w'
    have hTx : ∀ t, (if mi = true then HD ++ BO ++ List.replicate n 32
        else if ze = true ∧ hasV x = true then
          (if v = 97 then (HD ++ [48, 120]) ++ List.replicate n 48 ++ BO.drop 2 else HD ++ List.replicate n 48 ++ BO)
        else List.replicate n 32 ++ HD ++ BO) = t → wTxt ⟨v, mi, pl, bl, ze, al, wd, pr⟩ x = t := by
      intro t ht
      rw [← ht, hHD, hBO, hn]
      rfl
    have hBv : BO = if fcls x = 5 then [110, 97, 110] else if fcls x = 4 then [105, 110, 102] else wVal ⟨v, mi, pl, bl, ze, al, wd, pr⟩ (fabs x) := hBO
    clear hHD hBO hn
    by_cases c5 : fcls x = 5
    · rw [c5] at CL
      rw [if_pos c5] at hBv
      subst hBv
      have hV : hasV x = false := by
        cases h : hasV x with
        | false => rfl
        | true => exact absurd c5 (wf_fin (of_decide_eq_true h)).1
      rw [hV] at HV
      cases mi with
      | true =>
        refine wText_ok (t := HD ++ [110, 97, 110] ++ List.replicate n 32) hE (hTx _ (if_pos rfl)) (b_app3 _ _ _).symm ?_
        exact wf_nan_mi v pl bl ze al wd pr hv w0 w1 p0 x ⟨HD.toArray⟩ _ HD.length n rfl hl (Lib.hid ⟨hn2, trivial⟩) hnl (rep_size _ _) w hT hT10 (Lib.hid SG) (Lib.hid CL) (Lib.hid (fun X w' h => RP 32 X w' h))
      | false =>
        refine wText_ok (t := List.replicate n 32 ++ HD ++ [110, 97, 110]) hE (hTx _ (by rw [if_neg (by simp), if_neg (by rw [hV]; simp)])) (b_app3 _ _ _).symm ?_
        exact wf_nan_sp v pl bl ze al wd pr hv w0 w1 p0 x ⟨HD.toArray⟩ _ HD.length n rfl hl (Lib.hid ⟨hn2, trivial⟩) hnl (rep_size _ _) w hT hT10 (Lib.hid SG) (Lib.hid CL) (Lib.hid HV) (Lib.hid (fun X w' h => RP 32 X w' h))
    · rw [if_neg c5] at hBv
      by_cases c4 : fcls x = 4
      · rw [c4] at CL
        rw [if_pos c4] at hBv
        subst hBv
        have hV : hasV x = false := by
          cases h : hasV x with
          | false => rfl
          | true => exact absurd c4 (wf_fin (of_decide_eq_true h)).2
        rw [hV] at HV
        cases mi with
        | true =>
          refine wText_ok (t := HD ++ [105, 110, 102] ++ List.replicate n 32) hE (hTx _ (if_pos rfl)) (b_app3 _ _ _).symm ?_
          exact wf_inf_mi v pl bl ze al wd pr hv w0 w1 p0 x ⟨HD.toArray⟩ _ HD.length n rfl hl (Lib.hid ⟨hn2, trivial⟩) hnl (rep_size _ _) w hT hT10 (Lib.hid SG) (Lib.hid CL) (Lib.hid (fun X w' h => RP 32 X w' h))
        | false =>
          refine wText_ok (t := List.replicate n 32 ++ HD ++ [105, 110, 102]) hE (hTx _ (by rw [if_neg (by simp), if_neg (by rw [hV]; simp)])) (b_app3 _ _ _).symm ?_
          exact wf_inf_sp v pl bl ze al wd pr hv w0 w1 p0 x ⟨HD.toArray⟩ _ HD.length n rfl hl (Lib.hid ⟨hn2, trivial⟩) hnl (rep_size _ _) w hT hT10 (Lib.hid SG) (Lib.hid CL) (Lib.hid HV) (Lib.hid (fun X w' h => RP 32 X w' h))
      · rw [if_neg c4] at hBv
        have h5 : (fcls x == 5) = false := by simp [c5]
        have h4 : (fcls x == 4) = false := by simp [c4]
        have hV : hasV x = true := by
          unfold hasV
          refine decide_eq_true ?_
          by_cases h1 : fabs x = 9218868437227405312
          · exact absurd (wf_c4 h1) c4
          · by_cases h2 : 9218868437227405312 < fabs x
            · exact absurd (wf_c5 h2) c5
            · omega
        have hVf : hasV (fabs x) = true := by unfold hasV at hV ⊢; rw [show fabs (fabs x) = fabs x by unfold fabs; omega]; exact hV
        have hvv : v = 101 ∨ v = 102 ∨ v = 103 ∨ v = 97 := by omega
        have hbl := wVal_len ⟨v, mi, pl, bl, ze, al, wd, pr⟩ (x := fabs x) hb.1 (by omega) pm
        have VA := fun w' hT hT10 => wvalue_any ⟨v, mi, pl, bl, ze, al, wd, pr⟩ (fabs x) hb.1 (by omega) hvv p0 pm w' hT hT10
        rw [← hBv] at hbl VA
        rw [hV] at HV
        have hb2 : v = 97 → 2 ≤ BO.length := by
          intro h
          rw [hBv]
          exact wVal_2 ⟨v, mi, pl, bl, ze, al, wd, pr⟩ hVf h p0 (by show pr ≤ 30; omega)
        cases mi with
        | true =>
          refine wText_ok (t := HD ++ BO ++ List.replicate n 32) hE (hTx _ (if_pos rfl)) (b_app3 _ _ _).symm ?_
          exact wf_val_mi v pl bl ze al wd pr hv w0 w1 p0 x _ h5 h4 (fabs x) ⟨BO.toArray⟩ BO.length rfl (by omega) ⟨HD.toArray⟩ _ HD.length n rfl hl (Lib.hid ⟨hn2, trivial⟩) hnl (rep_size _ _) w hT hT10 (Lib.hid SG) (Lib.hid CL) (Lib.hid AB) (Lib.hid VA) (Lib.hid (fun X w' h => RP 32 X w' h))
        | false =>
          cases ze with
          | false =>
            refine wText_ok (t := List.replicate n 32 ++ HD ++ BO) hE (hTx _ (by rw [if_neg (by simp), if_neg (by simp)])) (b_app3 _ _ _).symm ?_
            exact wf_val_sp v pl bl false al wd pr hv w0 w1 p0 x _ h5 h4 (fabs x) ⟨BO.toArray⟩ BO.length rfl (by omega) ⟨HD.toArray⟩ _ HD.length n rfl hl (Lib.hid ⟨hn2, trivial⟩) hnl (rep_size _ _) w hT hT10 (Lib.hid SG) (Lib.hid CL) (Lib.hid AB) (Lib.hid VA) rfl (Lib.hid (fun X w' h => RP 32 X w' h))
          | true =>
            by_cases h97 : v = 97
            · subst h97
              refine wText_ok (t := (HD ++ [48, 120]) ++ List.replicate n 48 ++ BO.drop 2) hE (hTx _ (by rw [if_neg (by simp), if_pos ⟨rfl, hV⟩, if_pos rfl])) (B := (⟨HD.toArray⟩ ++ ⟨#[48, 120]⟩) ++ ⟨(List.replicate n 48).toArray⟩ ++ (⟨BO.toArray⟩ : ByteArray).extract 2 BO.length) ?_ ?_
              · rw [b_drop _ _ _ rfl, show (⟨#[48, 120]⟩ : ByteArray) = ⟨[48, 120].toArray⟩ from rfl, b_app, b_app3]
              · exact wf_val_za pl bl al wd pr (by omega) w0 w1 p0 x _ h5 h4 (fabs x) ⟨BO.toArray⟩ BO.length rfl (hb2 rfl) (by omega) ⟨HD.toArray⟩ _ HD.length n rfl hl (Lib.hid ⟨hn2, trivial⟩) hnl (rep_size _ _) w hT hT10 (Lib.hid SG) (Lib.hid CL) (Lib.hid AB) (Lib.hid VA) (Lib.hid HV) (Lib.hid (fun X w' h => RP 48 X w' h))
            · refine wText_ok (t := HD ++ List.replicate n 48 ++ BO) hE (hTx _ (by rw [if_neg (by simp), if_pos ⟨rfl, hV⟩, if_neg h97])) (b_app3 _ _ _).symm ?_
              exact wf_val_zx v pl bl al wd pr ⟨by omega, pm⟩ w0 w1 p0 x _ h5 h4 (fabs x) ⟨BO.toArray⟩ BO.length rfl (by omega) ⟨HD.toArray⟩ _ HD.length n rfl hl (Lib.hid ⟨hn2, trivial⟩) hnl (rep_size _ _) w hT hT10 (Lib.hid SG) (Lib.hid CL) (Lib.hid AB) (Lib.hid VA) (Lib.hid HV) (Lib.hid (fun X w' h => RP 48 X w' h))
  · have hE1 : wErr ⟨v, mi, pl, bl, ze, al, wd, pr⟩ = 1 := (wErr_01 _).resolve_left hE
    have hc : (v ≠ 101 ∧ v ≠ 102 ∧ v ≠ 103 ∧ v ≠ 97) ∨ wd < 0 ∨ 200 < wd ∨ pr < -1 ∨ (v = 97 ∧ 30 < pr) ∨ 100 < pr := by
      unfold wErr at hE1
      simp only at hE1
      by_cases h : ((v ≠ 101 ∧ v ≠ 102 ∧ v ≠ 103 ∧ v ≠ 97) ∨ wd < 0 ∨ 200 < wd ∨ pr < -1 ∨ (if v = 97 then 30 else 100) < pr)
      · by_cases h97 : v = 97
        · rw [if_pos h97] at h; omega
        · rw [if_neg h97] at h; omega
      · rw [if_neg h] at hE1; exact absurd hE1 (by decide)
    unfold wS
    rw [if_neg hE, hE1]
    exact wf_err v mi pl bl ze al wd pr x w (Lib.hid ⟨trivial, hc⟩)
end Go.Proofs.YtofdjfdnckmmmaaGreatDoor
