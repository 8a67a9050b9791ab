/-
  THE WALK of ulpkeep.WantedWidth.
-/
import Derived.Test.YthlocmhfjandlaaGreatDoorWwt
set_option linter.unusedVariables false
set_option linter.unusedSimpArgs false
namespace Go.Proofs.YthlocmhfjandlaaGreatDoor
open Go.RowKit Go.Lib Nt Fm Fl

theorem wErr_facts {f : Spc} (hE : wErr f = 0) : 0 ≤ f.wd ∧ f.wd ≤ 200 ∧ -1 ≤ f.pr ∧ f.pr ≤ 100 ∧ (f.verb = 97 → f.pr ≤ 30) := by
  unfold wErr at hE
  have hc : ¬ ((f.verb ≠ 101 ∧ f.verb ≠ 102 ∧ f.verb ≠ 103 ∧ f.verb ≠ 97) ∨ f.wd < 0 ∨ 200 < f.wd ∨ f.pr < -1 ∨ (if f.verb = 97 then 30 else 100) < f.pr) := by
    intro h
    rw [if_pos h] at hE
    exact absurd hE (by decide)
  by_cases h97 : f.verb = 97
  · rw [if_pos h97] at hc; omega
  · rw [if_neg h97] at hc; omega
theorem hasV_ff {x : Int} (h : hasV x = true) : hasV (fabs x) = true := by
  have e : fabs (fabs x) = fabs x := by unfold fabs; omega
  unfold hasV at *
  rw [e]
  exact h
theorem wMid_size (f : Spc) (x : Int) (hE : wErr f = 0) : (wMid f x).length = (wBody f x).length := by
  unfold wMid
  by_cases h : f.mi = false ∧ f.ze = true ∧ hasV x = true ∧ f.verb = 97
  · rw [if_pos h]
    obtain ⟨a, b, c, d⟩ := h
    obtain ⟨e1, e2, e3, e4, e5⟩ := wErr_facts hE
    have h2 : 2 ≤ (wBody f x).length := by
      have hc := wf_fin (of_decide_eq_true c)
      unfold wBody
      rw [if_neg hc.1, if_neg hc.2]
      exact wVal_2 f (hasV_ff c) d e3 (e5 d)
    rw [List.length_append, List.length_drop]
    simp
    omega
  · rw [if_neg h]
theorem fcls_hasV (x : Int) : hasV x = true ↔ ¬ 4 ≤ fcls x := by
  unfold hasV fcls
  rw [decide_eq_true_eq]
  repeat' split
  all_goals omega
theorem wwidth_plain (v : Int) (mi pl bl ze al : Bool) (wd pr x : Int) (hE : wErr ⟨v, mi, pl, bl, ze, al, wd, pr⟩ = 0) :
    ∃ s t p, wS ⟨v, mi, pl, bl, ze, al, wd, pr⟩ x = s ∧ wErr ⟨v, mi, pl, bl, ze, al, 0, pr⟩ = 0 ∧ wS ⟨v, mi, pl, bl, ze, al, 0, pr⟩ x = t ∧ p ≤ 200 ∧ s.length = t.length + p ∧ ((s.length : Int) = max (t.length : Int) wd) ∧ (wd ≤ (t.length : Int) → s = t) ∧
      ((mi = true ∧ t ++ List.replicate p 32 = s) ∨ (mi = false ∧ ze = false ∧ List.replicate p 32 ++ t = s) ∨ (mi = false ∧ ze = true ∧ 4 ≤ fcls x ∧ List.replicate p 32 ++ t = s) ∨ (mi = false ∧ ze = true ∧ ¬ 4 ≤ fcls x ∧ bl = true) ∨ (mi = false ∧ ze = true ∧ ¬ 4 ≤ fcls x ∧ bl = false ∧ Lib.trimS s [32] = s)) := by
  obtain ⟨e1, e2, e3, e4, e5⟩ := wErr_facts hE
  simp only at e1 e2 e3 e4 e5
  have hE0 : wErr ⟨v, mi, pl, bl, ze, al, 0, pr⟩ = 0 := by
    have h := hE
    unfold wErr at h ⊢
    simp only at h ⊢
    have hc : ¬ ((v ≠ 101 ∧ v ≠ 102 ∧ v ≠ 103 ∧ v ≠ 97) ∨ wd < 0 ∨ 200 < wd ∨ pr < -1 ∨ (if v = 97 then 30 else 100) < pr) := by
      intro h2
      rw [if_pos h2] at h
      exact absurd h (by decide)
    rw [if_neg]
    intro h2
    apply hc
    rcases h2 with h2 | h2 | h2 | h2 | h2
    · exact Or.inl h2
    · omega
    · omega
    · exact Or.inr (Or.inr (Or.inr (Or.inl h2)))
    · exact Or.inr (Or.inr (Or.inr (Or.inr h2)))
  have ht : wS ⟨v, mi, pl, bl, ze, al, 0, pr⟩ x = wHead ⟨v, mi, pl, bl, ze, al, wd, pr⟩ x ++ wMid ⟨v, mi, pl, bl, ze, al, wd, pr⟩ x := by
    unfold wS
    rw [if_pos hE0, wTxt_pad0 _ _ (wPad_0 _ _ (Int.le_refl _))]
    rfl
  have hs : wS ⟨v, mi, pl, bl, ze, al, wd, pr⟩ x = wTxt ⟨v, mi, pl, bl, ze, al, wd, pr⟩ x := by unfold wS; rw [if_pos hE]
  have hm := wMid_size ⟨v, mi, pl, bl, ze, al, wd, pr⟩ x hE
  have hp : wPad ⟨v, mi, pl, bl, ze, al, wd, pr⟩ x = (wd - (wHead ⟨v, mi, pl, bl, ze, al, wd, pr⟩ x).length - (wBody ⟨v, mi, pl, bl, ze, al, wd, pr⟩ x).length).toNat := rfl
  have hnb := nb_body (f := ⟨v, mi, pl, bl, ze, al, wd, pr⟩) (x := x)
  have hpad0 := wTxt_pad0 ⟨v, mi, pl, bl, ze, al, wd, pr⟩ x
  have hH : wHead ⟨v, mi, pl, bl, ze, al, wd, pr⟩ x = if 9223372036854775808 ≤ x ∧ fcls x ≠ 5 then [45] else if pl = true then [43] else if bl = true then [32] else [] := rfl
  have hT : wTxt ⟨v, mi, pl, bl, ze, al, wd, pr⟩ x = if mi = true then wHead ⟨v, mi, pl, bl, ze, al, wd, pr⟩ x ++ wBody ⟨v, mi, pl, bl, ze, al, wd, pr⟩ x ++ List.replicate (wPad ⟨v, mi, pl, bl, ze, al, wd, pr⟩ x) 32
      else if ze = true ∧ hasV x = true then
        (if v = 97 then (wHead ⟨v, mi, pl, bl, ze, al, wd, pr⟩ x ++ [48, 120]) ++ List.replicate (wPad ⟨v, mi, pl, bl, ze, al, wd, pr⟩ x) 48 ++ (wBody ⟨v, mi, pl, bl, ze, al, wd, pr⟩ x).drop 2 else wHead ⟨v, mi, pl, bl, ze, al, wd, pr⟩ x ++ List.replicate (wPad ⟨v, mi, pl, bl, ze, al, wd, pr⟩ x) 48 ++ wBody ⟨v, mi, pl, bl, ze, al, wd, pr⟩ x)
      else List.replicate (wPad ⟨v, mi, pl, bl, ze, al, wd, pr⟩ x) 32 ++ wHead ⟨v, mi, pl, bl, ze, al, wd, pr⟩ x ++ wBody ⟨v, mi, pl, bl, ze, al, wd, pr⟩ x := rfl
  have hM : wMid ⟨v, mi, pl, bl, ze, al, wd, pr⟩ x = if mi = false ∧ ze = true ∧ hasV x = true ∧ v = 97 then [48, 120] ++ (wBody ⟨v, mi, pl, bl, ze, al, wd, pr⟩ x).drop 2 else wBody ⟨v, mi, pl, bl, ze, al, wd, pr⟩ x := rfl
  generalize wHead ⟨v, mi, pl, bl, ze, al, wd, pr⟩ x = H at *
  generalize wBody ⟨v, mi, pl, bl, ze, al, wd, pr⟩ x = B at *
  generalize wMid ⟨v, mi, pl, bl, ze, al, wd, pr⟩ x = M at *
  generalize wPad ⟨v, mi, pl, bl, ze, al, wd, pr⟩ x = p at *
  generalize wTxt ⟨v, mi, pl, bl, ze, al, wd, pr⟩ x = s at *
  have key : s.length = (H ++ M).length + p ∧ ((mi = true ∧ (H ++ M) ++ List.replicate p 32 = s) ∨ (mi = false ∧ ze = false ∧ List.replicate p 32 ++ (H ++ M) = s) ∨ (mi = false ∧ ze = true ∧ 4 ≤ fcls x ∧ List.replicate p 32 ++ (H ++ M) = s) ∨ (mi = false ∧ ze = true ∧ ¬ 4 ≤ fcls x ∧ bl = true) ∨ (mi = false ∧ ze = true ∧ ¬ 4 ≤ fcls x ∧ bl = false ∧ Lib.trimS s [32] = s)) := by
    cases mi with
    | true =>
      rw [if_pos rfl] at hT
      rw [if_neg (by simp)] at hM
      subst hM hT
      exact ⟨by simp; omega, Or.inl ⟨rfl, rfl⟩⟩
    | false =>
      rw [if_neg (by simp)] at hT
      by_cases hz : ze = true ∧ hasV x = true
      · rw [if_pos hz] at hT
        obtain ⟨rfl, hv⟩ := hz
        have h4 := (fcls_hasV x).1 hv
        have hl : s.length = (H ++ M).length + p := by
          rw [hT]
          by_cases h97 : v = 97
          · rw [if_pos h97]
            rw [if_pos ⟨rfl, rfl, hv, h97⟩] at hM
            rw [hM]
            simp
            omega
          · rw [if_neg h97]
            rw [List.length_append, List.length_append, List.length_append, hm, List.length_replicate]
            omega
        refine ⟨hl, ?_⟩
        cases bl with
        | true => exact Or.inr (Or.inr (Or.inr (Or.inl ⟨rfl, rfl, h4, rfl⟩)))
        | false =>
          refine Or.inr (Or.inr (Or.inr (Or.inr ⟨rfl, rfl, h4, rfl, trim_nb ?_⟩)))
          have hHn : Nb H := by
            rw [hH]
            split
            · exact Nb.cons (by decide) Nb.nil
            split
            · exact Nb.cons (by decide) Nb.nil
            · exact Nb.nil
          rw [hT]
          by_cases h97 : v = 97
          · rw [if_pos h97]
            exact ((hHn.app (Nb.cons (by decide) (Nb.cons (by decide) Nb.nil))).app (Nb.rep _ _ (by decide))).app (hnb.sub (fun c hc => List.mem_of_mem_drop hc))
          · rw [if_neg h97]
            exact (hHn.app (Nb.rep _ _ (by decide))).app hnb
      · rw [if_neg hz] at hT
        rw [if_neg (by intro g; exact hz ⟨g.2.1, g.2.2.1⟩)] at hM
        subst hM
        refine ⟨by rw [hT]; simp; omega, ?_⟩
        cases ze with
        | false => exact Or.inr (Or.inl ⟨rfl, rfl, by rw [hT, List.append_assoc]⟩)
        | true =>
          have h4 : 4 ≤ fcls x := by
            rcases Int.lt_or_le (fcls x) 4 with g | g
            · exact absurd ((fcls_hasV x).2 (by omega)) (fun k => hz ⟨rfl, k⟩)
            · exact g
          exact Or.inr (Or.inr (Or.inl ⟨rfl, rfl, h4, by rw [hT, List.append_assoc]⟩))
  refine ⟨s, H ++ M, p, hs, hE0, ht, by omega, key.1, ?_, ?_, key.2⟩
  · rw [key.1, hp, List.length_append, hm]
    omega
  · intro hw
    refine hpad0 ?_
    rw [hp]
    rw [List.length_append, hm] at hw
    omega
theorem walkWantedWidth (f : Spc) (v0 : -9223372036854775808 ≤ f.verb) (v1 : f.verb ≤ 9223372036854775807) (d0 : -9223372036854775808 ≤ f.wd) (d1 : f.wd ≤ 9223372036854775807) (p0 : -9223372036854775808 ≤ f.pr) (p1 : f.pr ≤ 9223372036854775807)
    (x : Int) (x0 : 0 ≤ x) (x1 : x ≤ 18446744073709551615) (w : World) (hT : Tab w) (hT10 : Tab10 w) :
    Calls Tryz.prog 12 #[f.v, .int .u64 x] w fun e w' => e = .returned (.bool true) ∧ Below w.heap.size w w' := by
  obtain ⟨v, mi, pl, bl, ze, al, wd, pr⟩ := f
  simp only at d0 d1
  have hc0 : 0 ≤ fcls x ∧ fcls x ≤ 5 := by
    unfold fcls
    repeat' split
    all_goals omega
  have CL := Lib.hid (fun w' => class_any x x0 x1 w')
  have F1 := fun w' h1 h2 => wformat_any ⟨v, mi, pl, bl, ze, al, wd, pr⟩ x x0 x1 w' h1 h2
  have l1 := wS_len ⟨v, mi, pl, bl, ze, al, wd, pr⟩ x0 x1
  have F2 := fun w' h1 h2 => wformat_any ⟨v, mi, pl, bl, ze, al, 0, pr⟩ x x0 x1 w' h1 h2
  have l2 := wS_len ⟨v, mi, pl, bl, ze, al, 0, pr⟩ x0 x1
  rcases wErr_01 ⟨v, mi, pl, bl, ze, al, wd, pr⟩ with hE | hE
  · obtain ⟨s, t, p, h1, h2, h3, h4, h5, h6, h7, h8⟩ := wwidth_plain v mi pl bl ze al wd pr x hE
    obtain ⟨e1, e2, e3, e4, e5⟩ := wErr_facts hE
    rw [h1] at F1 l1
    rw [h3, h2] at F2
    rw [h3] at l2
    have ltr : (Lib.trimS s [32]).length ≤ s.length := by
      unfold Lib.trimS Lib.trimLeftS Lib.trimRightS
      refine Nat.le_trans (List.dropWhile_sublist _).length_le ?_
      rw [List.length_reverse]
      have := (List.dropWhile_sublist ([32].contains ·) (l := s.reverse)).length_le
      rw [List.length_reverse] at this
      exact this
    refine wwidth_t v mi pl bl ze al wd pr x _ (fcls x) d0 d1 hc0.1 hc0.2 ⟨s.toArray⟩ ⟨t.toArray⟩ ⟨(List.replicate p 32).toArray⟩ ⟨(Lib.trimS s [32]).toArray⟩ s.length t.length p (Lib.trimS s [32]).length rfl rfl (rep_size _ _) rfl (by omega) (by omega) (by omega) (by omega) w hT hT10 (Lib.hid F1) (Lib.hid (fun _ => F2)) CL
      (Lib.hid (fun X w' hX => repB_any 32 p X hX (by omega) w')) (Lib.hid (fun w' => trim_any ⟨s.toArray⟩ [32] (by decide) (by decide) w' (by show s.length ≤ _; omega))) ?_
    refine Or.inr ⟨hE, h5, h6, fun h => by rw [h7 h], e2, e1, ?_⟩
    rw [b_app, b_app]
    rcases h8 with ⟨a, b⟩ | ⟨a, b, c⟩ | ⟨a, b, c, d⟩ | h8 | ⟨a, b, c, d, e⟩
    · exact Or.inl ⟨a, by rw [b]⟩
    · exact Or.inr (Or.inl ⟨a, b, by rw [c]⟩)
    · exact Or.inr (Or.inr (Or.inl ⟨a, b, c, by rw [d]⟩))
    · exact Or.inr (Or.inr (Or.inr (Or.inl h8)))
    · exact Or.inr (Or.inr (Or.inr (Or.inr ⟨a, b, c, d, by rw [e]⟩)))
  · have hS : wS ⟨v, mi, pl, bl, ze, al, wd, pr⟩ x = [] := by unfold wS; rw [if_neg (by omega)]
    rw [hS] at F1
    refine wwidth_t v mi pl bl ze al wd pr x _ (fcls x) d0 d1 hc0.1 hc0.2 ⟨#[]⟩ ⟨#[]⟩ ⟨(List.replicate 0 32).toArray⟩ ⟨(Lib.trimS [] [32]).toArray⟩ 0 0 0 (Lib.trimS ([] : List UInt8) [32]).length rfl rfl (rep_size _ _) rfl (by omega) (by omega) (by omega) (by decide) w hT hT10 (Lib.hid F1) ?_ CL
      (Lib.hid (fun X w' hX => repB_any 32 0 X hX (by omega) w')) (Lib.hid (fun w' => trim_any ⟨#[]⟩ [32] (by decide) (by decide) w' (by decide))) (Or.inl ⟨hE, rfl⟩)
    exact Lib.hid (fun h => by rw [hE] at h; exact absurd h (by decide))
end Go.Proofs.YthlocmhfjandlaaGreatDoor
