/-
  THE WALK of ulpkeep.wantedLives.
-/
import Derived.Test.YtjmmgffdagcflaaGreatDoorWpx
import Derived.Test.YtjmmgffdagcflaaGreatDoorWfg
import Derived.Test.YtjmmgffdagcflaaGreatDoorLk
set_option linter.unusedVariables false
set_option linter.unusedSimpArgs false
namespace Go.Proofs.YtjmmgffdagcflaaGreatDoor
open Go.RowKit Nt Fm Fl

theorem tab_al {w : World} {o : Obj} (h : Tab w) : Tab (w.alloc o) := h.below ((Below.refl _ _).alloc (Nat.le_refl _) o)
theorem t10_al {w : World} {o : Obj} (h : Tab10 w) : Tab10 (w.alloc o) := h.below ((Below.refl _ _).alloc (Nat.le_refl _) o)
theorem wl_parse : wpE [37, 43, 48, 56, 46, 49, 102] = 0 ∧ wpF [37, 43, 48, 56, 46, 49, 102] = ⟨102, false, true, false, true, false, 8, 1⟩ := by
  constructor
  · decide
  · have h : wpE [37, 43, 48, 56, 46, 49, 102] = 0 := by decide
    unfold wpF
    rw [if_pos h]
    have e1 : wp4 (Lib.trimPrefix [37, 43, 48, 56, 46, 49, 102] [37]) = [102] := by decide
    have e2 : wp1 (Lib.trimPrefix [37, 43, 48, 56, 46, 49, 102] [37]) = ((false, true, false, true, false), [56, 46, 49, 102]) := by decide
    have e3 : wpW (Lib.trimPrefix [37, 43, 48, 56, 46, 49, 102] [37]) = 8 := by decide
    have e4 : wpP (Lib.trimPrefix [37, 43, 48, 56, 46, 49, 102] [37]) = 1 := by decide
    unfold wpG
    rw [e1, e2, e3, e4]
    rfl
theorem wl_fx : fxS 4612811918334230528 1 0 = [50, 46, 53] := by
  have hv : fxE 4612811918334230528 1 0 = 0 := by kernel_rfl
  have hq : dQ (valD 4612811918334230528) 1 0 = 25 := by kernel_rfl
  have h := decG_eq 5 25 [] (by decide)
  rw [List.append_nil] at h
  have h2 : sgS 4612811918334230528 ++ pt (decG 5 25 []) (1 : Int).toNat = [50, 46, 53] := by kernel_rfl
  unfold fxS
  rw [if_pos hv, hq, ← h]
  exact h2
theorem wl_s : wErr ⟨102, false, true, false, true, false, 8, 1⟩ = 0 ∧ wS ⟨102, false, true, false, true, false, 8, 1⟩ 4612811918334230528 = [43, 48, 48, 48, 48, 50, 46, 53] := by
  have h0 : wErr ⟨102, false, true, false, true, false, 8, 1⟩ = 0 := by decide
  refine ⟨h0, ?_⟩
  have hb : wBody ⟨102, false, true, false, true, false, 8, 1⟩ 4612811918334230528 = [50, 46, 53] := by
    unfold wBody
    rw [if_neg (by decide), if_neg (by decide)]
    have hf : fabs 4612811918334230528 = 4612811918334230528 := by decide
    rw [hf]
    have hv0 : wVal0 ⟨102, false, true, false, true, false, 8, 1⟩ 4612811918334230528 = [50, 46, 53] := by
      unfold wVal0
      rw [if_pos rfl, show ((wPr (1 : Int) : Nat) : Int) = 1 from rfl, wl_fx]
    unfold wVal
    rw [hv0, if_neg (by decide)]
  have hh : wHead ⟨102, false, true, false, true, false, 8, 1⟩ 4612811918334230528 = [43] := by decide
  unfold wS
  rw [if_pos h0]
  unfold wTxt wPad
  rw [hb, hh]
  have hv : hasV 4612811918334230528 = true := by decide
  rw [if_neg (by decide), if_pos ⟨rfl, hv⟩, if_neg (by decide)]
  rfl
theorem wl_fx2 : fxS 4562254508917369340 8 0 = [48, 46, 48, 48, 49, 48, 48, 48, 48, 48] := by
  have hv : fxE 4562254508917369340 8 0 = 0 := by kernel_rfl
  have hq : dQ (valD 4562254508917369340) 8 0 = 100000 := by kernel_rfl
  have h := decG_eq 8 100000 [] (by decide)
  rw [List.append_nil] at h
  have h2 : sgS 4562254508917369340 ++ pt (decG 8 100000 []) (8 : Int).toNat = [48, 46, 48, 48, 49, 48, 48, 48, 48, 48] := by kernel_rfl
  unfold fxS
  rw [if_pos hv, hq, ← h]
  exact h2
theorem wl_k : dgP (valD 4562254508917369340) 6 0 = -3 := by
  have hd : valD 4562254508917369340 = ⟨false, 1152921504606847, -60⟩ := by kernel_rfl
  have hl : lgD ⟨false, 1152921504606847, -60⟩ = -3 := lgD_eq (by unfold IsLg; decide)
  unfold dgP dgQ
  rw [hd, hl]
  have hq : dQ ⟨false, 1152921504606847, -60⟩ (((6 : Nat) : Int) - 1 - -3) 0 = 100000 := by kernel_rfl
  have h := decG_eq 8 100000 [] (by decide)
  rw [List.append_nil] at h
  have h3 : decG 8 100000 [] = [49, 48, 48, 48, 48, 48] := by kernel_rfl
  rw [hq, ← h, h3, if_neg (by decide), if_neg (by decide)]
theorem wl_t : wErr ⟨103, false, false, false, false, false, 0, -1⟩ = 0 ∧ wS ⟨103, false, false, false, false, false, 0, -1⟩ 4562254508917369340 = [48, 46, 48, 48, 49] := by
  have h0 : wErr ⟨103, false, false, false, false, false, 0, -1⟩ = 0 := by decide
  refine ⟨h0, ?_⟩
  have hb : wBody ⟨103, false, false, false, false, false, 0, -1⟩ 4562254508917369340 = [48, 46, 48, 48, 49] := by
    unfold wBody
    rw [if_neg (by decide), if_neg (by decide)]
    have hf : fabs 4562254508917369340 = 4562254508917369340 := by decide
    rw [hf]
    have hg : wGen false 4562254508917369340 6 = [48, 46, 48, 48, 49] := by
      unfold wGen
      simp only
      rw [wl_k, if_neg (by decide), if_pos (by decide), show (((6 : Nat) : Int) - 1 - -3) = 8 from rfl, wl_fx2]
      decide
    have hv0 : wVal0 ⟨103, false, false, false, false, false, 0, -1⟩ 4562254508917369340 = [48, 46, 48, 48, 49] := by
      unfold wVal0
      rw [if_neg (by decide), if_neg (by decide), if_pos rfl, show max (wPr (-1 : Int)) 1 = 6 from rfl, hg]
    unfold wVal
    rw [hv0, if_neg (by decide)]
  have hh : wHead ⟨103, false, false, false, false, false, 0, -1⟩ 4562254508917369340 = [] := by decide
  unfold wS
  rw [if_pos h0]
  unfold wTxt wPad
  rw [hb, hh]
  rw [if_neg (by decide), if_neg (by decide)]
  rfl
theorem wl_arg : (0 : Int) ≤ 4612811918334230528 ∧ (4612811918334230528 : Int) ≤ 18446744073709551615 ∧ (0 : Int) ≤ 4562254508917369340 ∧ (4562254508917369340 : Int) ≤ 18446744073709551615 := by decide
set_option maxRecDepth 100000 in
set_option maxHeartbeats 8000000 in
theorem wantedLives_any (w : World) (hT : Tab w) (hT10 : Tab10 w) :
    Calls Tryz.prog 23 #[] w fun e w' => e = .returned (.bool true) ∧ Below w.heap.size w w' := by
  obtain ⟨a1, a2, a3, a4⟩ := wl_arg
  have PA := Lib.hid (fun w' => wparse_any [37, 43, 48, 56, 46, 49, 102] ⟨#[37, 43, 48, 56, 46, 49, 102]⟩ rfl (by decide) w')
  rw [wl_parse.1, wl_parse.2] at PA
  have F1 := Lib.hid (fun w' h1 h2 => wformat_any ⟨102, false, true, false, true, false, 8, 1⟩ 4612811918334230528 a1 a2 w' h1 h2)
  rw [wl_s.1, wl_s.2] at F1
  have F2 := Lib.hid (fun w' h1 h2 => wformat_any ⟨103, false, false, false, false, false, 0, -1⟩ 4562254508917369340 a3 a4 w' h1 h2)
  rw [wl_t.1, wl_t.2] at F2
  unfold Spc.v at PA F1 F2
  have H0 := Lib.hid hT
  have T0 := Lib.hid hT10
  clear hT hT10 a1 a2 a3 a4
  go_enter Tryz.func23, Tryz.ntmps23
  go_wp2_with (first
    | (go_at_call 22; refine (PA.out _).mono ?_; rintro e w1 ⟨rfl, hb⟩; have H1 := Lib.hid (H0.out.below hb); have T1 := Lib.hid (T0.out.below hb); have B1 := Lib.hid hb; clear hb H0 T0)
    | (go_at_call 24; first
      | (refine (F1.out _ (tab_al H1.out) (t10_al T1.out)).mono ?_; rintro e w2 ⟨rfl, hb⟩; have H2 := Lib.hid ((tab_al H1.out).below hb); have T2 := Lib.hid ((t10_al T1.out).below hb); have B2 := Lib.hid (bl_thru (B1.out.alloc B1.out.size _) (Nat.le_refl _) hb); clear hb H1 T1 F1)
      | (refine (F2.out _ H2.out T2.out).mono ?_; rintro e w3 ⟨rfl, hb⟩; have B3 := Lib.hid (bl_thru B2.out (Nat.le_refl _) hb); clear hb)
      | (refine (F2.out _ (tab_al H2.out) (t10_al T2.out)).mono ?_; rintro e w3 ⟨rfl, hb⟩; have B3 := Lib.hid (bl_thru (B2.out.alloc B2.out.size _) (Nat.le_refl _) hb); clear hb))
    | (go_at_call 27; first | ((with_reducible refine (ok_new3 _ _ _ _ _ (by simp)).mono ?_); rintro e w' ⟨rfl, rfl⟩)))
  all_goals first
    | (go_ret; refine ⟨rfl, ?_⟩; have := B3.out; have := B3.out.size; go_grown; done)
    | (exfalso; simp_all [ok3]; done)
    | trace_state
end Go.Proofs.YtjmmgffdagcflaaGreatDoor
