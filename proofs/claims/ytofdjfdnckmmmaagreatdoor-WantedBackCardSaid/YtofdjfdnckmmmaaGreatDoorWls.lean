/-
  SOME OF MY TEXTS in one: Wlv WantedSignsW Wnb. Each says what it proves.
-/
import Derived.Test.YtofdjfdnckmmmaaGreatDoorWq
import Derived.Test.YtofdjfdnckmmmaaGreatDoorWfg
import Derived.Test.YtofdjfdnckmmmaaGreatDoorLk
set_option linter.unusedVariables false
set_option linter.unusedSimpArgs false
/-
  THE WALK of ulpkeep.wantedLives.
-/
namespace Go.Proofs.YtofdjfdnckmmmaaGreatDoor
open Go.RowKit Nt Fm Fl

theorem tab_al {w : World} {o : Obj} (h : Tab w) : Tab (w.alloc o) := h.below ((Below.refl _ _).alloc (Nat.le_refl _) o)
theorem t10_al {w : World} {o : Obj} (h : Tab10 w) : Tab10 (w.alloc o) := h.below ((Below.refl _ _).alloc (Nat.le_refl _) o)
theorem wl_parse : wpE [37, 43, 48, 56, 46, 49, 102] = 0 ∧ wpF [37, 43, 48, 56, 46, 49, 102] = ⟨102, false, true, false, true, false, 8, 1⟩ := by
  constructor
  · decide
  · have h : wpE [37, 43, 48, 56, 46, 49, 102] = 0 := by decide
    unfold wpF
    rw [if_pos h]
    have e1 : wp4 (Lib.trimPrefix [37, 43, 48, 56, 46, 49, 102] [37]) = [102] := by decide
    have e2 : wp1 (Lib.trimPrefix [37, 43, 48, 56, 46, 49, 102] [37]) = ((false, true, false, true, false), [56, 46, 49, 102]) := by decide
    have e3 : wpW (Lib.trimPrefix [37, 43, 48, 56, 46, 49, 102] [37]) = 8 := by decide
    have e4 : wpP (Lib.trimPrefix [37, 43, 48, 56, 46, 49, 102] [37]) = 1 := by decide
    unfold wpG
    rw [e1, e2, e3, e4]
    rfl
theorem wl_fx : fxS 4612811918334230528 1 0 = [50, 46, 53] := by
  have hv : fxE 4612811918334230528 1 0 = 0 := by kernel_rfl
  have hq : dQ (valD 4612811918334230528) 1 0 = 25 := by kernel_rfl
  have h := decG_eq 5 25 [] (by decide)
  rw [List.append_nil] at h
  have h2 : sgS 4612811918334230528 ++ pt (decG 5 25 []) (1 : Int).toNat = [50, 46, 53] := by kernel_rfl
  unfold fxS
  rw [if_pos hv, hq, ← h]
  exact h2
theorem wl_s : wErr ⟨102, false, true, false, true, false, 8, 1⟩ = 0 ∧ wS ⟨102, false, true, false, true, false, 8, 1⟩ 4612811918334230528 = [43, 48, 48, 48, 48, 50, 46, 53] := by
  have h0 : wErr ⟨102, false, true, false, true, false, 8, 1⟩ = 0 := by decide
  refine ⟨h0, ?_⟩
  have hb : wBody ⟨102, false, true, false, true, false, 8, 1⟩ 4612811918334230528 = [50, 46, 53] := by
    unfold wBody
    rw [if_neg (by decide), if_neg (by decide)]
    have hf : fabs 4612811918334230528 = 4612811918334230528 := by decide
    rw [hf]
    have hv0 : wVal0 ⟨102, false, true, false, true, false, 8, 1⟩ 4612811918334230528 = [50, 46, 53] := by
      unfold wVal0
      rw [if_pos rfl, show ((wPr (1 : Int) : Nat) : Int) = 1 from rfl, wl_fx]
    unfold wVal
    rw [hv0, if_neg (by decide)]
  have hh : wHead ⟨102, false, true, false, true, false, 8, 1⟩ 4612811918334230528 = [43] := by decide
  unfold wS
  rw [if_pos h0]
  unfold wTxt wPad
  rw [hb, hh]
  have hv : hasV 4612811918334230528 = true := by decide
  rw [if_neg (by decide), if_pos ⟨rfl, hv⟩, if_neg (by decide)]
  rfl
theorem wl_fx2 : fxS 4562254508917369340 8 0 = [48, 46, 48, 48, 49, 48, 48, 48, 48, 48] := by
  have hv : fxE 4562254508917369340 8 0 = 0 := by kernel_rfl
  have hq : dQ (valD 4562254508917369340) 8 0 = 100000 := by kernel_rfl
  have h := decG_eq 8 100000 [] (by decide)
  rw [List.append_nil] at h
  have h2 : sgS 4562254508917369340 ++ pt (decG 8 100000 []) (8 : Int).toNat = [48, 46, 48, 48, 49, 48, 48, 48, 48, 48] := by kernel_rfl
  unfold fxS
  rw [if_pos hv, hq, ← h]
  exact h2
theorem wl_k : dgP (valD 4562254508917369340) 6 0 = -3 := by
  have hd : valD 4562254508917369340 = ⟨false, 1152921504606847, -60⟩ := by kernel_rfl
  have hl : lgD ⟨false, 1152921504606847, -60⟩ = -3 := lgD_eq (by unfold IsLg; decide)
  unfold dgP dgQ
  rw [hd, hl]
  have hq : dQ ⟨false, 1152921504606847, -60⟩ (((6 : Nat) : Int) - 1 - -3) 0 = 100000 := by kernel_rfl
  have h := decG_eq 8 100000 [] (by decide)
  rw [List.append_nil] at h
  have h3 : decG 8 100000 [] = [49, 48, 48, 48, 48, 48] := by kernel_rfl
  rw [hq, ← h, h3, if_neg (by decide), if_neg (by decide)]
theorem wl_t : wErr ⟨103, false, false, false, false, false, 0, -1⟩ = 0 ∧ wS ⟨103, false, false, false, false, false, 0, -1⟩ 4562254508917369340 = [48, 46, 48, 48, 49] := by
  have h0 : wErr ⟨103, false, false, false, false, false, 0, -1⟩ = 0 := by decide
  refine ⟨h0, ?_⟩
  have hb : wBody ⟨103, false, false, false, false, false, 0, -1⟩ 4562254508917369340 = [48, 46, 48, 48, 49] := by
    unfold wBody
    rw [if_neg (by decide), if_neg (by decide)]
    have hf : fabs 4562254508917369340 = 4562254508917369340 := by decide
    rw [hf]
    have hg : wGen false 4562254508917369340 6 = [48, 46, 48, 48, 49] := by
      unfold wGen
      simp only
      rw [wl_k, if_neg (by decide), if_pos (by decide), show (((6 : Nat) : Int) - 1 - -3) = 8 from rfl, wl_fx2]
      decide
    have hv0 : wVal0 ⟨103, false, false, false, false, false, 0, -1⟩ 4562254508917369340 = [48, 46, 48, 48, 49] := by
      unfold wVal0
      rw [if_neg (by decide), if_neg (by decide), if_pos rfl, show max (wPr (-1 : Int)) 1 = 6 from rfl, hg]
    unfold wVal
    rw [hv0, if_neg (by decide)]
  have hh : wHead ⟨103, false, false, false, false, false, 0, -1⟩ 4562254508917369340 = [] := by decide
  unfold wS
  rw [if_pos h0]
  unfold wTxt wPad
  rw [hb, hh]
  rw [if_neg (by decide), if_neg (by decide)]
  rfl
theorem wl_arg : (0 : Int) ≤ 4612811918334230528 ∧ (4612811918334230528 : Int) ≤ 18446744073709551615 ∧ (0 : Int) ≤ 4562254508917369340 ∧ (4562254508917369340 : Int) ≤ 18446744073709551615 := by decide
set_option maxRecDepth 100000 in
set_option maxHeartbeats 8000000 in
theorem wantedLives_any (w : World) (hT : Tab w) (hT10 : Tab10 w) :
    Calls Tryz.prog 7 #[] w fun e w' => e = .returned (.bool true) ∧ Below w.heap.size w w' := by
  obtain ⟨a1, a2, a3, a4⟩ := wl_arg
  have PA := Lib.hid (fun w' => wparse_any [37, 43, 48, 56, 46, 49, 102] ⟨#[37, 43, 48, 56, 46, 49, 102]⟩ rfl (by decide) w')
  rw [wl_parse.1, wl_parse.2] at PA
  have F1 := Lib.hid (fun w' h1 h2 => wformat_any ⟨102, false, true, false, true, false, 8, 1⟩ 4612811918334230528 a1 a2 w' h1 h2)
  rw [wl_s.1, wl_s.2] at F1
  have F2 := Lib.hid (fun w' h1 h2 => wformat_any ⟨103, false, false, false, false, false, 0, -1⟩ 4562254508917369340 a3 a4 w' h1 h2)
  rw [wl_t.1, wl_t.2] at F2
  unfold Spc.v at PA F1 F2
  have H0 := Lib.hid hT
  have T0 := Lib.hid hT10
  clear hT hT10 a1 a2 a3 a4
  go_enter Tryz.func7, Tryz.ntmps7
  go_wp2_with (first
    | (go_at_call 20; refine (PA.out _).mono ?_; rintro e w1 ⟨rfl, hb⟩; have H1 := Lib.hid (H0.out.below hb); have T1 := Lib.hid (T0.out.below hb); have B1 := Lib.hid hb; clear hb H0 T0)
    | (go_at_call 9; first
      | (refine (F1.out _ (tab_al H1.out) (t10_al T1.out)).mono ?_; rintro e w2 ⟨rfl, hb⟩; have H2 := Lib.hid ((tab_al H1.out).below hb); have T2 := Lib.hid ((t10_al T1.out).below hb); have B2 := Lib.hid (bl_thru (B1.out.alloc B1.out.size _) (Nat.le_refl _) hb); clear hb H1 T1 F1)
      | (refine (F2.out _ H2.out T2.out).mono ?_; rintro e w3 ⟨rfl, hb⟩; have B3 := Lib.hid (bl_thru B2.out (Nat.le_refl _) hb); clear hb)
      | (refine (F2.out _ (tab_al H2.out) (t10_al T2.out)).mono ?_; rintro e w3 ⟨rfl, hb⟩; have B3 := Lib.hid (bl_thru (B2.out.alloc B2.out.size _) (Nat.le_refl _) hb); clear hb))
    | (go_at_call 21; first | ((with_reducible refine (ok_new3 _ _ _ _ _ (by simp)).mono ?_); rintro e w' ⟨rfl, rfl⟩)))
  all_goals first
    | (go_ret; refine ⟨rfl, ?_⟩; have := B3.out; have := B3.out.size; go_grown; done)
    | (exfalso; simp_all [ok3]; done)
    | trace_state
end Go.Proofs.YtofdjfdnckmmmaaGreatDoor

/-
  THE WALK of ulpkeep.WantedSigns.
-/
namespace Go.Proofs.YtofdjfdnckmmmaaGreatDoor
open Go.RowKit Go.Lib Nt Fm Fl

theorem wsg_fneg {x : Int} (h0 : 0 ≤ x) (h1 : x ≤ 18446744073709551615) : fabs (fneg x) = fabs x ∧ fcls (fneg x) = fcls x ∧ hasV (fneg x) = hasV x ∧ (9223372036854775808 ≤ fneg x ↔ ¬ 9223372036854775808 ≤ x) := by
  have e : fabs (fneg x) = fabs x := by unfold fabs fneg; omega
  refine ⟨e, by unfold fcls; rw [e], by unfold hasV; rw [e], by unfold fneg; omega⟩
/-- what stands behind the sign, where nothing is put -/
noncomputable def wMid (f : Spc) (x : Int) : List UInt8 := if f.mi = false ∧ f.ze = true ∧ hasV x = true ∧ f.verb = 97 then [48, 120] ++ (wBody f x).drop 2 else wBody f x
theorem wTxt_pad0 (f : Spc) (x : Int) (h : wPad f x = 0) : wTxt f x = wHead f x ++ wMid f x := by
  unfold wTxt wMid
  rw [h]
  cases f.mi with
  | true => rw [if_pos rfl, if_neg (by simp)]; simp
  | false =>
    rw [if_neg (by simp)]
    by_cases h1 : f.ze = true ∧ hasV x = true
    · rw [if_pos h1]
      by_cases h2 : f.verb = 97
      · rw [if_pos h2, if_pos ⟨rfl, h1.1, h1.2, h2⟩]; simp
      · rw [if_neg h2, if_neg (by intro g; exact h2 g.2.2.2)]; simp
    · rw [if_neg h1, if_neg (by intro g; exact h1 ⟨g.2.1, g.2.2.1⟩)]; simp
theorem wPad_0 (f : Spc) (x : Int) (h : f.wd ≤ 0) : wPad f x = 0 := by unfold wPad; omega
theorem wBody_eq (f g : Spc) (x y : Int) (h1 : fabs y = fabs x) (h2 : fcls y = fcls x) (hf : f.verb = g.verb ∧ f.al = g.al ∧ f.pr = g.pr) : wBody g y = wBody f x := by
  obtain ⟨a, b, c⟩ := hf
  unfold wBody wVal wVal0
  rw [h1, h2, a, b, c]
theorem wBody_len (f : Spc) {x : Int} (x0 : 0 ≤ x) (x1 : x ≤ 18446744073709551615) (hp : f.pr ≤ 100) : (wBody f x).length ≤ 9501 := by
  have hb := fabs_bd x
  unfold wBody
  split
  · simp
  split
  · simp
  · exact wVal_len f hb.1 (by omega) hp
theorem wMid_len (f : Spc) {x : Int} (x0 : 0 ≤ x) (x1 : x ≤ 18446744073709551615) (hp : f.pr ≤ 100) : (wMid f x).length ≤ 9503 := by
  have h := wBody_len f x0 x1 hp
  unfold wMid
  split
  · rw [List.length_append, List.length_drop]; simp; omega
  · omega
theorem b_cons (c : UInt8) (l : List UInt8) : (⟨#[c]⟩ : ByteArray) ++ ⟨l.toArray⟩ = ⟨(c :: l).toArray⟩ := by
  apply ByteArray.ext
  simp
/-- the law -/
theorem wsigns_plain (v : Int) (mi ze al : Bool) (pr x : Int) (x0 : 0 ≤ x) (x1 : x ≤ 18446744073709551615) (hE : wErr ⟨v, mi, false, false, ze, al, 0, pr⟩ = 0) :
    let m := wMid ⟨v, mi, false, false, ze, al, 0, pr⟩ x
    (fcls x = 5 → wS ⟨v, mi, false, false, ze, al, 0, pr⟩ x = [110, 97, 110] ∧ wS ⟨v, mi, false, false, ze, al, 0, pr⟩ (fneg x) = [110, 97, 110] ∧ wS ⟨v, mi, true, false, ze, al, 0, pr⟩ x = [43, 110, 97, 110]) ∧
    (fcls x ≠ 5 → 9223372036854775808 ≤ x → wS ⟨v, mi, false, false, ze, al, 0, pr⟩ x = 45 :: m ∧ wS ⟨v, mi, false, false, ze, al, 0, pr⟩ (fneg x) = m ∧ wS ⟨v, mi, true, false, ze, al, 0, pr⟩ x = 45 :: m) ∧
    (fcls x ≠ 5 → ¬ 9223372036854775808 ≤ x → wS ⟨v, mi, false, false, ze, al, 0, pr⟩ x = m ∧ wS ⟨v, mi, false, false, ze, al, 0, pr⟩ (fneg x) = 45 :: m ∧ wS ⟨v, mi, true, false, ze, al, 0, pr⟩ x = 43 :: m) := by
  obtain ⟨n1, n2, n3, n4⟩ := wsg_fneg x0 x1
  have e1 : wS ⟨v, mi, false, false, ze, al, 0, pr⟩ x = wHead ⟨v, mi, false, false, ze, al, 0, pr⟩ x ++ wMid ⟨v, mi, false, false, ze, al, 0, pr⟩ x := by
    unfold wS; rw [if_pos hE, wTxt_pad0 _ _ (wPad_0 _ _ (Int.le_refl _))]
  have e2 : wS ⟨v, mi, false, false, ze, al, 0, pr⟩ (fneg x) = wHead ⟨v, mi, false, false, ze, al, 0, pr⟩ (fneg x) ++ wMid ⟨v, mi, false, false, ze, al, 0, pr⟩ x := by
    unfold wS; rw [if_pos hE, wTxt_pad0 _ _ (wPad_0 _ _ (Int.le_refl _))]
    congr 1
    unfold wMid
    rw [n3, wBody_eq ⟨v, mi, false, false, ze, al, 0, pr⟩ _ x (fneg x) n1 n2 ⟨rfl, rfl, rfl⟩]
  have e3 : wS ⟨v, mi, true, false, ze, al, 0, pr⟩ x = wHead ⟨v, mi, true, false, ze, al, 0, pr⟩ x ++ wMid ⟨v, mi, false, false, ze, al, 0, pr⟩ x := by
    have hE2 : wErr ⟨v, mi, true, false, ze, al, 0, pr⟩ = 0 := hE
    unfold wS; rw [if_pos hE2, wTxt_pad0 _ _ (wPad_0 _ _ (Int.le_refl _))]
    rfl
  intro m
  rw [e1, e2, e3]
  unfold wHead
  rw [n2]
  simp only
  refine ⟨fun h => ?_, fun h g => ?_, fun h g => ?_⟩
  · have hv : hasV x = false := by
      cases g : hasV x with
      | false => rfl
      | true => exact absurd h (wf_fin (of_decide_eq_true g)).1
    have hm : wMid ⟨v, mi, false, false, ze, al, 0, pr⟩ x = [110, 97, 110] := by
      unfold wMid
      rw [if_neg (by rw [hv]; simp)]
      unfold wBody
      rw [if_pos h]
    rw [hm]
    refine ⟨?_, ?_, ?_⟩ <;> simp [h]
  · have k : (9223372036854775808 ≤ fneg x) = False := eq_false (fun q => n4.1 q g)
    have g' : (9223372036854775808 ≤ x) = True := eq_true g
    have h' : (fcls x = 5) = False := eq_false h
    refine ⟨?_, ?_, ?_⟩ <;> simp [h', g', k, m]
  · have k : (9223372036854775808 ≤ fneg x) = True := eq_true (n4.2 g)
    have g' : (9223372036854775808 ≤ x) = False := eq_false g
    have h' : (fcls x = 5) = False := eq_false h
    refine ⟨?_, ?_, ?_⟩ <;> simp [h', g', k, m]
theorem wS_len (f : Spc) {x : Int} (x0 : 0 ≤ x) (x1 : x ≤ 18446744073709551615) : (wS f x).length ≤ 20000 := by
  unfold wS
  by_cases hE : wErr f = 0
  · rw [if_pos hE]
    have hE1 := hE
    unfold wErr at hE1
    have hc : ¬ ((f.verb ≠ 101 ∧ f.verb ≠ 102 ∧ f.verb ≠ 103 ∧ f.verb ≠ 97) ∨ f.wd < 0 ∨ 200 < f.wd ∨ f.pr < -1 ∨ (if f.verb = 97 then 30 else 100) < f.pr) := by
      intro h
      rw [if_pos h] at hE1
      exact absurd hE1 (by decide)
    have hp : f.pr ≤ 100 := by
      by_cases h97 : f.verb = 97
      · rw [if_pos h97] at hc; omega
      · rw [if_neg h97] at hc; omega
    have hb := wBody_len f x0 x1 hp
    have hh := wHead_le f x
    have hn : wPad f x ≤ 200 := by unfold wPad; omega
    unfold wTxt
    repeat' split
    all_goals
      simp only [List.length_append, List.length_replicate, List.length_drop, List.length_cons, List.length_nil]
      omega
  · rw [if_neg hE]; simp
end Go.Proofs.YtofdjfdnckmmmaaGreatDoor

/-
  PLAIN: no blank in what is told of a number.
-/
namespace Go.Proofs.YtofdjfdnckmmmaaGreatDoor
open Go.RowKit Go.Lib Nt Fm Fl

/-- no byte is a blank -/
def Nb (l : List UInt8) : Prop := ∀ c ∈ l, c ≠ 32
theorem Nb.app {a b : List UInt8} (h : Nb a) (k : Nb b) : Nb (a ++ b) := by
  intro c hc
  rcases List.mem_append.1 hc with g | g
  · exact h c g
  · exact k c g
theorem Nb.rep (n : Nat) (b : UInt8) (h : b ≠ 32) : Nb (List.replicate n b) := by
  intro c hc
  rw [List.eq_of_mem_replicate hc]
  exact h
theorem Nb.sub {a b : List UInt8} (h : Nb b) (k : ∀ c ∈ a, c ∈ b) : Nb a := fun c hc => h c (k c hc)
theorem Nb.nil : Nb [] := fun c hc => absurd hc (by simp)
theorem Nb.cons {b : UInt8} {l : List UInt8} (h : b ≠ 32) (k : Nb l) : Nb (b :: l) := by
  intro c hc
  rcases List.mem_cons.1 hc with g | g
  · rw [g]; exact h
  · exact k c g
theorem Nb.dgt {l : List UInt8} (h : ∀ c ∈ l, dgt c) : Nb l := by
  intro c hc e
  have := (h c hc).1
  rw [e] at this
  exact absurd this (by decide)
theorem nb_dec (n : Nat) : Nb (Lib.decDigits n) := Nb.dgt (dec_dgt n)
theorem nb_pt {s : List UInt8} (h : Nb s) (p : Nat) : Nb (pt s p) := by
  unfold pt
  have k := (Nb.rep (p + 1 - s.length) 48 (by decide)).app h
  split
  · exact h
  · exact (k.sub (fun c hc => List.mem_of_mem_take hc)).app (Nb.cons (by decide) (k.sub (fun c hc => List.mem_of_mem_drop hc)))
theorem nb_sg (x : Int) : Nb (sgS x) := by unfold sgS; split; · exact Nb.cons (by decide) Nb.nil
                                           · exact Nb.nil
theorem nb_fx (x p m : Int) : Nb (fxS x p m) := by
  unfold fxS
  split
  · exact (nb_sg x).app (nb_pt (nb_dec _) _)
  · exact Nb.nil
theorem nb_dgS (q g : Nat) : Nb (dgS q g) := by
  unfold dgS
  split
  · exact (nb_dec q).sub (fun c hc => List.mem_of_mem_take hc)
  · exact nb_dec q
theorem nb_dgT (d : D) (g : Nat) (m : Int) : Nb (dgT d g m) := by
  unfold dgT
  split
  · exact Nb.rep _ _ (by decide)
  · exact nb_dgS _ _
theorem nb_pw (p : Int) : Nb (pwS p) := by
  unfold pwS
  refine Nb.cons (by split <;> decide) (Nb.app ?_ (nb_dec _))
  split
  · exact Nb.cons (by decide) Nb.nil
  · exact Nb.nil
theorem nb_sc (x g m : Int) : Nb (scS x g m) := by
  unfold scS
  split
  · unfold scT
    exact (nb_sg x).app ((nb_pt (nb_dgT _ _ _) _).app (Nb.app (Nb.cons (by decide) Nb.nil) (nb_pw _)))
  · exact Nb.nil
theorem nb_itoa (p : Int) : Nb (Lib.itoa p) := by
  unfold Lib.itoa
  split
  · exact Nb.cons (by decide) (nb_dec _)
  · exact nb_dec _
theorem nb_hexd : ∀ n : Fin 16, hexd n.val ≠ 32 := by decide
theorem nb_hxD (M : Nat) : ∀ k, Nb (hxD M k)
  | 0 => Nb.nil
  | k + 1 => by rw [hxD]; exact Nb.cons (nb_hexd ⟨_, Nat.mod_lt _ (by omega)⟩) (nb_hxD M k)
theorem nb_hxE (p : Int) : Nb (hxE p) := by
  unfold hxE
  refine Nb.app ?_ (nb_itoa p)
  split
  · exact Nb.cons (by decide) (Nb.cons (by decide) Nb.nil)
  · exact Nb.cons (by decide) Nb.nil
theorem nb_hxW (x : Int) (d : D) (n : Nat) : Nb (hxW x d n) := by
  unfold hxW
  refine Nb.app ?_ ?_
  · unfold hxP
    split
    · exact Nb.cons (by decide) (Nb.cons (by decide) (Nb.cons (by decide) Nb.nil))
    · exact Nb.cons (by decide) (Nb.cons (by decide) Nb.nil)
  · have h1 : Nb (if 0 < n then [46] ++ List.replicate n 48 else []) := by
      split
      · exact Nb.app (Nb.cons (by decide) Nb.nil) (Nb.rep _ _ (by decide))
      · exact Nb.nil
    have h2 : Nb (if 0 < n then [46] else []) := by
      split
      · exact Nb.cons (by decide) Nb.nil
      · exact Nb.nil
    split
    · exact ((Nb.cons (by decide) Nb.nil).app h1).app (Nb.cons (by decide) (Nb.cons (by decide) (Nb.cons (by decide) Nb.nil)))
    · exact (((Nb.cons (by decide) Nb.nil).app h2).app (nb_hxD _ _)).app (nb_hxE _)
theorem nb_wA {s : List UInt8} (h : Nb s) (c : UInt8) : Nb (wA c s) := h.sub (fun b hb => by rw [← wAB c s]; exact List.mem_append_left _ hb)
theorem nb_wB {s : List UInt8} (h : Nb s) (c : UInt8) : Nb (wB c s) := h.sub (fun b hb => by rw [← wAB c s]; exact List.mem_append_right _ hb)
theorem nb_ins {s : List UInt8} (h : Nb s) (c : UInt8) : Nb (wIns c s) := by
  unfold wIns
  exact ((nb_wA h c).app (Nb.cons (by decide) Nb.nil)).app (nb_wB h c)
theorem nb_cutM {m : List UInt8} (h : Nb m) : Nb (wCutM m) := by
  unfold wCutM Lib.trimSuffix Lib.trimRightB
  have h1 : Nb ((m.reverse.dropWhile (· == 48)).reverse) := h.sub (fun b hb => by
    have := (List.dropWhile_sublist (· == 48) (l := m.reverse)).subset (List.mem_reverse.1 hb)
    exact List.mem_reverse.1 this)
  split
  · split
    · exact h1.sub (fun b hb => List.mem_of_mem_take hb)
    · exact h1
  · exact h
theorem nb_cut {s : List UInt8} (h : Nb s) : Nb (wCut s) := (nb_cutM (nb_wA h 101)).app (nb_wB h 101)
theorem nb_gen (al : Bool) (x : Int) (g : Nat) : Nb (wGen al x g) := by
  have key : Nb (if -4 ≤ dgP (valD x) g 0 ∧ dgP (valD x) g 0 < (g : Int) then fxS x ((g : Int) - 1 - dgP (valD x) g 0) 0 else scS x g 0) := by
    split
    · exact nb_fx _ _ _
    · exact nb_sc _ _ _
  unfold wGen
  simp only
  split
  · exact key
  · exact nb_cut key
theorem nb_val {f : Spc} {y : Int} (hy : hasV y = true) : Nb (wVal f y) := by
  have h0 : Nb (wVal0 f y) := by
    have hc : fcls y ≠ 5 ∧ fcls y ≠ 4 := wf_fin (of_decide_eq_true hy)
    unfold wVal0
    split
    · exact nb_fx _ _ _
    split
    · exact nb_sc _ _ _
    split
    · exact nb_gen _ _ _
    split
    · unfold hxT
      rw [if_neg hc.1, if_neg hc.2]
      exact nb_hxW _ _ _
    · unfold hfS
      split
      · exact nb_hxW _ _ _
      · exact Nb.nil
  unfold wVal
  by_cases h : (f.al = true ∧ 46 ∉ wVal0 f y)
  · rw [if_pos h]; exact nb_ins h0 _
  · rw [if_neg h]; exact h0
theorem nb_body {f : Spc} {x : Int} : Nb (wBody f x) := by
  unfold wBody
  split
  · exact Nb.cons (by decide) (Nb.cons (by decide) (Nb.cons (by decide) Nb.nil))
  split
  · exact Nb.cons (by decide) (Nb.cons (by decide) (Nb.cons (by decide) Nb.nil))
  · rename_i h5 h4
    refine nb_val ?_
    unfold hasV
    refine decide_eq_true ?_
    have e : fabs (fabs x) = fabs x := by unfold fabs; omega
    rw [e]
    by_cases h1 : fabs x = 9218868437227405312
    · exact absurd (wf_c4 h1) h4
    · by_cases h2 : 9218868437227405312 < fabs x
      · exact absurd (wf_c5 h2) h5
      · omega
theorem trim_nb {l : List UInt8} (h : Nb l) : Lib.trimS l [32] = l := by
  have key : ∀ m : List UInt8, Nb m → m.dropWhile ([32].contains ·) = m := by
    intro m hm
    cases m with
    | nil => rfl
    | cons c m =>
      rw [List.dropWhile_cons_of_neg]
      have := hm c (by simp)
      simp [this]
  unfold Lib.trimS Lib.trimLeftS Lib.trimRightS
  have h2 : Nb l.reverse := h.sub (fun c hc => List.mem_reverse.1 hc)
  rw [key _ h2, List.reverse_reverse, key _ h]
end Go.Proofs.YtofdjfdnckmmmaaGreatDoor
