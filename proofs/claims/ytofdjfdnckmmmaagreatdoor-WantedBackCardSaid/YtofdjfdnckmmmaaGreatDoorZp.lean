/-
  THE WALK of read.Parse.
-/
import Derived.Test.YtofdjfdnckmmmaaGreatDoorZk
import Derived.BigQuiet
import Derived.Deep.QuietTactic
set_option linter.unusedVariables false
set_option linter.unusedSimpArgs false
namespace Go.Proofs.YtofdjfdnckmmmaaGreatDoor
open Go.RowKit Nt Fm Fl

theorem results_tmp4 {fn : Func} {t u v x : Tmp} (h : fn.results = #[.tmp t, .tmp u, .tmp v, .tmp x]) (tmps : Array Value) (P : Program) (w : World) :
    (results fn tmps).run P w = .ok (.tuple #[tmps.getD t undef, tmps.getD u undef, tmps.getD v undef, tmps.getD x undef]) w := by
  simp [results, h]
/-- the pieces of a text -/
structure Rpc (s t whole t2 r part rest d : List UInt8) (neg pt : Bool) : Prop where
  h1 : t = Lib.trimPrefix s [45]
  n1 : neg = Lib.hasPrefix s [45]
  hw : whole = t.takeWhile (decCs.contains ·)
  h2 : t2 = t.dropWhile (decCs.contains ·)
  hr : r = Lib.trimPrefix t2 [46]
  np : pt = Lib.hasPrefix t2 [46]
  hp : part = if pt = true then r.takeWhile (decCs.contains ·) else []
  he : rest = if pt = true then r.dropWhile (decCs.contains ·) else t2
  hd : d = (whole ++ part).dropWhile ([48].contains ·)
theorem rpc_any (s : List UInt8) : ∃ t whole t2 r part rest d neg pt, Rpc s t whole t2 r part rest d neg pt := ⟨_, _, _, _, _, _, _, _, _, rfl, rfl, rfl, rfl, rfl, rfl, rfl, rfl, rfl⟩
/-- what Parse tells of the error -/
def rpE (s whole part rest : List UInt8) : Int := if 1000 < s.length then 2 else if pwOK rest = true ∧ (whole ++ part).isEmpty = false then 0 else 5
/-- the exponent -/
def rpK (part rest d : List UInt8) : Int := if d.isEmpty = true then 0 else pwK rest - (part.length : Int)
/-- what Parse tells -/
def RetPp (w : World) (neg : Bool) (d : List UInt8) (k er : Int) (e : Ending) (w' : World) : Prop :=
  e = .returned (.tuple #[.bool neg, .string ⟨d.toArray⟩, .int .i64 k, .int .i64 er]) ∧ Below w.heap.size w w'
theorem rpc_len {s t whole t2 r part rest d : List UInt8} {neg pt : Bool} (H : Rpc s t whole t2 r part rest d neg pt) : whole.length ≤ t.length ∧ t.length ≤ s.length ∧ t2.length ≤ t.length ∧ r.length ≤ t2.length ∧ part.length ≤ r.length ∧ rest.length ≤ t2.length ∧ whole.length + t2.length = t.length ∧ (∀ c ∈ whole ++ part, decCs.contains c = true) := by
  obtain ⟨h1, n1, hw, h2, hr, np, hp, he, hd⟩ := H
  have l1 := trimP_len s [45]
  have lw := takeW_le (p := (decCs.contains ·)) t
  have l2 := dropW_len (p := (decCs.contains ·)) t
  have lr := trimP_len t2 [46]
  have lr1 := dropW_len (p := (decCs.contains ·)) r
  have lr2 := takeW_le (p := (decCs.contains ·)) r
  have ls := congrArg List.length (List.takeWhile_append_dropWhile (p := (decCs.contains ·)) (l := t))
  rw [List.length_append] at ls
  rw [← h1] at l1
  rw [← hw] at lw ls
  rw [← h2] at l2 ls
  rw [← hr] at lr
  have lp : part.length ≤ r.length := by rw [hp]; split; exact lr2; simp
  have le : rest.length ≤ t2.length := by rw [he]; split; omega; omega
  refine ⟨lw, l1, l2, lr, lp, le, ls, fun c hc => ?_⟩
  rw [List.mem_append] at hc
  rcases hc with hc | hc
  · rw [hw] at hc; exact takeW_mem hc
  · rw [hp] at hc
    split at hc
    · exact takeW_mem hc
    · simp at hc
theorem decCs_dgt {c : UInt8} (h : decCs.contains c = true) : dgt c := by
  unfold decCs at h
  unfold dgt
  simp at h
  rcases h with rfl | rfl | rfl | rfl | rfl | rfl | rfl | rfl | rfl | rfl <;> decide
theorem cut_drop {a b l : List UInt8} (h : a ++ b = l) : l.drop a.length = b ∧ l.take a.length = a := by
  subst h
  exact ⟨List.drop_left, List.take_left⟩
theorem dropW_take {p : UInt8 → Bool} (l : List UInt8) : l.drop (l.takeWhile p).length = l.dropWhile p := (cut_drop List.takeWhile_append_dropWhile).1
theorem take_takeW {p : UInt8 → Bool} (l : List UInt8) : l.take (l.takeWhile p).length = l.takeWhile p := (cut_drop List.takeWhile_append_dropWhile).2
theorem pwK_bd (l : List UInt8) : -999999 ≤ pwK l ∧ pwK l ≤ 999999 := by
  cases l with
  | nil => show -999999 ≤ (0 : Int) ∧ (0 : Int) ≤ 999999; omega
  | cons c l =>
    show -999999 ≤ (if pwOK (c :: l) = true then pwV l else 0) ∧ (if pwOK (c :: l) = true then pwV l else 0) ≤ 999999
    split
    · rename_i h
      have h2 : ((c == 101 || c == 69) && pwG l) = true := h
      have hg : pwG l = true := by rw [Bool.and_eq_true] at h2; exact h2.2
      obtain ⟨-, k1, k2⟩ := pwG_dgt hg
      have k3 := dcN_lt (pwT l) 0 k2
      have k4 : (10 : Nat) ^ (pwT l).length ≤ 10 ^ 6 := Nat.pow_le_pow_right (by omega) k1
      have k5 : (10 : Nat) ^ 6 = 1000000 := by decide
      unfold pwV
      split <;> omega
    · omega
set_option maxRecDepth 100000 in
set_option maxHeartbeats 16000000 in
theorem rparse_any {s t whole t2 r part rest d : List UInt8} {neg pt : Bool} (H : Rpc s t whole t2 r part rest d neg pt) (S : ByteArray) (hS : S = ⟨s.toArray⟩) (w : World) :
    Calls Tryz.prog 29 #[.string S] w (RetPp w (if rpE s whole part rest = 0 then neg else false) (if rpE s whole part rest = 0 then d else []) (if rpE s whole part rest = 0 then rpK part rest d else 0) (rpE s whole part rest)) := by
  obtain ⟨lw, l1, l2, lr, lp, le, ls, hdg⟩ := rpc_len H
  obtain ⟨h1, n1, hw, h2, hr, np, hp, he, hd⟩ := H
  have zS : S.size = s.length := by rw [hS]; rfl
  by_cases hlong : 1000 < s.length
  · have hE : rpE s whole part rest = 2 := by unfold rpE; rw [if_pos hlong]
    rw [hE]
    unfold RetPp
    have hz : (1000 : Int) < ((S.size : Nat) : Int) := by omega
    clear hw h2 hr np hp he hd hS hdg h1 n1 lw l1 l2 lr lp le ls zS hlong
    go_enter Tryz.func29, Tryz.ntmps29
    go_wp2
    (try simp only [Exit.inBlock, Exit.then])
    refine bodyPost_ret (results_tmp4 rfl _ _ _) rfl ?_
    exact ⟨rfl, Below.refl _ _⟩
  · obtain ⟨T1, e1⟩ : ∃ T : ByteArray, T = ⟨t.toArray⟩ := ⟨_, rfl⟩
    obtain ⟨W, eW⟩ : ∃ T : ByteArray, T = ⟨whole.toArray⟩ := ⟨_, rfl⟩
    obtain ⟨T2, e2⟩ : ∃ T : ByteArray, T = ⟨t2.toArray⟩ := ⟨_, rfl⟩
    obtain ⟨Rr, eR⟩ : ∃ T : ByteArray, T = ⟨r.toArray⟩ := ⟨_, rfl⟩
    obtain ⟨PP, eP⟩ : ∃ T : ByteArray, T = ⟨part.toArray⟩ := ⟨_, rfl⟩
    obtain ⟨E, eE⟩ : ∃ T : ByteArray, T = ⟨rest.toArray⟩ := ⟨_, rfl⟩
    obtain ⟨DD, eD⟩ : ∃ T : ByteArray, T = ⟨d.toArray⟩ := ⟨_, rfl⟩
    have C1 := Lib.hid (fun w' => cutPrefix_any s [45] S hS w')
    rw [← h1, ← n1, ← e1] at C1
    have C2 := Lib.hid (fun w' => rdigits_any t T1 e1 w' (by omega))
    have C3 := Lib.hid (fun w' => cutPrefix_any t2 [46] T2 e2 w')
    rw [← hr, ← np, ← eR] at C3
    have C4 := Lib.hid (fun w' => rdigits_any r Rr eR w' (by omega))
    have C5 := Lib.hid (fun w' => rpower_any rest E eE (by omega) w')
    have C6 := Lib.hid (fun w' => trimLeft_any ⟨(whole ++ part).toArray⟩ [48] (by decide) (by decide) w')
    have hdr : (whole ++ part).dropWhile (fun b => [48].contains b) = d := hd.symm
    obtain ⟨WP, eWP⟩ : ∃ T : ByteArray, W ++ PP = T := ⟨_, rfl⟩
    have eWP2 : WP = ⟨(whole ++ part).toArray⟩ := by rw [← eWP]; exact ba_app _ _ eW eP
    have z1 : T1.size = t.length := by rw [e1]; rfl
    have zR : Rr.size = r.length := by rw [eR]; rfl
    have zP : PP.size = part.length := by rw [eP]; rfl
    have zW : W.size = whole.length := by rw [eW]; rfl
    have d1 : dgN t = whole.length := by rw [hw]; rfl
    have x1 : T1.extract 0 whole.length = W := by
      rw [e1, eW, hw]
      apply ByteArray.ext
      simp [ByteArray.data_extract]
      exact take_takeW t
    have x2 : T1.extract whole.length t.length = T2 := by
      rw [e1, e2, h2, ← d1]
      apply ByteArray.ext
      simp [ByteArray.data_extract]
      rw [List.take_of_length_le (by rw [List.length_drop]; omega)]
      have := dropW_take (p := (decCs.contains ·)) t
      simpa [dgN] using this
    have x3 : Hid (pt = true → (∀ w', Calls Tryz.prog 56 #[.string Rr] w' fun e w2 => e = .returned (.int .i64 ((part.length : Nat) : Int)) ∧ Below w'.heap.size w' w2) ∧ Rr.extract 0 part.length = PP ∧ Rr.extract part.length r.length = E ∧ part.length ≤ r.length) := Lib.hid (fun h => by
      have k1 : part = r.takeWhile (decCs.contains ·) := by rw [hp, if_pos h]
      have k2 : rest = r.dropWhile (decCs.contains ·) := by rw [he, if_pos h]
      have k3 : dgN r = part.length := by rw [k1]; rfl
      refine ⟨fun w' => by rw [← k3]; exact C4.out w', ?_, ?_, lp⟩
      · rw [eR, eP, k1]
        apply ByteArray.ext
        simp [ByteArray.data_extract]
        exact take_takeW r
      · rw [eR, eE, k2, ← k3]
        apply ByteArray.ext
        simp [ByteArray.data_extract]
        rw [List.take_of_length_le (by rw [List.length_drop]; omega)]
        have := dropW_take (p := (decCs.contains ·)) r
        simpa [dgN] using this)
    have x4 : Hid (pt = false → PP = ⟨#[]⟩ ∧ E = T2) := Lib.hid (fun h => by
      have k1 : part = [] := by rw [hp, h]; rfl
      have k2 : rest = t2 := by rw [he, h]; rfl
      exact ⟨by rw [eP, k1], by rw [eE, e2, k2]⟩)
    rw [d1] at C2
    have m1 := empt _ _ eWP2
    have m2 := empt _ _ eD
    rw [show (⟨(whole ++ part).toArray⟩ : ByteArray).data.toList = whole ++ part from rfl, hdr, ← eWP2, ← eD] at C6
    have hK := pwK_bd rest
    unfold rpE rpK RetPp
    rw [if_neg hlong]
    have hz : ¬ (1000 : Int) < ((S.size : Nat) : Int) := by omega
    have HD : Hid (DD = ⟨d.toArray⟩) := Lib.hid eD
    have B : Hid (Below w.heap.size w w) := Lib.hid (Below.refl _ _)
    have hd0 := Lib.hid (show d.isEmpty = true → d = [] from fun h => List.isEmpty_iff.1 h)
    generalize (whole ++ part).isEmpty = b1 at *
    generalize d.isEmpty = b2 at *
    generalize pwOK rest = pok at *
    generalize pwK rest = pk at *
    have hpl : part.length ≤ 1000 := by omega
    have hwl : whole.length ≤ 1000 := by omega
    generalize part.length = pl at *
    generalize whole.length = wl at *
    generalize t.length = tl at *
    generalize r.length = rl at *
    have hw4 : IntKind.i64.wrap (pk - (pl : Int)) = pk - (pl : Int) := IntWalk.i64_in _ (by omega)
    clear hw h2 hr np hp he hd hdg h1 n1 lr lp le ls e1 eW e2 eR eP eE eD hS hdr eWP2 d1 C4 hlong
    cases pt
    · obtain ⟨rfl, rfl⟩ := x4.out rfl
      obtain rfl : pl = 0 := by rw [← zP]; rfl
      clear x3 zP
      cases pok
      all_goals
        cases b1
        all_goals
          cases b2
          all_goals
            go_enter Tryz.func29, Tryz.ntmps29
            go_wp2_with (first
              | (go_at_call 45; first
                  | ((with_reducible refine (C1.out _).mono ?_); rintro e w1 ⟨rfl, rfl⟩)
                  | ((with_reducible refine (C3.out _).mono ?_); rintro e w1 ⟨rfl, rfl⟩))
              | (go_at_call 56; first
                  | ((with_reducible refine (C2.out _).mono ?_); rintro e w1 ⟨rfl, hb⟩; replace B : Hid (Below w.heap.size w w1) := Lib.hid (bl_thru B.out (Nat.le_refl _) hb); clear hb)
                  | fail)
              | (go_at_call 57; (with_reducible refine (C5.out _).mono ?_); rintro e w1 ⟨rfl, hb⟩; replace B : Hid (Below w.heap.size w w1) := Lib.hid (bl_thru B.out (Nat.le_refl _) hb); clear hb)
              | (go_at_call 58; (with_reducible refine (C6.out _).mono ?_); rintro e w1 ⟨rfl, hb⟩; replace B : Hid (Below w.heap.size w w1) := Lib.hid (bl_thru B.out (Nat.le_refl _) hb); clear hb))
            go_quiet (fail)
            replace B := Lib.hid (below_to_drewN (n := nq) B.out)
            go_wp2_with (first
              | (go_at_call 45; first
                  | ((with_reducible refine (C1.out _).mono ?_); rintro e w1 ⟨rfl, rfl⟩)
                  | ((with_reducible refine (C3.out _).mono ?_); rintro e w1 ⟨rfl, rfl⟩))
              | (go_at_call 56; first
                  | ((with_reducible refine (C2.out _).mono ?_); rintro e w1 ⟨rfl, hb⟩; replace B : Hid (Below w.heap.size w w1) := Lib.hid (bl_thru B.out (Nat.le_refl _) hb); clear hb)
                  | fail)
              | (go_at_call 57; (with_reducible refine (C5.out _).mono ?_); rintro e w1 ⟨rfl, hb⟩; replace B : Hid (Below w.heap.size w w1) := Lib.hid (bl_thru B.out (Nat.le_refl _) hb); clear hb)
              | (go_at_call 58; (with_reducible refine (C6.out _).mono ?_); rintro e w1 ⟨rfl, hb⟩; replace B : Hid (Below w.heap.size w w1) := Lib.hid (bl_thru B.out (Nat.le_refl _) hb); clear hb))
            all_goals first
              | ((try simp only [Exit.inBlock, Exit.then]); refine bodyPost_ret (results_tmp4 rfl _ _ _) rfl ?_; exact ⟨by first | rfl | (rw [HD.out]; rfl) | (rw [hd0.out trivial]; done) | (rw [hd0.out trivial]; rfl), B.out⟩; done)
              | (exfalso; simp_all; done)
              | trace_state
    · have D2 := Lib.hid (x3.out rfl).1
      obtain ⟨-, x5, x6, x7⟩ := x3.out rfl
      clear x4
      cases pok
      all_goals
        cases b1
        all_goals
          cases b2
          all_goals
            go_enter Tryz.func29, Tryz.ntmps29
            go_wp2_with (first
              | (go_at_call 45; first
                  | ((with_reducible refine (C1.out _).mono ?_); rintro e w1 ⟨rfl, rfl⟩)
                  | ((with_reducible refine (C3.out _).mono ?_); rintro e w1 ⟨rfl, rfl⟩))
              | (go_at_call 56; first
                  | ((with_reducible refine (C2.out _).mono ?_); rintro e w1 ⟨rfl, hb⟩; replace B : Hid (Below w.heap.size w w1) := Lib.hid (bl_thru B.out (Nat.le_refl _) hb); clear hb)
                  | ((with_reducible refine (D2.out _).mono ?_); rintro e w1 ⟨rfl, hb⟩; replace B : Hid (Below w.heap.size w w1) := Lib.hid (bl_thru B.out (Nat.le_refl _) hb); clear hb))
              | (go_at_call 57; (with_reducible refine (C5.out _).mono ?_); rintro e w1 ⟨rfl, hb⟩; replace B : Hid (Below w.heap.size w w1) := Lib.hid (bl_thru B.out (Nat.le_refl _) hb); clear hb)
              | (go_at_call 58; (with_reducible refine (C6.out _).mono ?_); rintro e w1 ⟨rfl, hb⟩; replace B : Hid (Below w.heap.size w w1) := Lib.hid (bl_thru B.out (Nat.le_refl _) hb); clear hb))
            go_quiet (fail)
            replace B := Lib.hid (below_to_drewN (n := nq) B.out)
            go_wp2_with (first
              | (go_at_call 45; first
                  | ((with_reducible refine (C1.out _).mono ?_); rintro e w1 ⟨rfl, rfl⟩)
                  | ((with_reducible refine (C3.out _).mono ?_); rintro e w1 ⟨rfl, rfl⟩))
              | (go_at_call 56; first
                  | ((with_reducible refine (C2.out _).mono ?_); rintro e w1 ⟨rfl, hb⟩; replace B : Hid (Below w.heap.size w w1) := Lib.hid (bl_thru B.out (Nat.le_refl _) hb); clear hb)
                  | ((with_reducible refine (D2.out _).mono ?_); rintro e w1 ⟨rfl, hb⟩; replace B : Hid (Below w.heap.size w w1) := Lib.hid (bl_thru B.out (Nat.le_refl _) hb); clear hb))
              | (go_at_call 57; (with_reducible refine (C5.out _).mono ?_); rintro e w1 ⟨rfl, hb⟩; replace B : Hid (Below w.heap.size w w1) := Lib.hid (bl_thru B.out (Nat.le_refl _) hb); clear hb)
              | (go_at_call 58; (with_reducible refine (C6.out _).mono ?_); rintro e w1 ⟨rfl, hb⟩; replace B : Hid (Below w.heap.size w w1) := Lib.hid (bl_thru B.out (Nat.le_refl _) hb); clear hb))
            go_quiet (fail)
            replace B := Lib.hid (below_to_drewN (n := nq) B.out)
            go_wp2_with (first
              | (go_at_call 45; first
                  | ((with_reducible refine (C1.out _).mono ?_); rintro e w1 ⟨rfl, rfl⟩)
                  | ((with_reducible refine (C3.out _).mono ?_); rintro e w1 ⟨rfl, rfl⟩))
              | (go_at_call 56; first
                  | ((with_reducible refine (C2.out _).mono ?_); rintro e w1 ⟨rfl, hb⟩; replace B : Hid (Below w.heap.size w w1) := Lib.hid (bl_thru B.out (Nat.le_refl _) hb); clear hb)
                  | ((with_reducible refine (D2.out _).mono ?_); rintro e w1 ⟨rfl, hb⟩; replace B : Hid (Below w.heap.size w w1) := Lib.hid (bl_thru B.out (Nat.le_refl _) hb); clear hb))
              | (go_at_call 57; (with_reducible refine (C5.out _).mono ?_); rintro e w1 ⟨rfl, hb⟩; replace B : Hid (Below w.heap.size w w1) := Lib.hid (bl_thru B.out (Nat.le_refl _) hb); clear hb)
              | (go_at_call 58; (with_reducible refine (C6.out _).mono ?_); rintro e w1 ⟨rfl, hb⟩; replace B : Hid (Below w.heap.size w w1) := Lib.hid (bl_thru B.out (Nat.le_refl _) hb); clear hb))
            all_goals first
              | ((try simp only [Exit.inBlock, Exit.then]); refine bodyPost_ret (results_tmp4 rfl _ _ _) rfl ?_; exact ⟨by first | rfl | (rw [HD.out]; rfl) | (rw [hd0.out trivial]; done) | (rw [hd0.out trivial]; rfl), B.out⟩; done)
              | (exfalso; simp_all; done)
              | trace_state
end Go.Proofs.YtofdjfdnckmmmaaGreatDoor
