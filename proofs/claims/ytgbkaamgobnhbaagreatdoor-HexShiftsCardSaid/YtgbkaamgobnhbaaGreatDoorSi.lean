/-
  THE WALKS of decimal.Digits, Power, Sci.
-/
import Derived.Test.YtgbkaamgobnhbaaGreatDoorLg
set_option linter.unusedVariables false
set_option linter.unusedSimpArgs false
namespace Go.Proofs.YtgbkaamgobnhbaaGreatDoor
open Go.RowKit Nt Fm Fl

theorem mid_some {d : D} (h : Mid d) : ∀ n : Nat, ¬ Ge10 d (-400 + n) → ∃ p, IsLg d p
  | 0, hn => absurd (mid_low h) (by simpa using hn)
  | n + 1, hn => by
    by_cases hg : Ge10 d (-400 + n)
    · exact ⟨_, isLg_iff.2 ⟨hg, by rw [show (-400 : Int) + n + 1 = -400 + ((n + 1 : Nat) : Int) by omega]; exact hn⟩⟩
    · exact mid_some h n hg
theorem mid_lg {d : D} (h : Mid d) : IsLg d (lgD d) := Classical.epsilon_spec (mid_some h 800 (mid_high h))
theorem mid_bd {d : D} (h : Mid d) : -400 ≤ lgD d ∧ lgD d ≤ 400 := by
  have h1 := isLg_iff.1 (mid_lg h)
  constructor
  · rcases Int.lt_or_le (lgD d) (-400) with h2 | h2
    · exact absurd (ge_anti (show lgD d + 1 ≤ -400 by omega) (mid_low h)) h1.2
    · exact h2
  · rcases Int.lt_or_le 400 (lgD d) with h2 | h2
    · exact absurd (ge_anti (show (400 : Int) ≤ lgD d by omega) h1.1) (mid_high h)
    · exact h2
/-- the digits, as a number -/
noncomputable def dgQ (d : D) (g : Nat) (mode : Int) : Nat := dQ d ((g : Int) - 1 - lgD d) mode
/-- what Digits tells: the text -/
noncomputable def dgT (d : D) (g : Nat) (mode : Int) : List UInt8 := if d.m = 0 then List.replicate g 48 else dgS (dgQ d g mode) g
/-- .. the exponent -/
noncomputable def dgP (d : D) (g : Nat) (mode : Int) : Int := if d.m = 0 then 0 else if g < (Lib.decDigits (dgQ d g mode)).length then lgD d + 1 else lgD d
/-- .. whether it was changed -/
noncomputable def dgC (d : D) (g : Nat) : Bool := if d.m = 0 then false else dC d ((g : Int) - 1 - lgD d)
def RetSIB (w : World) (s : List UInt8) (p : Int) (b : Bool) (e : Ending) (w' : World) : Prop := e = .returned (.tuple #[.string ⟨s.toArray⟩, .int .i64 p, .bool b]) ∧ Below w.heap.size w w'
theorem ba_take {S : ByteArray} {l : List UInt8} (hS : S = ⟨l.toArray⟩) (g : Nat) : S.extract 0 g = ⟨(l.take g).toArray⟩ := by
  subst hS
  apply ByteArray.ext
  simp [ByteArray.data_extract]
set_option maxHeartbeats 8000000 in
theorem digits_any (v : Value) (d : D) (g : Nat) (mode : Int) (w : World) (hd : DV w v d) (hm : d.m = 0 ∨ Mid d) (g1 : 1 ≤ g) (g2 : g ≤ 1000) (m0 : 0 ≤ mode) (m1 : mode ≤ 4) (hT10 : Tab10 w) :
    Calls Tryz.prog 38 #[v, .int .i64 (g : Int), .int .i64 mode] w (RetSIB w (dgT d g mode) (dgP d g mode) (dgC d g)) := by
  obtain ⟨s, rfl, hs⟩ := hd
  obtain ⟨sa, sn, sc, rfl, hl1, hl2, hz⟩ := nv_len hs
  unfold dgT dgP dgC
  have HS := Lib.hid hs
  rcases hz with ⟨hz, rfl⟩ | ⟨hz, hn⟩
  · rw [if_pos hz, if_pos hz, if_pos hz]
    have RP := Lib.hid (fun X w' (h : X = ((g : Nat) : Int)) => rep_any g X h (by omega) w')
    obtain ⟨Z, hZ⟩ : ∃ Z : ByteArray, Z = ⟨(List.replicate g (48 : UInt8)).toArray⟩ := ⟨_, rfl⟩
    unfold RetSIB
    rw [← hZ] at RP
    rw [← hZ]
    have B0 : Hid (Below w.heap.size w (w.alloc (.cells #[.bool d.neg, .slice sa 0 sc, .int .i64 d.e] 52))) := Lib.hid ((Below.refl _ _).alloc (Nat.le_refl _) _)
    clear hZ hm hT10 hs HS
    go_enter Tryz.func38, Tryz.ntmps38
    go_wp2_with (go_at_call 69; refine (RP.out _ _ rfl).mono ?_; rintro e w3 ⟨rfl, hb3⟩; have B3 := Lib.hid (bl_thru B0.out (Nat.le_refl _) hb3); clear hb3)
    go_ret3
    exact ⟨rfl, B3.out⟩
  · rw [if_neg hz, if_neg hz, if_neg hz]
    have hmid : Mid d := hm.resolve_left hz
    have hlg := mid_lg hmid
    obtain ⟨lb0, lb1⟩ := mid_bd hmid
    obtain ⟨bq0, bq1⟩ := dg_bd hlg g g1 mode
    have hql := dec_len_le (g + 1) (dgQ d g mode) (by omega) (by
      have : 10 ^ g < 10 ^ (g + 1) := Nat.pow_lt_pow_right (by omega) (by omega)
      unfold dgQ; omega)
    obtain ⟨K0, hK0, hK1⟩ : ∃ K0, 20000 ≤ K0 ∧ K0 ≤ 20000 := ⟨20000, by omega, by omega⟩
    have b1 : dN d ((g : Int) - 1 - lgD d) < 2 ^ K0 := by
      have e0 := hmid.e1
      exact Nat.lt_of_lt_of_le (dN_lt d _ (kd := 64) hmid.m1).2 (Nat.pow_le_pow_right (by omega) (by omega))
    have b2 : dD d ((g : Int) - 1 - lgD d) < 2 ^ K0 := by
      have e0 := hmid.e0
      exact Nat.lt_of_lt_of_le (dD_lt _ _) (Nat.pow_le_pow_right (by omega) (by omega))
    have LG := Lib.hid (fun v w' (h : DV w' v d) => log10_any v d w' h hmid)
    have SC := Lib.hid (fun v w' (h : DV w' v d) => scaled_any v d ((g : Int) - 1 - lgD d) 64 w' h hmid.m1 (by omega) (by omega) (by omega) (by have := hmid.e0; omega) (by have := hmid.e1; omega))
    have RR := Lib.hid (fun B w' (h : RatN w' B d.neg (dN d ((g : Int) - 1 - lgD d)) (dD d ((g : Int) - 1 - lgD d))) => rround_any B _ _ _ K0 mode w' h b1 (dD_pos _ _) b2 (by omega) m0 m1)
    have hq := dQ_lt d ((g : Int) - 1 - lgD d) mode b1
    change Hid (∀ B w' (h : RatN w' B d.neg (dN d ((g : Int) - 1 - lgD d)) (dD d ((g : Int) - 1 - lgD d))), Calls Tryz.prog 74 #[.pointer (some ⟨B, 0, none⟩), .int .i64 mode] w' (RetNVB w' (dgQ d g mode) (dC d ((g : Int) - 1 - lgD d)))) at RR
    have DC := Lib.hid (fun va w' (h : NV w' va (dgQ d g mode)) (h2 : Tab10 w') => decimal_any va _ (K0 + 1) w' h hq (by omega) h2)
    generalize dC d ((g : Int) - 1 - lgD d) = cc at *
    generalize dgQ d g mode = q at *
    generalize hlgd : lgD d = lg at *
    have hw1 : (g : Int) - 1 - lg = IntKind.i64.wrap ((g : Int) - 1 - lg) := (IntWalk.i64_in _ (by omega)).symm
    obtain ⟨n, hn'⟩ : ∃ n, n = (Lib.decDigits q).length := ⟨_, rfl⟩
    obtain ⟨S, hS⟩ : ∃ S : ByteArray, S = ⟨(Lib.decDigits q).toArray⟩ := ⟨_, rfl⟩
    have hSz : S.size = n := by rw [hn', hS]; rfl
    rw [← hS] at DC
    have HSS := Lib.hid hS
    have HN := Lib.hid hn'
    have B0 : Hid (Below w.heap.size w (w.alloc (.cells #[.bool d.neg, .slice sa sn sc, .int .i64 d.e] 52))) := Lib.hid ((Below.refl _ _).alloc (Nat.le_refl _) _)
    have H0 := Lib.hid (HS.out.alloc (.cells #[.bool d.neg, .slice sa sn sc, .int .i64 d.e] 52))
    have XC : Hid (Box (w.alloc (.cells #[.bool d.neg, .slice sa sn sc, .int .i64 d.e] 52)) w.heap.size 52 (.bool d.neg) (.slice sa sn sc) (.int .i64 d.e)) := Lib.hid (Box.new w (.bool d.neg) (.slice sa sn sc) (.int .i64 d.e) 52)
    have T0 := Lib.hid (hT10.below ((Below.refl _ _).alloc (Nat.le_refl _) (.cells #[.bool d.neg, .slice sa sn sc, .int .i64 d.e] 52)))
    have hnz : ((sn : Int) == 0) = false := by rw [beq_eq_false_iff_ne]; omega
    rw [← hn'] at hql
    have epost : ∀ b : Bool, b = decide (g < n) → (if g < (Lib.decDigits q).length then lg + 1 else lg) = (if b = true then lg + 1 else lg) ∧ dgS q g = (if b = true then (Lib.decDigits q).take g else Lib.decDigits q) := by
      intro b hb
      rw [hb]
      unfold dgS
      rw [← hn']
      by_cases h : g < n
      · simp [h]
      · simp [h]
    by_cases hgn : g < n
    · obtain ⟨ep1, ep2⟩ := epost true (by rw [decide_eq_true hgn])
      rw [if_pos rfl] at ep1 ep2
      rw [ep1, ep2]
      have HE := Lib.hid (ba_take hS g)
      unfold RetSIB
      rw [← HE.out]
      have hgi : (g : Int) < (n : Int) := by omega
      have hgn' : (g : Int) ≤ (n : Int) := by omega
      clear hs HS hm hz hmid hlg b1 b2 hq bq0 bq1 hlgd hn' hS epost ep1 ep2 hT10 hgn HE hw1
      go_enter Tryz.func38, Tryz.ntmps38
      go_wp2_with (first
        | (go_at_call 61; refine (LG.out _ _ ⟨_, rfl, H0.out⟩).mono ?_; rintro e w1 ⟨rfl, hb⟩; have H1 := Lib.hid (H0.out.below hb); have X1 := Lib.hid (XC.out.below hb); have T1 := Lib.hid (T0.out.below hb); have B1 := Lib.hid (bl_thru B0.out (Nat.le_refl _) hb); obtain ⟨p0, p1, p2, -, -, -⟩ := X1.out.cells; clear hb)
        | (go_at_call 73; refine (SC.out _ _ ⟨_, rfl, H1.out⟩).mono ?_; rintro e w2 ⟨bb, rfl, -, hr2, hb2⟩; have R2 := Lib.hid hr2; have B2 := Lib.hid (bl_thru B1.out (Nat.le_refl _) hb2); have T2 := Lib.hid (T1.out.below hb2); clear hr2 hb2)
        | (go_at_call 74; refine (RR.out _ _ (by obtain ⟨s, vn, vd, h1, h2, h3⟩ := R2.out; exact ⟨s, _, vn, vd, h1, h2, h3⟩)).mono ?_; rintro e w3 ⟨v3, rfl, hv3, hb3⟩; have N3 := Lib.hid hv3; have B3 := Lib.hid (bl_thru B2.out (Nat.le_refl _) hb3); have T3 := Lib.hid (T2.out.below hb3); clear hv3 hb3)
        | (go_at_call 67; refine (DC.out _ _ N3.out T3.out).mono ?_; rintro e w5 ⟨rfl, hb5⟩; have B5 := Lib.hid (bl_thru B3.out (Nat.le_refl _) hb5); clear hb5))
      go_ret3
      exact ⟨rfl, B5.out⟩
    · obtain ⟨ep1, ep2⟩ := epost false (by rw [decide_eq_false hgn])
      simp only [Bool.false_eq_true, if_false] at ep1 ep2
      rw [ep1, ep2]
      unfold RetSIB
      rw [← hS]
      have hgi : (n : Int) ≤ (g : Int) := by omega
      clear hs HS hm hz hmid hlg b1 b2 hq bq0 bq1 hlgd hn' hS epost ep1 ep2 hT10 hgn hw1
      go_enter Tryz.func38, Tryz.ntmps38
      go_wp2_with (first
        | (go_at_call 61; refine (LG.out _ _ ⟨_, rfl, H0.out⟩).mono ?_; rintro e w1 ⟨rfl, hb⟩; have H1 := Lib.hid (H0.out.below hb); have X1 := Lib.hid (XC.out.below hb); have T1 := Lib.hid (T0.out.below hb); have B1 := Lib.hid (bl_thru B0.out (Nat.le_refl _) hb); obtain ⟨p0, p1, p2, -, -, -⟩ := X1.out.cells; clear hb)
        | (go_at_call 73; refine (SC.out _ _ ⟨_, rfl, H1.out⟩).mono ?_; rintro e w2 ⟨bb, rfl, -, hr2, hb2⟩; have R2 := Lib.hid hr2; have B2 := Lib.hid (bl_thru B1.out (Nat.le_refl _) hb2); have T2 := Lib.hid (T1.out.below hb2); clear hr2 hb2)
        | (go_at_call 74; refine (RR.out _ _ (by obtain ⟨s, vn, vd, h1, h2, h3⟩ := R2.out; exact ⟨s, _, vn, vd, h1, h2, h3⟩)).mono ?_; rintro e w3 ⟨v3, rfl, hv3, hb3⟩; have N3 := Lib.hid hv3; have B3 := Lib.hid (bl_thru B2.out (Nat.le_refl _) hb3); have T3 := Lib.hid (T2.out.below hb3); clear hv3 hb3)
        | (go_at_call 67; refine (DC.out _ _ N3.out T3.out).mono ?_; rintro e w5 ⟨rfl, hb5⟩; have B5 := Lib.hid (bl_thru B3.out (Nat.le_refl _) hb5); clear hb5))
      go_ret3
      exact ⟨rfl, B5.out⟩
theorem itoaP (n : Nat) (X : Int) (hX : X = (n : Int)) (h : n < 1000000) (w : World) (hT : Tab10 w) :
    Calls Tryz.prog 81 #[.int .i64 X] w fun e w' => e = .returned (.string ⟨(Lib.decDigits n).toArray⟩) ∧ Below w.heap.size w w' := by
  subst hX
  exact itoa_any n (by omega) w hT
theorem ba_mk (a b : List UInt8) {A : ByteArray} (hA : A = ⟨b.toArray⟩) : (⟨a.toArray⟩ : ByteArray) ++ A = ⟨(a ++ b).toArray⟩ := ba_app a b rfl hA
set_option maxHeartbeats 4000000 in
theorem power_any (p : Int) (w : World) (p0 : -10000 ≤ p) (p1 : p ≤ 10000) (hT : Tab10 w) :
    Calls Tryz.prog 41 #[.int .i64 p] w fun e w' => e = .returned (.string ⟨(pwS p).toArray⟩) ∧ Below w.heap.size w w' := by
  have IT := Lib.hid (fun X w' (h : X = ((p.natAbs : Nat) : Int)) (hT : Tab10 w') => itoaP p.natAbs X h (by omega) w' hT)
  obtain ⟨D, hD⟩ : ∃ D : ByteArray, D = ⟨(Lib.decDigits p.natAbs).toArray⟩ := ⟨_, rfl⟩
  rw [← hD] at IT
  have hz : D.size ≤ 10 := by
    have h1 := dec_len_le 5 p.natAbs (by omega) (by omega)
    have : D.size = (Lib.decDigits p.natAbs).length := by rw [hD]; rfl
    omega
  have H0 := Lib.hid hT
  have hw : IntKind.i64.wrap (-p) = -p := IntWalk.i64_in _ (by omega)
  by_cases hn : p < 0
  · by_cases ht : p.natAbs < 10
    · have e : pwS p = [45, 48] ++ Lib.decDigits p.natAbs := by unfold pwS; rw [if_pos hn, if_pos ht]; rfl
      rw [e, ← ba_mk _ _ hD]
      have ht2 : -p < 10 := by omega
      clear e hT hD ht
      go_enter Tryz.func41, Tryz.ntmps41
      go_wp2_with (go_at_call 81; refine (IT.out _ _ (by omega) H0.out).mono ?_; rintro e w3 ⟨rfl, hb3⟩; have B3 := Lib.hid hb3; clear hb3)
      go_ret
      exact ⟨rfl, B3.out⟩
    · have e : pwS p = [45] ++ Lib.decDigits p.natAbs := by unfold pwS; rw [if_pos hn, if_neg ht]; rfl
      rw [e, ← ba_mk _ _ hD]
      have ht2 : ¬ -p < 10 := by omega
      clear e hT hD ht
      go_enter Tryz.func41, Tryz.ntmps41
      go_wp2_with (go_at_call 81; refine (IT.out _ _ (by omega) H0.out).mono ?_; rintro e w3 ⟨rfl, hb3⟩; have B3 := Lib.hid hb3; clear hb3)
      go_ret
      exact ⟨rfl, B3.out⟩
  · by_cases ht : p.natAbs < 10
    · have e : pwS p = [43, 48] ++ Lib.decDigits p.natAbs := by unfold pwS; rw [if_neg hn, if_pos ht]; rfl
      rw [e, ← ba_mk _ _ hD]
      have ht2 : p < 10 := by omega
      clear e hT hD ht
      go_enter Tryz.func41, Tryz.ntmps41
      go_wp2_with (go_at_call 81; refine (IT.out _ _ (by omega) H0.out).mono ?_; rintro e w3 ⟨rfl, hb3⟩; have B3 := Lib.hid hb3; clear hb3)
      go_ret
      exact ⟨rfl, B3.out⟩
    · have e : pwS p = [43] ++ Lib.decDigits p.natAbs := by unfold pwS; rw [if_neg hn, if_neg ht]; rfl
      rw [e, ← ba_mk _ _ hD]
      have ht2 : ¬ p < 10 := by omega
      clear e hT hD ht
      go_enter Tryz.func41, Tryz.ntmps41
      go_wp2_with (go_at_call 81; refine (IT.out _ _ (by omega) H0.out).mono ?_; rintro e w3 ⟨rfl, hb3⟩; have B3 := Lib.hid hb3; clear hb3)
      go_ret
      exact ⟨rfl, B3.out⟩
end Go.Proofs.YtgbkaamgobnhbaaGreatDoor
