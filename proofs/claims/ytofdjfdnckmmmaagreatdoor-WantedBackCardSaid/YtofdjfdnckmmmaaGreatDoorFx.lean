/-
  THE WALKS of decimal.sign, point, Fixed, Exact.
-/
import Derived.Test.YtofdjfdnckmmmaaGreatDoorRo
import Derived.Test.YtofdjfdnckmmmaaGreatDoorBh
import Derived.BigQuiet
import Derived.Deep.QuietTactic
set_option linter.unusedVariables false
set_option linter.unusedSimpArgs false
namespace Go.Proofs.YtofdjfdnckmmmaaGreatDoor
open Go.Shelf Go.RowKit Go.Lib Nt Fm Fl

theorem rep_any (c : Nat) (X : Int) (hX : X = (c : Int)) (h : c ≤ 1000000) (w : World) :
    Calls Tryz.prog 26 #[.string ⟨#[48]⟩, .int .i64 X] w fun e w' => e = .returned (.string ⟨(List.replicate c (48 : UInt8)).toArray⟩) ∧ Below w.heap.size w w' := by
  subst hX
  have h := Any.strings_Repeat Tryz.laysRepeat extraRepeat ⟨#[48]⟩ c w (by omega) (by show 1 * c ≤ _; omega)
  rw [fRepeat] at h
  refine h.mono ?_
  rintro e w' ⟨rfl, hb⟩
  exact ⟨by rw [show (ByteArray.mk #[48]).data.toList = [48] from rfl, rep_flat], hb⟩
theorem dcsign_any (x : Int) (x0 : 0 ≤ x) (x1 : x ≤ 18446744073709551615) (w : World) :
    Calls Tryz.prog 81 #[.int .u64 x] w fun e w' => e = .returned (.string ⟨(sgS x).toArray⟩) ∧ w = w' := by
  by_cases h : 9223372036854775808 ≤ x
  · have e : sgS x = [45] := by unfold sgS; rw [if_pos h]
    have hh : (x / 9223372036854775808 == 1) = true := by rw [beq_iff_eq]; omega
    rw [e]; clear e
    go_enter Tryz.func81, Tryz.ntmps81
    go_wp2
    go_ret
    exact ⟨rfl, rfl⟩
  · have e : sgS x = [] := by unfold sgS; rw [if_neg h]
    have hh : (x / 9223372036854775808 == 1) = false := by rw [beq_eq_false_iff_ne]; omega
    rw [e]; clear e
    go_enter Tryz.func81, Tryz.ntmps81
    go_wp2
    go_ret
    exact ⟨rfl, rfl⟩
theorem pt_cut {T : ByteArray} {l : List UInt8} (hT : T = ⟨l.toArray⟩) (a k : Nat) (ha : a = k) (n : Nat) (hn : n = l.length) (hk : k ≤ l.length) : T.extract 0 a ++ ⟨#[46]⟩ ++ T.extract a n = ⟨(l.take k ++ 46 :: l.drop k).toArray⟩ := by
  subst hT ha hn
  apply ByteArray.ext
  simp [ByteArray.data_append, ByteArray.data_extract]
  exact List.take_of_length_le (by simp)
set_option maxHeartbeats 4000000 in
theorem point_any (s : List UInt8) (p : Nat) (w : World) (hs : s.length ≤ 100000) (hp : p ≤ 10000) :
    Calls Tryz.prog 82 #[.string ⟨s.toArray⟩, .int .i64 (p : Int)] w fun e w' => e = .returned (.string ⟨(pt s p).toArray⟩) ∧ Below w.heap.size w w' := by
  obtain ⟨S, hS⟩ : ∃ S : ByteArray, S = ⟨s.toArray⟩ := ⟨_, rfl⟩
  rw [← hS]
  have hz : S.size = s.length := by rw [hS]; rfl
  have HS := Lib.hid hS
  clear hS
  by_cases h0 : p = 0
  · subst h0
    have e : pt s 0 = s := by unfold pt; rw [if_pos rfl]
    rw [e, ← HS.out]
    clear e
    go_enter Tryz.func82, Tryz.ntmps82
    go_wp2
    go_ret
    exact ⟨rfl, Below.refl _ _⟩
  · have hp0 : ((p : Int) == 0) = false := by rw [beq_eq_false_iff_ne]; omega
    by_cases hl : s.length ≤ p
    · have RP := Lib.hid (fun X w' (h : X = ((p + 1 - s.length : Nat) : Int)) => rep_any (p + 1 - s.length) X h (by omega) w')
      obtain ⟨Z, hZ⟩ : ∃ Z : ByteArray, Z = ⟨(List.replicate (p + 1 - s.length) (48 : UInt8)).toArray⟩ := ⟨_, rfl⟩
      rw [← hZ] at RP
      have hzz : Z.size = p + 1 - s.length := by rw [hZ]; simp [ByteArray.size]
      obtain ⟨n, hn⟩ : ∃ n, n = s.length := ⟨_, rfl⟩
      rw [← hn] at hz hl hs RP hzz
      have hlz : ((n : Nat) : Int) ≤ (p : Int) := by omega
      have HZ := Lib.hid hZ
      obtain ⟨T, hT⟩ : ∃ T, T = Z ++ S := ⟨_, rfl⟩
      have hTz : T.size = p + 1 := by rw [hT, ByteArray.size_append, hz, hzz]; omega
      have HT := Lib.hid hT
      have HN := Lib.hid hn
      clear hZ hT hn
      go_enter Tryz.func82, Tryz.ntmps82
      go_wp2_with (go_at_call 26; refine (RP.out _ _ (by omega)).mono ?_; rintro e w3 ⟨rfl, hb3⟩; have B3 := Lib.hid hb3; clear hb3)
      rw [← HT.out]
      go_quiet (fail)
      go_wp2
      go_ret
      refine ⟨?_, below_to_drewN B3.out⟩
      have hT2 : T = ⟨(List.replicate (p + 1 - s.length) (48 : UInt8) ++ s).toArray⟩ := by
        rw [HT.out, HZ.out, HS.out, ByteArray.mk_append_mk]
      have hN := HN.out
      have e : T.extract 0 1 ++ ⟨#[46]⟩ ++ T.extract 1 (p + 1) = ⟨(pt s p).toArray⟩ := by
        rw [pt_cut hT2 1 ((List.replicate (p + 1 - s.length) (48 : UInt8) ++ s).length - p) (by simp; omega) (p + 1) (by simp; omega) (by simp)]
        unfold pt
        rw [if_neg h0]
      exact congrArg (fun z => Ending.returned (Value.string z)) e
    · obtain ⟨n, hn⟩ : ∃ n, n = s.length := ⟨_, rfl⟩
      rw [← hn] at hz hl hs
      have hlz : (p : Int) < ((n : Nat) : Int) := by omega
      obtain ⟨k, hk⟩ : ∃ k, k = n - p := ⟨_, rfl⟩
      have hkz : (n : Int) - (p : Int) = (k : Int) := by omega
      have hkn : (k : Int) ≤ (n : Int) := by omega
      have HN := Lib.hid hn
      have HK := Lib.hid hk
      clear hn hk
      go_enter Tryz.func82, Tryz.ntmps82
      go_wp2
      go_quiet (fail)
      go_wp2
      go_ret
      refine ⟨?_, below_to_drewN (Below.refl _ _)⟩
      have hN := HN.out
      have hK := HK.out
      have hT2 : S = ⟨(List.replicate (p + 1 - s.length) (48 : UInt8) ++ s).toArray⟩ := by
        rw [show p + 1 - s.length = 0 by omega]; exact HS.out
      have e : S.extract 0 k ++ ⟨#[46]⟩ ++ S.extract k n = ⟨(pt s p).toArray⟩ := by
        rw [pt_cut hT2 k ((List.replicate (p + 1 - s.length) (48 : UInt8) ++ s).length - p) (by simp; omega) n (by simp; omega) (by simp)]
        unfold pt
        rw [if_neg h0]
      exact congrArg (fun z => Ending.returned (Value.string z)) e
theorem dD_lt (d : D) (t : Int) : dD d t < 2 ^ (4 * (-t).toNat + 1 + (-d.e).toNat) := by
  unfold dD
  rw [Nat.pow_add]
  exact Nat.mul_lt_mul_of_pos_right (ten_lt _) (Nat.two_pow_pos _)
theorem dQ_lt (d : D) (t mode : Int) {k : Nat} (h : dN d t < 2 ^ k) : dQ d t mode < 2 ^ (k + 1) := by
  have h1 := rq_le d.neg (dN d t) (dD d t) mode
  have h2 := Nat.div_le_self (dN d t) (dD d t)
  have := Nat.two_pow_pos k
  unfold dQ
  rw [Nat.pow_succ]; omega
theorem dec_len_two {q k : Nat} (hk : 1 ≤ k) (h : q < 2 ^ k) : (Lib.decDigits q).length ≤ k :=
  dec_len_le k q hk (Nat.lt_of_lt_of_le h (Nat.pow_le_pow_left (by omega) k))
theorem pt_len_le (q p k : Nat) (h : (Lib.decDigits q).length ≤ k) : (pt (Lib.decDigits q) p).length ≤ p + k + 3 := by
  rw [pt_len]; split <;> omega
theorem sgS_len (x : Int) : (sgS x).length ≤ 1 := by unfold sgS; split <;> simp
theorem ba_app (a b : List UInt8) {A B : ByteArray} (hA : A = ⟨a.toArray⟩) (hB : B = ⟨b.toArray⟩) : A ++ B = ⟨(a ++ b).toArray⟩ := by
  subst hA hB; rw [ByteArray.mk_append_mk]
/-- a number with a value, as a quotient, is in its bounds -/
theorem vd_bd {x : Int} (x0 : 0 ≤ x) (x1 : x ≤ 18446744073709551615) {t : Int} (t0 : -1500 ≤ t) (t1 : t ≤ 1500) {K : Nat} (hK : 9000 ≤ K) : dN (valD x) t < 2 ^ K ∧ dD (valD x) t < 2 ^ K := by
  obtain ⟨f1, f2, f3, f4, f5⟩ := valD_facts x x0 x1
  constructor
  · refine Nat.lt_of_lt_of_le (dN_lt (valD x) t (kd := 53) f2).2 (Nat.pow_le_pow_right (by omega) (by omega))
  · exact Nat.lt_of_lt_of_le (dD_lt _ _) (Nat.pow_le_pow_right (by omega) (by omega))
/-- a call that tells a text, a mark and an error -/
def RetSBE (w : World) (s : List UInt8) (b : Bool) (x : Int) (e : Ending) (w' : World) : Prop := e = .returned (.tuple #[.string ⟨s.toArray⟩, .bool b, .int .i64 x]) ∧ Below w.heap.size w w'
set_option maxHeartbeats 8000000 in
theorem fixed_any (x places mode : Int) (x0 : 0 ≤ x) (x1 : x ≤ 18446744073709551615) (w : World) (hT : Tab w) (hT10 : Tab10 w) :
    Calls Tryz.prog 48 #[.int .u64 x, .int .i64 places, .int .i64 mode] w (RetSBE w (fxS x places mode) (fxC x places mode) (fxE x places mode)) := by
  have HV := Lib.hid (fun w' => hasValue_any x x0 x1 w')
  have KN := Lib.hid (fun w' => known_any mode w')
  unfold fxS fxC
  rcases fxE_cases x places mode with ⟨h1, hE⟩ | ⟨h1, h2, hE⟩ | ⟨h1, h2, hE⟩
  · rw [h1] at HV
    rw [hE, if_neg (by decide), show (decide ((4 : Int) = 0) && dC (valD x) places) = false by rfl]
    clear hE h1 hT hT10
    go_enter Tryz.func48, Tryz.ntmps48
    go_wp2_with (go_at_call 27; refine (HV.out _).mono ?_; rintro e w1 ⟨rfl, rfl⟩)
    go_ret3
    exact ⟨rfl, Below.refl _ _⟩
  · rw [h1] at HV
    rw [hE, if_neg (by decide), show (decide ((1 : Int) = 0) && dC (valD x) places) = false by rfl]
    clear hE h1 hT hT10
    by_cases hk : 0 ≤ mode ∧ mode ≤ 4
    · have hkb : knownB mode = true := by unfold knownB; rw [decide_eq_true_eq]; exact hk
      rw [hkb] at KN
      by_cases hp : places < 0
      · clear h2 hk hkb
        go_enter Tryz.func48, Tryz.ntmps48
        go_wp2_with (first
          | (go_at_call 27; refine (HV.out _).mono ?_; rintro e w1 ⟨rfl, rfl⟩)
          | (go_at_call 28; refine (KN.out _).mono ?_; rintro e w1 ⟨rfl, rfl⟩))
        go_ret3
        exact ⟨rfl, Below.refl _ _⟩
      · have hp2 : 1100 < places := by
          rcases Int.lt_or_le 1100 places with h | h
          · exact h
          · exact absurd ⟨hk, by omega, h⟩ h2
        clear h2 hk hkb
        go_enter Tryz.func48, Tryz.ntmps48
        go_wp2_with (first
          | (go_at_call 27; refine (HV.out _).mono ?_; rintro e w1 ⟨rfl, rfl⟩)
          | (go_at_call 28; refine (KN.out _).mono ?_; rintro e w1 ⟨rfl, rfl⟩))
        go_ret3
        exact ⟨rfl, Below.refl _ _⟩
    · have hkb : knownB mode = false := by unfold knownB; rw [decide_eq_false_iff_not]; exact hk
      rw [hkb] at KN
      clear h2 hk hkb
      go_enter Tryz.func48, Tryz.ntmps48
      go_wp2_with (first
        | (go_at_call 27; refine (HV.out _).mono ?_; rintro e w1 ⟨rfl, rfl⟩)
        | (go_at_call 28; refine (KN.out _).mono ?_; rintro e w1 ⟨rfl, rfl⟩))
      go_ret3
      exact ⟨rfl, Below.refl _ _⟩
  · obtain ⟨⟨m0, m1⟩, p0, p1⟩ := h2
    have hkb : knownB mode = true := by unfold knownB; rw [decide_eq_true_eq]; exact ⟨m0, m1⟩
    rw [h1] at HV
    rw [hkb] at KN
    rw [hE, if_pos rfl, show (decide ((0 : Int) = 0) && dC (valD x) places) = dC (valD x) places by rfl]
    clear hE h1 hkb
    obtain ⟨p, rfl⟩ := Int.eq_ofNat_of_zero_le p0
    rw [Int.toNat_natCast]
    obtain ⟨K0, hK0, hK1⟩ : ∃ K0, 9000 ≤ K0 ∧ K0 ≤ 9000 := ⟨9000, by omega, by omega⟩
    obtain ⟨b1, b2⟩ := vd_bd x0 x1 (t := (p : Int)) (by omega) (by omega) hK0
    obtain ⟨f1, f2, f3, f4, f5⟩ := valD_facts x x0 x1
    have VL := Lib.hid (fun w' h => value_any x x0 x1 w' h)
    have SC := Lib.hid (fun v w' (h : DV w' v (valD x)) => scaled_any v (valD x) (p : Int) 53 w' h f2 (by omega) (by omega) (by omega) (by omega) (by omega))
    have RR := Lib.hid (fun B w' (h : RatN w' B (valD x).neg (dN (valD x) p) (dD (valD x) p)) => rround_any B _ _ _ K0 mode w' h b1 (dD_pos _ _) b2 (by omega) m0 m1)
    have SG := Lib.hid (fun w' => dcsign_any x x0 x1 w')
    have hq := dQ_lt (valD x) (p : Int) mode b1
    have hql := dec_len_two (by omega) hq
    have DC := Lib.hid (fun va w' (h : NV w' va (dQ (valD x) p mode)) (h2 : Tab10 w') => decimal_any va _ (K0 + 1) w' h hq (by omega) h2)
    have PT := Lib.hid (fun w' => point_any (Lib.decDigits (dQ (valD x) p mode)) p w' (by omega) (by omega))
    have hpl := pt_len_le (dQ (valD x) p mode) p (K0 + 1) hql
    have hsl := sgS_len x
    change Hid (∀ B w' (h : RatN w' B (valD x).neg (dN (valD x) p) (dD (valD x) p)), Calls Tryz.prog 80 #[.pointer (some ⟨B, 0, none⟩), .int .i64 mode] w' (RetNVB w' (dQ (valD x) p mode) (dC (valD x) p))) at RR
    generalize hqq : dQ (valD x) p mode = q at *
    generalize hcc : dC (valD x) p = c at *
    obtain ⟨ps, hps⟩ : ∃ ps, ps = pt (Lib.decDigits q) p := ⟨_, rfl⟩
    obtain ⟨ss, hss⟩ : ∃ ss, ss = sgS x := ⟨_, rfl⟩
    rw [← hps] at PT hpl
    rw [← hps, ← hss]
    rw [← hss] at SG hsl
    obtain ⟨PS, hPS⟩ : ∃ PS : ByteArray, PS = ⟨ps.toArray⟩ := ⟨_, rfl⟩
    obtain ⟨SS, hSS⟩ : ∃ SS : ByteArray, SS = ⟨ss.toArray⟩ := ⟨_, rfl⟩
    have z1 : PS.size ≤ 20000 := by
      have : PS.size = ps.length := by rw [hPS]; rfl
      omega
    have z2 : SS.size ≤ 1 := by
      have : SS.size = ss.length := by rw [hSS]; rfl
      omega
    have hA := ba_app ss ps hSS hPS
    rw [← hPS] at PT
    rw [← hSS] at SG
    obtain ⟨DS, hDS⟩ : ∃ DS : ByteArray, DS = ⟨(Lib.decDigits q).toArray⟩ := ⟨_, rfl⟩
    rw [← hDS] at DC PT
    have HA := Lib.hid hA
    unfold RetSBE
    rw [← HA.out]
    have H1 := Lib.hid hT
    have H2 := Lib.hid hT10
    clear hT hT10 hPS hSS hps hss hDS hA b1 b2 f1 f2 f3 f4 f5 hq hql hpl hsl hqq hcc
    go_enter Tryz.func48, Tryz.ntmps48
    go_wp2_with (first
      | (go_at_call 27; refine (HV.out _).mono ?_; rintro e w1 ⟨rfl, rfl⟩)
      | (go_at_call 28; refine (KN.out _).mono ?_; rintro e w1 ⟨rfl, rfl⟩)
      | (go_at_call 79; refine (VL.out _ H1.out).mono ?_; rintro e w1 ⟨v1, rfl, hd1, hb1⟩; have D1 := Lib.hid hd1; have B1 := Lib.hid hb1; have T1 := Lib.hid (H2.out.below hb1); clear hd1 hb1)
      | (go_at_call 78; refine (SC.out _ _ D1.out).mono ?_; rintro e w2 ⟨bb, rfl, -, hr2, hb2⟩; have R2 := Lib.hid hr2; have B2 := Lib.hid (bl_thru B1.out (Nat.le_refl _) hb2); have T2 := Lib.hid (T1.out.below hb2); clear hr2 hb2)
      | (go_at_call 80; refine (RR.out _ _ (by obtain ⟨s, vn, vd, h1, h2, h3⟩ := R2.out; exact ⟨s, _, vn, vd, h1, h2, h3⟩)).mono ?_; rintro e w3 ⟨v3, rfl, hv3, hb3⟩; have N3 := Lib.hid hv3; have B3 := Lib.hid (bl_thru B2.out (Nat.le_refl _) hb3); have T3 := Lib.hid (T2.out.below hb3); clear hv3 hb3)
      | (go_at_call 81; refine (SG.out _).mono ?_; rintro e w4 ⟨rfl, rfl⟩)
      | (go_at_call 83; refine (DC.out _ _ N3.out T3.out).mono ?_; rintro e w5 ⟨rfl, hb5⟩; have B5 := Lib.hid (bl_thru B3.out (Nat.le_refl _) hb5); clear hb5)
      | (go_at_call 82; refine (PT.out _).mono ?_; rintro e w6 ⟨rfl, hb6⟩; have B6 := Lib.hid (bl_thru B5.out (Nat.le_refl _) hb6); clear hb6))
    go_ret3
    exact ⟨rfl, B6.out⟩
def RetSE (w : World) (s : List UInt8) (x : Int) (e : Ending) (w' : World) : Prop := e = .returned (.tuple #[.string ⟨s.toArray⟩, .int .i64 x]) ∧ Below w.heap.size w w'
end Go.Proofs.YtofdjfdnckmmmaaGreatDoor
