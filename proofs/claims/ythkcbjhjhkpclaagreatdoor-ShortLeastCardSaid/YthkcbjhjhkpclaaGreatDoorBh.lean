/-
  SOME OF MY TEXTS in one: Val ValP. Each says what it proves.
-/
import Derived.Test.YthkcbjhjhkpclaaGreatDoorTzy
import Derived.Test.YthkcbjhjhkpclaaGreatDoorFloatB
import Derived.Test.YthkcbjhjhkpclaaGreatDoorBf
set_option linter.unusedVariables false
set_option linter.unusedSimpArgs false
/-
  THE WALKS of float.HasValue, dyad.Value, dyad.Of.
-/
namespace Go.Proofs.YthkcbjhjhkpclaaGreatDoor
open Go.RowKit Nt Fm Fl

/-- the exact number of a float that has one -/
def valD (x : Int) : D := norm (fng x) (if 0 < fexp x then (ffr x + 4503599627370496).toNat else (ffr x).toNat) (max (fexp x) 1 - 1075)
def hasV (x : Int) : Bool := decide (fabs x < 9218868437227405312)

theorem hasValue_any (x : Int) (h0 : 0 ≤ x) (h1 : x ≤ 18446744073709551615) (w : World) :
    Calls Tryz.prog 57 #[.int .u64 x] w fun e w' => e = .returned (.bool (hasV x)) ∧ w = w' := by
  have hb := fabs_bd x
  unfold hasV
  go_enter Tryz.func57, Tryz.ntmps57
  go_wp2_with (go_at_call 85; refine (abs_any x h0 h1 _).mono ?_; rintro e w' ⟨rfl, rfl⟩)
  go_ret
  exact ⟨rfl, rfl⟩

theorem or_hidden (x : Int) (h0 : 0 ≤ x) (h1 : x < 4503599627370496) : bits .or .u64 x 4503599627370496 = x + 4503599627370496 := by
  obtain ⟨a, rfl⟩ := Int.eq_ofNat_of_zero_le h0
  have ha : a < 2 ^ 52 := by omega
  have h := bits_or_u64_nat a 4503599627370496 (by omega) (by decide)
  rw [show ((4503599627370496 : Nat) : Int) = 4503599627370496 from rfl] at h
  rw [h, Nat.or_comm]
  have := Nat.two_pow_add_eq_or_of_lt ha 1
  rw [show (2 ^ 52 * 1 : Nat) = 4503599627370496 by decide] at this
  rw [← this]; omega

set_option maxHeartbeats 2000000 in
theorem value_any (x : Int) (h0 : 0 ≤ x) (h1 : x ≤ 18446744073709551615) (w : World) (hT : Tab w) :
    Calls Tryz.prog 51 #[.int .u64 x] w (RetD w (valD x)) := by
  have hT' := Lib.hid hT
  clear hT
  have hp := parts_any x h0 h1
  have be := fexp_bd x
  have bf := ffr_bd x
  unfold valD
  generalize fng x = g at *
  generalize fexp x = e at *
  generalize ffr x = f at *
  have HP := Lib.hid hp
  clear hp
  by_cases he : 0 < e
  · have e1 := or_hidden f (by omega) (by omega)
    have hmx : max e 1 = e := by omega
    rw [if_pos he, hmx]
    go_enter Tryz.func51, Tryz.ntmps51
    go_wp2_with (go_at_call 58; refine (HP.out _).mono ?_; rintro e w' ⟨rfl, rfl⟩)
    refine (natOf_any _ (by omega) (by omega) _).mono ?_
    rintro r w1 ⟨v, rfl, hv, hb⟩
    obtain ⟨ao, n, c, rfl⟩ := hv.shape
    have HV := Lib.hid hv
    have HB := Lib.hid hb
    obtain ⟨q0, q1, q2, f0, f1, f2⟩ := cells3 hb
    clear hv hb
    go_wp2_with fail
    refine (dnorm_any g _ _ 64 (e - 1075) _ ((hT'.out.alloc _).below HB.out) HV.out (by omega) (by decide) (by omega) (by omega)).mono ?_
    rintro r w2 ⟨v2, rfl, ⟨s2, rfl, hv2⟩, hb⟩
    obtain ⟨ao2, n2, c2, rfl⟩ := hv2.shape
    have hb3 := HB.out.trans (hb.mono HB.out.size)
    obtain ⟨q0, q1, q2, f0, f1, f2⟩ := cells3 hb3
    have HV2 := Lib.hid hv2
    have HB3 := Lib.hid hb3
    clear hv2 hb hb3
    generalize norm g (f + 4503599627370496).toNat (e - 1075) = d at *
    go_wp2
    refine bodyPost_ret (v := .agg #[.bool d.neg, .slice ao2 n2 c2, .int .i64 d.e]) (by simp [results, Tryz.results51, go_sem, q0, q1, q2]) rfl ?_
    exact ⟨_, rfl, ⟨_, rfl, HV2.out.store3 HB3.out (noLimb_bool _) (noLimb_slice _ _ _) (noLimb_i64 _) _ _ _⟩, Below.store3 HB3.out _ _ _⟩
  · have he2 : e = 0 := by omega
    rw [if_neg he]
    subst he2
    have hmx : max (0 : Int) 1 - 1075 = -1074 := by decide
    rw [hmx]
    go_enter Tryz.func51, Tryz.ntmps51
    go_wp2_with (go_at_call 58; refine (HP.out _).mono ?_; rintro e w' ⟨rfl, rfl⟩)
    refine (natOf_any _ (by omega) (by omega) _).mono ?_
    rintro r w1 ⟨v, rfl, hv, hb⟩
    obtain ⟨ao, n, c, rfl⟩ := hv.shape
    have HV := Lib.hid hv
    have HB := Lib.hid hb
    obtain ⟨q0, q1, q2, f0, f1, f2⟩ := cells3 hb
    clear hv hb
    go_wp2_with fail
    refine (dnorm_any g _ _ 64 (-1074) _ ((hT'.out.alloc _).below HB.out) HV.out (by omega) (by decide) (by omega) (by omega)).mono ?_
    rintro r w2 ⟨v2, rfl, ⟨s2, rfl, hv2⟩, hb⟩
    obtain ⟨ao2, n2, c2, rfl⟩ := hv2.shape
    have hb3 := HB.out.trans (hb.mono HB.out.size)
    obtain ⟨q0, q1, q2, f0, f1, f2⟩ := cells3 hb3
    have HV2 := Lib.hid hv2
    have HB3 := Lib.hid hb3
    clear hv2 hb hb3
    generalize norm g f.toNat (-1074) = d at *
    go_wp2
    refine bodyPost_ret (v := .agg #[.bool d.neg, .slice ao2 n2 c2, .int .i64 d.e]) (by simp [results, Tryz.results51, go_sem, q0, q1, q2]) rfl ?_
    exact ⟨_, rfl, ⟨_, rfl, HV2.out.store3 HB3.out (noLimb_bool _) (noLimb_slice _ _ _) (noLimb_i64 _) _ _ _⟩, Below.store3 HB3.out _ _ _⟩

/-- what dyad.Of tells -/
def ofD (x : Int) : D := if hasV x then valD x else nz
def ofE (x : Int) : Int := if hasV x then 0 else 4
end Go.Proofs.YthkcbjhjhkpclaaGreatDoor

/-
  PLAIN: the exact number of a float; and a Dyad in order reads so.
-/
namespace Go.Proofs.YthkcbjhjhkpclaaGreatDoor
open Go.RowKit Nt Fm Fl

theorem norm_bd (neg : Bool) {m k : Nat} (e : Int) (hm : m < 2 ^ k) : (norm neg m e).m ≤ m ∧ ((norm neg m e = nz) ∨ (e ≤ (norm neg m e).e ∧ (norm neg m e).e ≤ e + k)) := by
  unfold norm
  split
  · exact ⟨Nat.zero_le _, Or.inl rfl⟩
  · rename_i h
    obtain ⟨q, h1, h2⟩ := ctz_spec h
    refine ⟨Nat.div_le_self _ _, Or.inr ⟨by simp only; omega, ?_⟩⟩
    have h3 : 2 ^ ctz m ≤ m := by
      have : 1 * 2 ^ ctz m ≤ q * 2 ^ ctz m := Nat.mul_le_mul_right _ (by omega)
      omega
    have h4 := (Nat.pow_lt_pow_iff_right (by decide : 1 < 2)).1 (Nat.lt_of_le_of_lt h3 hm)
    simp only; omega

theorem norm_neg (neg : Bool) (m : Nat) (e : Int) (h : m ≠ 0) : (norm neg m e).neg = neg := by unfold norm; rw [if_neg h]

theorem tt_vl (d : D) (t : Nat) : tt t d.m d.e = (d.vl (1074 + t)).natAbs := by
  rw [vl_natAbs]; unfold tt
  rw [show d.e + 1074 + (t : Int) = d.e + ((1074 + t : Nat) : Int) by omega]
theorem tt_norm (neg : Bool) (m : Nat) (e : Int) (t : Nat) (h : 0 ≤ e + 1074 + t) : tt t (norm neg m e).m (norm neg m e).e = tt t m e := by
  have h1 := tt_vl (norm neg m e) t
  have h2 := tt_vl ⟨neg, m, e⟩ t
  rw [norm_vl neg m e _ (by omega)] at h1
  simp only at h2
  rw [h1, ← h2]

/-- the number of a float counts as many as its rank tells -/
theorem valD_tt (x : Int) (h0 : 0 ≤ x) (h1 : x ≤ 18446744073709551615) (t : Nat) : tt t (valD x).m (valD x).e = mag (fabs x).toNat * 2 ^ t ∨ 9218868437227405312 ≤ fabs x := by
  have be := fexp_bd x
  have bf := ffr_bd x
  have hx : fabs x = fexp x * 4503599627370496 + ffr x := by unfold fabs fexp ffr; omega
  unfold valD
  rw [hx]
  generalize fexp x = e at *
  generalize ffr x = f at *
  left
  rw [tt_norm _ _ _ _ (by omega)]
  obtain ⟨e, rfl⟩ := Int.eq_ofNat_of_zero_le be.1
  obtain ⟨f, rfl⟩ := Int.eq_ofNat_of_zero_le bf.1
  by_cases he : (0 : Int) < (e : Int)
  · rw [if_pos he]
    have e1 : ((f : Int) + 4503599627370496).toNat = f + 4503599627370496 := by omega
    have e2 : ((e : Int) * 4503599627370496 + (f : Int)).toNat = e * 4503599627370496 + f := by omega
    rw [e1, e2]
    unfold tt mag
    rw [if_neg (by omega)]
    have e3 : (e * 4503599627370496 + f) % 4503599627370496 = f := by omega
    have e4 : (e * 4503599627370496 + f) / 4503599627370496 - 1 = e - 1 := by omega
    rw [e3, e4, Nat.mul_assoc, ← Nat.pow_add, Nat.add_comm f]
    congr 2
    omega
  · rw [if_neg he]
    have e0 : e = 0 := by omega
    subst e0
    have e1 : ((f : Int)).toNat = f := by omega
    have e2 : (((0 : Nat) : Int) * 4503599627370496 + (f : Int)).toNat = f := by omega
    rw [e1, e2]
    unfold tt mag
    rw [if_pos (by omega)]
    congr 2
    omega

theorem valD_facts (x : Int) (h0 : 0 ≤ x) (h1 : x ≤ 18446744073709551615) : (valD x).Nf ∧ (valD x).m < 2 ^ 53 ∧ -1074 ≤ (valD x).e ∧ (valD x).e ≤ 1100 ∧ ((valD x).m ≠ 0 → (valD x).neg = fng x) := by
  have be := fexp_bd x
  have bf := ffr_bd x
  unfold valD
  generalize fexp x = e at *
  generalize ffr x = f at *
  have hm : (if 0 < e then (f + 4503599627370496).toNat else f.toNat) < 2 ^ 53 := by split <;> omega
  generalize (if 0 < e then (f + 4503599627370496).toNat else f.toNat) = m at *
  obtain ⟨b1, b2⟩ := norm_bd (fng x) (max e 1 - 1075) hm
  refine ⟨norm_nf _ _ _, by omega, ?_, ?_, ?_⟩
  · rcases b2 with b2 | b2
    · rw [b2]; show (-1074 : Int) ≤ 0; decide
    · omega
  · rcases b2 with b2 | b2
    · rw [b2]; show (0 : Int) ≤ 1100; decide
    · omega
  · intro h
    by_cases hz : m = 0
    · subst hz; exfalso; apply h; unfold norm; rfl
    · exact norm_neg _ _ _ hz

/-- rounded it is itself, in each mode -/
theorem valD_num (x : Int) (h0 : 0 ≤ x) (h1 : x ≤ 18446744073709551615) (hv : fabs x < 9218868437227405312) (mode : Int) :
    numC (valD x) = false ∧ (numR (valD x) mode = x ∨ (x = 9223372036854775808 ∧ numR (valD x) mode = 0)) := by
  obtain ⟨f1, f2, f3, f4, f5⟩ := valD_facts x h0 h1
  have hb := fabs_bd x
  have htt : tt 0 (valD x).m (valD x).e = mag (fabs x).toNat * 2 ^ 0 := by
    rcases valD_tt x h0 h1 0 with h | h
    · exact h
    · omega
  have ht : (0 : Int) ≤ (valD x).e + 1074 + (0 : Nat) := by omega
  have hMR : MR = 9218868437227405312 := rfl
  have hr : (fabs x).toNat < MR := by omega
  refine ⟨(chg_iff ht).2 ⟨_, hr, htt⟩, ?_⟩
  have hn := numk_exact ht (kd (valD x).neg mode) _ hr htt
  unfold numR
  rw [hn]
  by_cases hz : (valD x).m = 0
  · have h2 : tt 0 (valD x).m (valD x).e = 0 := by unfold tt; rw [hz, Nat.zero_mul]
    rw [h2] at htt
    have h3 : mag (fabs x).toNat = mag 0 := by rw [mag_zero]; omega
    have h4 := mag_inj h3
    have hnz : (valD x).neg = false := by
      rcases f1 with h | h
      · rw [h]; rfl
      · rw [hz] at h; cases h
    rw [hnz]
    have h5 : fabs x = 0 := by omega
    unfold fabs at h5 h4
    simp only [Bool.false_eq_true, if_false]
    unfold fabs
    omega
  · rw [f5 hz]
    left
    unfold fng fabs
    simp only [decide_eq_true_eq]
    unfold fabs at hb
    split <;> omega

/-- an exact number in its form that is small enough is in order -/
theorem DV.sv {w : World} {v : Value} {d : D} (h : DV w v d) (hn : d.Nf) {k : Nat} (hk : k ≤ 12768) (hm : d.m < 2 ^ k) (h0 : -10000 ≤ d.e) (h1 : d.e ≤ 10000) :
    ∃ l, val l = d.m ∧ SV w v d.neg l d.e ∧ chkE d.neg l d.e = 0 := by
  obtain ⟨s, h2, l, h3, h4, h5⟩ := h
  have hl := h3.len (k := k) (by rw [h4]; exact hm)
  refine ⟨l, h4, ⟨s, h2, h5⟩, ?_⟩
  unfold chkE
  rw [if_neg (by omega)]
  by_cases hz : l.length = 0
  · rw [if_pos hz]
    have hl0 := List.length_eq_zero_iff.1 hz
    subst hl0
    have hd : d = nz := by
      rcases hn with h | h
      · exact h
      · rw [← h4] at h; cases h
    subst hd
    rfl
  · rw [if_neg hz, if_neg]
    rintro (h | h)
    · apply h3.2
      rw [List.getLast?_eq_getElem?, List.getElem?_eq_getElem (by omega)]
      simp only [List.getD, List.getElem?_eq_getElem (show l.length - 1 < l.length by omega), Option.getD_some] at h
      rw [h]
    · have hv0 : val l ≠ 0 := fun h => hz (by rw [val_eq_zero h3 h]; rfl)
      rcases hn with hd | hd
      · apply hv0; rw [h4, hd]; rfl
      · rw [← h4] at hd
        cases l with
        | nil => exact hz rfl
        | cons a l => simp only [val] at hd; simp at h; omega

/-- round.To of an exact number that is in order -/
theorem to_dv (v : Value) (d : D) (mode : Int) (w : World) (h : DV w v d) (hn : d.Nf) {k : Nat} (hk : k ≤ 12768) (hm : d.m < 2 ^ k) (h0 : -10000 ≤ d.e) (h1 : d.e ≤ 10000) (m0 : 0 ≤ mode) (m1 : mode ≤ 4) :
    Calls Tryz.prog 64 #[v, .int .i64 mode] w fun r w' => r = .returned (.tuple #[.int .u64 (numR d mode), .bool (numC d), .int .i64 0]) ∧ Below w.heap.size w w' := by
  obtain ⟨l, e1, h2, h3⟩ := h.sv hn hk hm h0 h1
  have := to_any v d.neg l d.e mode w h2 (by omega) (by omega)
  have hE : roE 0 mode = 0 := by unfold roE; rw [if_pos rfl, if_neg (by omega)]
  rw [h3] at this
  unfold roV roC at this
  rw [hE, if_pos rfl, if_pos rfl, e1] at this
  exact this
end Go.Proofs.YthkcbjhjhkpclaaGreatDoor
