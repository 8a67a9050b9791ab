/-
  SOME OF MY TEXTS in one: Val ValP SmP Near Mu. Each says what it proves.
-/
import Derived.Test.YtofdjfdnckmmmaaGreatDoorTzy
import Derived.Test.YtofdjfdnckmmmaaGreatDoorFloatB
import Derived.Test.YtofdjfdnckmmmaaGreatDoorBe
import Derived.Test.YtofdjfdnckmmmaaGreatDoorBa
set_option linter.unusedVariables false
set_option linter.unusedSimpArgs false
/-
  THE WALKS of float.HasValue, dyad.Value, dyad.Of.
-/
namespace Go.Proofs.YtofdjfdnckmmmaaGreatDoor
open Go.RowKit Nt Fm Fl

/-- the exact number of a float that has one -/
def valD (x : Int) : D := norm (fng x) (if 0 < fexp x then (ffr x + 4503599627370496).toNat else (ffr x).toNat) (max (fexp x) 1 - 1075)
def hasV (x : Int) : Bool := decide (fabs x < 9218868437227405312)

theorem hasValue_any (x : Int) (h0 : 0 ≤ x) (h1 : x ≤ 18446744073709551615) (w : World) :
    Calls Tryz.prog 27 #[.int .u64 x] w fun e w' => e = .returned (.bool (hasV x)) ∧ w = w' := by
  have hb := fabs_bd x
  unfold hasV
  go_enter Tryz.func27, Tryz.ntmps27
  go_wp2_with (go_at_call 25; refine (abs_any x h0 h1 _).mono ?_; rintro e w' ⟨rfl, rfl⟩)
  go_ret
  exact ⟨rfl, rfl⟩

theorem or_hidden (x : Int) (h0 : 0 ≤ x) (h1 : x < 4503599627370496) : bits .or .u64 x 4503599627370496 = x + 4503599627370496 := by
  obtain ⟨a, rfl⟩ := Int.eq_ofNat_of_zero_le h0
  have ha : a < 2 ^ 52 := by omega
  have h := bits_or_u64_nat a 4503599627370496 (by omega) (by decide)
  rw [show ((4503599627370496 : Nat) : Int) = 4503599627370496 from rfl] at h
  rw [h, Nat.or_comm]
  have := Nat.two_pow_add_eq_or_of_lt ha 1
  rw [show (2 ^ 52 * 1 : Nat) = 4503599627370496 by decide] at this
  rw [← this]; omega

set_option maxHeartbeats 2000000 in
theorem value_any (x : Int) (h0 : 0 ≤ x) (h1 : x ≤ 18446744073709551615) (w : World) (hT : Tab w) :
    Calls Tryz.prog 79 #[.int .u64 x] w (RetD w (valD x)) := by
  have hT' := Lib.hid hT
  clear hT
  have hp := parts_any x h0 h1
  have be := fexp_bd x
  have bf := ffr_bd x
  unfold valD
  generalize fng x = g at *
  generalize fexp x = e at *
  generalize ffr x = f at *
  have HP := Lib.hid hp
  clear hp
  by_cases he : 0 < e
  · have e1 := or_hidden f (by omega) (by omega)
    have hmx : max e 1 = e := by omega
    rw [if_pos he, hmx]
    go_enter Tryz.func79, Tryz.ntmps79
    go_wp2_with (go_at_call 22; refine (HP.out _).mono ?_; rintro e w' ⟨rfl, rfl⟩)
    refine (natOf_any _ (by omega) (by omega) _).mono ?_
    rintro r w1 ⟨v, rfl, hv, hb⟩
    obtain ⟨ao, n, c, rfl⟩ := hv.shape
    have HV := Lib.hid hv
    have HB := Lib.hid hb
    obtain ⟨q0, q1, q2, f0, f1, f2⟩ := cells3 hb
    clear hv hb
    go_wp2_with fail
    refine (dnorm_any g _ _ 64 (e - 1075) _ ((hT'.out.alloc _).below HB.out) HV.out (by omega) (by decide) (by omega) (by omega)).mono ?_
    rintro r w2 ⟨v2, rfl, ⟨s2, rfl, hv2⟩, hb⟩
    obtain ⟨ao2, n2, c2, rfl⟩ := hv2.shape
    have hb3 := HB.out.trans (hb.mono HB.out.size)
    obtain ⟨q0, q1, q2, f0, f1, f2⟩ := cells3 hb3
    have HV2 := Lib.hid hv2
    have HB3 := Lib.hid hb3
    clear hv2 hb hb3
    generalize norm g (f + 4503599627370496).toNat (e - 1075) = d at *
    go_wp2
    refine bodyPost_ret (v := .agg #[.bool d.neg, .slice ao2 n2 c2, .int .i64 d.e]) (by simp [results, Tryz.results79, go_sem, q0, q1, q2]) rfl ?_
    exact ⟨_, rfl, ⟨_, rfl, HV2.out.store3 HB3.out (noLimb_bool _) (noLimb_slice _ _ _) (noLimb_i64 _) _ _ _⟩, Below.store3 HB3.out _ _ _⟩
  · have he2 : e = 0 := by omega
    rw [if_neg he]
    subst he2
    have hmx : max (0 : Int) 1 - 1075 = -1074 := by decide
    rw [hmx]
    go_enter Tryz.func79, Tryz.ntmps79
    go_wp2_with (go_at_call 22; refine (HP.out _).mono ?_; rintro e w' ⟨rfl, rfl⟩)
    refine (natOf_any _ (by omega) (by omega) _).mono ?_
    rintro r w1 ⟨v, rfl, hv, hb⟩
    obtain ⟨ao, n, c, rfl⟩ := hv.shape
    have HV := Lib.hid hv
    have HB := Lib.hid hb
    obtain ⟨q0, q1, q2, f0, f1, f2⟩ := cells3 hb
    clear hv hb
    go_wp2_with fail
    refine (dnorm_any g _ _ 64 (-1074) _ ((hT'.out.alloc _).below HB.out) HV.out (by omega) (by decide) (by omega) (by omega)).mono ?_
    rintro r w2 ⟨v2, rfl, ⟨s2, rfl, hv2⟩, hb⟩
    obtain ⟨ao2, n2, c2, rfl⟩ := hv2.shape
    have hb3 := HB.out.trans (hb.mono HB.out.size)
    obtain ⟨q0, q1, q2, f0, f1, f2⟩ := cells3 hb3
    have HV2 := Lib.hid hv2
    have HB3 := Lib.hid hb3
    clear hv2 hb hb3
    generalize norm g f.toNat (-1074) = d at *
    go_wp2
    refine bodyPost_ret (v := .agg #[.bool d.neg, .slice ao2 n2 c2, .int .i64 d.e]) (by simp [results, Tryz.results79, go_sem, q0, q1, q2]) rfl ?_
    exact ⟨_, rfl, ⟨_, rfl, HV2.out.store3 HB3.out (noLimb_bool _) (noLimb_slice _ _ _) (noLimb_i64 _) _ _ _⟩, Below.store3 HB3.out _ _ _⟩

/-- what dyad.Of tells -/
def ofD (x : Int) : D := if hasV x then valD x else nz
def ofE (x : Int) : Int := if hasV x then 0 else 4
end Go.Proofs.YtofdjfdnckmmmaaGreatDoor

/-
  PLAIN: the exact number of a float; and a Dyad in order reads so.
-/
namespace Go.Proofs.YtofdjfdnckmmmaaGreatDoor
open Go.RowKit Nt Fm Fl

theorem norm_bd (neg : Bool) {m k : Nat} (e : Int) (hm : m < 2 ^ k) : (norm neg m e).m ≤ m ∧ ((norm neg m e = nz) ∨ (e ≤ (norm neg m e).e ∧ (norm neg m e).e ≤ e + k)) := by
  unfold norm
  split
  · exact ⟨Nat.zero_le _, Or.inl rfl⟩
  · rename_i h
    obtain ⟨q, h1, h2⟩ := ctz_spec h
    refine ⟨Nat.div_le_self _ _, Or.inr ⟨by simp only; omega, ?_⟩⟩
    have h3 : 2 ^ ctz m ≤ m := by
      have : 1 * 2 ^ ctz m ≤ q * 2 ^ ctz m := Nat.mul_le_mul_right _ (by omega)
      omega
    have h4 := (Nat.pow_lt_pow_iff_right (by decide : 1 < 2)).1 (Nat.lt_of_le_of_lt h3 hm)
    simp only; omega

theorem norm_neg (neg : Bool) (m : Nat) (e : Int) (h : m ≠ 0) : (norm neg m e).neg = neg := by unfold norm; rw [if_neg h]

theorem tt_vl (d : D) (t : Nat) : tt t d.m d.e = (d.vl (1074 + t)).natAbs := by
  rw [vl_natAbs]; unfold tt
  rw [show d.e + 1074 + (t : Int) = d.e + ((1074 + t : Nat) : Int) by omega]
theorem tt_norm (neg : Bool) (m : Nat) (e : Int) (t : Nat) (h : 0 ≤ e + 1074 + t) : tt t (norm neg m e).m (norm neg m e).e = tt t m e := by
  have h1 := tt_vl (norm neg m e) t
  have h2 := tt_vl ⟨neg, m, e⟩ t
  rw [norm_vl neg m e _ (by omega)] at h1
  simp only at h2
  rw [h1, ← h2]

/-- the number of a float counts as many as its rank tells -/
theorem valD_tt (x : Int) (h0 : 0 ≤ x) (h1 : x ≤ 18446744073709551615) (t : Nat) : tt t (valD x).m (valD x).e = mag (fabs x).toNat * 2 ^ t ∨ 9218868437227405312 ≤ fabs x := by
  have be := fexp_bd x
  have bf := ffr_bd x
  have hx : fabs x = fexp x * 4503599627370496 + ffr x := by unfold fabs fexp ffr; omega
  unfold valD
  rw [hx]
  generalize fexp x = e at *
  generalize ffr x = f at *
  left
  rw [tt_norm _ _ _ _ (by omega)]
  obtain ⟨e, rfl⟩ := Int.eq_ofNat_of_zero_le be.1
  obtain ⟨f, rfl⟩ := Int.eq_ofNat_of_zero_le bf.1
  by_cases he : (0 : Int) < (e : Int)
  · rw [if_pos he]
    have e1 : ((f : Int) + 4503599627370496).toNat = f + 4503599627370496 := by omega
    have e2 : ((e : Int) * 4503599627370496 + (f : Int)).toNat = e * 4503599627370496 + f := by omega
    rw [e1, e2]
    unfold tt mag
    rw [if_neg (by omega)]
    have e3 : (e * 4503599627370496 + f) % 4503599627370496 = f := by omega
    have e4 : (e * 4503599627370496 + f) / 4503599627370496 - 1 = e - 1 := by omega
    rw [e3, e4, Nat.mul_assoc, ← Nat.pow_add, Nat.add_comm f]
    congr 2
    omega
  · rw [if_neg he]
    have e0 : e = 0 := by omega
    subst e0
    have e1 : ((f : Int)).toNat = f := by omega
    have e2 : (((0 : Nat) : Int) * 4503599627370496 + (f : Int)).toNat = f := by omega
    rw [e1, e2]
    unfold tt mag
    rw [if_pos (by omega)]
    congr 2
    omega

theorem valD_facts (x : Int) (h0 : 0 ≤ x) (h1 : x ≤ 18446744073709551615) : (valD x).Nf ∧ (valD x).m < 2 ^ 53 ∧ -1074 ≤ (valD x).e ∧ (valD x).e ≤ 1100 ∧ ((valD x).m ≠ 0 → (valD x).neg = fng x) := by
  have be := fexp_bd x
  have bf := ffr_bd x
  unfold valD
  generalize fexp x = e at *
  generalize ffr x = f at *
  have hm : (if 0 < e then (f + 4503599627370496).toNat else f.toNat) < 2 ^ 53 := by split <;> omega
  generalize (if 0 < e then (f + 4503599627370496).toNat else f.toNat) = m at *
  obtain ⟨b1, b2⟩ := norm_bd (fng x) (max e 1 - 1075) hm
  refine ⟨norm_nf _ _ _, by omega, ?_, ?_, ?_⟩
  · rcases b2 with b2 | b2
    · rw [b2]; show (-1074 : Int) ≤ 0; decide
    · omega
  · rcases b2 with b2 | b2
    · rw [b2]; show (0 : Int) ≤ 1100; decide
    · omega
  · intro h
    by_cases hz : m = 0
    · subst hz; exfalso; apply h; unfold norm; rfl
    · exact norm_neg _ _ _ hz

/-- rounded it is itself, in each mode -/
theorem valD_num (x : Int) (h0 : 0 ≤ x) (h1 : x ≤ 18446744073709551615) (hv : fabs x < 9218868437227405312) (mode : Int) :
    numC (valD x) = false ∧ (numR (valD x) mode = x ∨ (x = 9223372036854775808 ∧ numR (valD x) mode = 0)) := by
  obtain ⟨f1, f2, f3, f4, f5⟩ := valD_facts x h0 h1
  have hb := fabs_bd x
  have htt : tt 0 (valD x).m (valD x).e = mag (fabs x).toNat * 2 ^ 0 := by
    rcases valD_tt x h0 h1 0 with h | h
    · exact h
    · omega
  have ht : (0 : Int) ≤ (valD x).e + 1074 + (0 : Nat) := by omega
  have hMR : MR = 9218868437227405312 := rfl
  have hr : (fabs x).toNat < MR := by omega
  refine ⟨(chg_iff ht).2 ⟨_, hr, htt⟩, ?_⟩
  have hn := numk_exact ht (kd (valD x).neg mode) _ hr htt
  unfold numR
  rw [hn]
  by_cases hz : (valD x).m = 0
  · have h2 : tt 0 (valD x).m (valD x).e = 0 := by unfold tt; rw [hz, Nat.zero_mul]
    rw [h2] at htt
    have h3 : mag (fabs x).toNat = mag 0 := by rw [mag_zero]; omega
    have h4 := mag_inj h3
    have hnz : (valD x).neg = false := by
      rcases f1 with h | h
      · rw [h]; rfl
      · rw [hz] at h; cases h
    rw [hnz]
    have h5 : fabs x = 0 := by omega
    unfold fabs at h5 h4
    simp only [Bool.false_eq_true, if_false]
    unfold fabs
    omega
  · rw [f5 hz]
    left
    unfold fng fabs
    simp only [decide_eq_true_eq]
    unfold fabs at hb
    split <;> omega

/-- an exact number in its form that is small enough is in order -/
theorem DV.sv {w : World} {v : Value} {d : D} (h : DV w v d) (hn : d.Nf) {k : Nat} (hk : k ≤ 12768) (hm : d.m < 2 ^ k) (h0 : -10000 ≤ d.e) (h1 : d.e ≤ 10000) :
    ∃ l, val l = d.m ∧ SV w v d.neg l d.e ∧ chkE d.neg l d.e = 0 := by
  obtain ⟨s, h2, l, h3, h4, h5⟩ := h
  have hl := h3.len (k := k) (by rw [h4]; exact hm)
  refine ⟨l, h4, ⟨s, h2, h5⟩, ?_⟩
  unfold chkE
  rw [if_neg (by omega)]
  by_cases hz : l.length = 0
  · rw [if_pos hz]
    have hl0 := List.length_eq_zero_iff.1 hz
    subst hl0
    have hd : d = nz := by
      rcases hn with h | h
      · exact h
      · rw [← h4] at h; cases h
    subst hd
    rfl
  · rw [if_neg hz, if_neg]
    rintro (h | h)
    · apply h3.2
      rw [List.getLast?_eq_getElem?, List.getElem?_eq_getElem (by omega)]
      simp only [List.getD, List.getElem?_eq_getElem (show l.length - 1 < l.length by omega), Option.getD_some] at h
      rw [h]
    · have hv0 : val l ≠ 0 := fun h => hz (by rw [val_eq_zero h3 h]; rfl)
      rcases hn with hd | hd
      · apply hv0; rw [h4, hd]; rfl
      · rw [← h4] at hd
        cases l with
        | nil => exact hz rfl
        | cons a l => simp only [val] at hd; simp at h; omega

end Go.Proofs.YtofdjfdnckmmmaaGreatDoor

/-
  PLAIN: what sum.all adds up. No Go function here.
-/
namespace Go.Proofs.YtofdjfdnckmmmaaGreatDoor
open Go.RowKit Nt Fm Fl

structure St where
  inf : Int
  clash : Bool
  nan : Bool
  ng : Nat
  ps : Nat
  s : D
def st0 : St := ⟨0, false, false, 0, 0, nz⟩
def stp (st : St) (x : Int) : St :=
  if fcls x = 5 then ⟨st.inf, st.clash, true, st.ng, st.ps, st.s⟩
  else if fcls x = 4 then ⟨x, st.clash || (decide (st.inf ≠ 0) && decide (st.inf ≠ x)), st.nan, st.ng, st.ps, st.s⟩
  else if fcls x = 1 then (if x = 0 then ⟨st.inf, st.clash, st.nan, st.ng, st.ps + 1, st.s⟩ else ⟨st.inf, st.clash, st.nan, st.ng + 1, st.ps, st.s⟩)
  else ⟨st.inf, st.clash, st.nan, st.ng, st.ps, plus st.s (valD x)⟩
def stL (l : List Int) : St := l.foldl stp st0
theorem stL_snoc (l : List Int) (x : Int) : stL (l ++ [x]) = stp (stL l) x := by unfold stL; rw [List.foldl_append]; rfl
theorem stL_take (l : List Int) (k : Nat) (h : k < l.length) : stL (l.take (k + 1)) = stp (stL (l.take k)) (l.getD k 0) := by
  rw [List.take_succ_eq_append_getElem h, stL_snoc]
  congr 1; simp [List.getD, h]
/-- a power of two that nothing works out -/
def Pw (n : Nat) : Nat := 2 ^ n
theorem Pw_pos (n : Nat) : 0 < Pw n := Nat.two_pow_pos _
theorem Pw_add (a b : Nat) : Pw (a + b) = Pw a * Pw b := Nat.pow_add _ _ _
theorem Pw_le {a b : Nat} (h : a ≤ b) : Pw a ≤ Pw b := Nat.pow_le_pow_right (by decide) h
/-- how great a sum of so many can be -/
def Sml (k : Nat) (d : D) : Prop := d.Nf ∧ -1074 ≤ d.e ∧ (d.vl 1074).natAbs ≤ k * Pw 2227
theorem Sml.zero (k : Nat) : Sml k nz := ⟨Or.inl rfl, by decide, by rw [vl_zero (d := nz) rfl]; exact Nat.zero_le _⟩
theorem Sml.mono {j k : Nat} {d : D} (h : Sml j d) (hk : j ≤ k) : Sml k d := ⟨h.1, h.2.1, Nat.le_trans h.2.2 (Nat.mul_le_mul_right _ hk)⟩
theorem valD_sml (x : Int) (h0 : 0 ≤ x) (h1 : x ≤ 18446744073709551615) : Sml 1 (valD x) := by
  obtain ⟨f1, f2, f3, f4, -⟩ := valD_facts x h0 h1
  refine ⟨f1, f3, ?_⟩
  rw [vl_natAbs, Nat.one_mul]
  have a : Pw ((valD x).e + ((1074 : Nat) : Int)).toNat ≤ Pw 2174 := Pw_le (by omega)
  have b : (valD x).m ≤ Pw 53 := Nat.le_of_lt f2
  rw [show (2227 : Nat) = 53 + 2174 from rfl, Pw_add]
  exact Nat.mul_le_mul b a
theorem Sml.plus {j k : Nat} {c d : D} (h1 : Sml j c) (h2 : Sml k d) : Sml (j + k) (plus c d) := by
  have e1 : 0 ≤ c.e + ((1074 : Nat) : Int) := by have := h1.2.1; omega
  have e2 : 0 ≤ d.e + ((1074 : Nat) : Int) := by have := h2.2.1; omega
  refine ⟨plus_Nf _ _, by have := plus_eT e1 e2; omega, ?_⟩
  rw [plus_vl _ _ _ e1 e2, Nat.add_mul]
  have a := h1.2.2; have b := h2.2.2
  omega
theorem Sml.bds {k : Nat} {d : D} (h : Sml k d) (hk : k ≤ 10000) : (∃ q, q ≤ 3000 ∧ d.m < 2 ^ q) ∧ -1074 ≤ d.e ∧ d.e ≤ 2000 := by
  obtain ⟨h1, h2, h3⟩ := h
  rw [vl_natAbs] at h3
  obtain ⟨p, hp0⟩ : ∃ p : Nat, p = 2227 := ⟨_, rfl⟩
  rw [← hp0] at h3
  obtain ⟨q, hq, hlt⟩ : ∃ q, q = p + 14 ∧ k * Pw p < 2 ^ q := by
    refine ⟨p + 14, rfl, ?_⟩
    have e : (2 : Nat) ^ (p + 14) = Pw p * 16384 := by unfold Pw; rw [Nat.pow_add]
    rw [e]
    have := Pw_pos p
    generalize Pw p = X at *
    have : k * X ≤ 10000 * X := Nat.mul_le_mul_right _ hk
    omega
  have hp := Nat.two_pow_pos (d.e + ((1074 : Nat) : Int)).toNat
  have hm : d.m * 1 ≤ d.m * 2 ^ (d.e + ((1074 : Nat) : Int)).toNat := Nat.mul_le_mul_left _ hp
  refine ⟨⟨q, by omega, by omega⟩, h2, ?_⟩
  by_cases hz : d.m = 0
  · rcases h1 with h1 | h1
    · rw [h1]; decide
    · omega
  · have : 1 * 2 ^ (d.e + ((1074 : Nat) : Int)).toNat ≤ d.m * 2 ^ (d.e + ((1074 : Nat) : Int)).toNat := Nat.mul_le_mul_right _ (by omega)
    rw [Nat.one_mul] at this
    have h5 := (Nat.pow_lt_pow_iff_right (by decide : 1 < 2)).1 (Nat.lt_of_le_of_lt (Nat.le_trans this h3) hlt)
    omega
theorem stp_sml {k : Nat} {st : St} (x : Int) (h0 : 0 ≤ x) (h1 : x ≤ 18446744073709551615) (h : Sml k st.s) : Sml (k + 1) (stp st x).s := by
  unfold stp
  split
  · exact h.mono (by omega)
  · split
    · exact h.mono (by omega)
    · split
      · split <;> exact h.mono (by omega)
      · exact h.plus (valD_sml x h0 h1)
theorem stL_sml : ∀ (l : List Int), (∀ x ∈ l, 0 ≤ x ∧ x ≤ 18446744073709551615) → ∀ k, k ≤ l.length → Sml k (stL (l.take k)).s
  | l, h, 0, _ => by simp [stL, st0]; exact Sml.zero 0
  | l, h, k + 1, hk => by
    rw [stL_take l k (by omega)]
    have e : l.getD k 0 = l[k]'(by omega) := by simp [List.getD, show k < l.length by omega]
    have hm := h _ (List.getElem_mem (show k < l.length by omega))
    rw [e]
    exact stp_sml _ hm.1 hm.2 (stL_sml l h k (by omega))
theorem stL_inf : ∀ (l : List Int), (∀ x ∈ l, 0 ≤ x ∧ x ≤ 18446744073709551615) → ∀ k, k ≤ l.length → 0 ≤ (stL (l.take k)).inf ∧ (stL (l.take k)).inf ≤ 18446744073709551615 ∧ (stL (l.take k)).ng ≤ k ∧ (stL (l.take k)).ps ≤ k
  | l, h, 0, _ => by simp [stL, st0]
  | l, h, k + 1, hk => by
    rw [stL_take l k (by omega)]
    have e : l.getD k 0 = l[k]'(by omega) := by simp [List.getD, show k < l.length by omega]
    have hm := h _ (List.getElem_mem (show k < l.length by omega))
    rw [e]
    have ih := stL_inf l h k (by omega)
    generalize stL (l.take k) = st at *
    unfold stp
    split
    · exact ⟨ih.1, ih.2.1, by simp only; omega, by simp only; omega⟩
    · split
      · exact ⟨hm.1, hm.2, by simp only; omega, by simp only; omega⟩
      · split
        · split
          · exact ⟨ih.1, ih.2.1, by simp only; omega, by simp only; omega⟩
          · exact ⟨ih.1, ih.2.1, by simp only; omega, by simp only; omega⟩
        · exact ⟨ih.1, ih.2.1, by simp only; omega, by simp only; omega⟩

/-- what is told of all -/
def allV (l : List Int) (mode : Int) : Int :=
  if ((stL l).nan || (stL l).clash) = true then 9221120237041090560 else if (stL l).inf ≠ 0 then (stL l).inf else if (stL l).s.m ≠ 0 then numR (stL l).s mode
  else if (stL l).ps = l.length then 0 else if (stL l).ng = l.length then 9223372036854775808 else if mode = 2 then 9223372036854775808 else 0
def allC (l : List Int) : Bool :=
  if ((stL l).nan || (stL l).clash) = true then false else if (stL l).inf ≠ 0 then false else if (stL l).s.m ≠ 0 then numC (stL l).s else false
end Go.Proofs.YtofdjfdnckmmmaaGreatDoor

/-
  PLAIN: the nearest number is no farther than any other one. No Go function here.
-/
namespace Go.Proofs.YtofdjfdnckmmmaaGreatDoor
open Go.RowKit Nt Fm Fl

def absD (d : D) : D := ⟨false, d.m, d.e⟩
theorem absD_fit {d : D} (h : Fit d) : Fit (absD d) := by
  obtain ⟨h1, h2, h3, h4⟩ := h
  refine ⟨?_, h2, h3, h4⟩
  rcases h1 with h1 | h1
  · left; rw [h1]; rfl
  · right; exact h1
theorem absD_vl (d : D) (T : Nat) : (absD d).vl T = ((d.vl T).natAbs : Int) := by
  rw [vl_natAbs]; unfold absD D.vl D.sm; simp
theorem cmp_abs {p q : D} {T : Nat} (h1 : 0 ≤ p.e + T) (h2 : 0 ≤ q.e + T) (h : (p.vl T).natAbs ≤ (q.vl T).natAbs) : cmp (absD p) (absD q) ≤ 0 := by
  have k1 : 0 ≤ (absD p).e + T := h1
  have k2 : 0 ≤ (absD q).e + T := h2
  rw [cmp_le k1 k2, absD_vl, absD_vl]; omega
/-- the value of a float, counted -/
theorem valD_vl (x : Int) (h0 : 0 ≤ x) (h1 : x ≤ 18446744073709551615) (hv : fabs x < 9218868437227405312) (t : Nat) :
    (valD x).vl (1074 + t) = if fng x then -((mag (fabs x).toNat * 2 ^ t : Nat) : Int) else ((mag (fabs x).toNat * 2 ^ t : Nat) : Int) := by
  have hb := valD_facts x h0 h1
  have ht : tt t (valD x).m (valD x).e = mag (fabs x).toNat * 2 ^ t := by
    rcases valD_tt x h0 h1 t with h | h
    · exact h
    · omega
  rw [← ht, ← sg_vl]
  unfold sg
  by_cases hm : (valD x).m = 0
  · have : tt t (valD x).m (valD x).e = 0 := by unfold tt; rw [hm]; simp
    rw [this]; simp
  · rw [hb.2.2.2.2 hm]
theorem near_arith {A Mn Mp Mr M1 : Nat} (h1 : Mp + Mn ≤ 2 * A ∨ Mn = 0) (h2 : 2 * A ≤ Mn + M1) (hr : Mr = Mn ∨ (Mr ≤ Mp ∧ Mp ≤ Mn) ∨ M1 ≤ Mr) (hmp : Mp ≤ Mn) (hm1 : Mn ≤ M1) (s s2 : Bool) :
    ((if s then -(A : Int) else A) - (if s then -(Mn : Int) else Mn)).natAbs ≤ ((if s then -(A : Int) else A) - (if s2 then -(Mr : Int) else Mr)).natAbs := by
  cases s <;> cases s2 <;> simp only [Bool.false_eq_true, if_false, if_true] <;> omega
theorem numk_near {m : Nat} {e : Int} {t k : Nat} (ht : 0 ≤ e + 1074 + t) (hk : k = 2 ∨ k = 3) (hn : numk k m e < MR) (r : Nat) (s s2 : Bool) :
    ((if s then -((tt t m e : Nat) : Int) else ((tt t m e : Nat) : Int)) - (if s then -((mag (numk k m e) * 2 ^ t : Nat) : Int) else ((mag (numk k m e) * 2 ^ t : Nat) : Int))).natAbs ≤
    ((if s then -((tt t m e : Nat) : Int) else ((tt t m e : Nat) : Int)) - (if s2 then -((mag r * 2 ^ t : Nat) : Int) else ((mag r * 2 ^ t : Nat) : Int))).natAbs := by
  have a1 := (numk_iff ht k _).1 (Nat.le_refl (numk k m e))
  have a2 : ¬ Pk k t (tt t m e) (numk k m e + 1) := fun h => by have := (numk_iff ht k _).2 h; omega
  generalize numk k m e = n at *
  have hw := Nat.two_pow_pos t
  have up : 2 * tt t m e ≤ mag n * 2 ^ t + mag (n + 1) * 2 ^ t := by
    rw [← Nat.add_mul]
    rcases hk with rfl | rfl
    · simp only [Pk, Nat.add_sub_cancel] at a2; omega
    · simp only [Pk, Nat.add_sub_cancel] at a2; omega
  have lo : mag (n - 1) * 2 ^ t + mag n * 2 ^ t ≤ 2 * tt t m e ∨ mag n * 2 ^ t = 0 := by
    rw [← Nat.add_mul]
    rcases Nat.eq_zero_or_pos n with h0 | h0
    · right; subst h0; rw [mag_zero]; simp
    · left
      rcases hk with rfl | rfl
      · simp only [Pk] at a1; omega
      · simp only [Pk] at a1; omega
  have mono : ∀ {i j : Nat}, i ≤ j → mag i * 2 ^ t ≤ mag j * 2 ^ t := fun h => Nat.mul_le_mul_right _ (mag_mono h)
  refine near_arith lo up ?_ (mono (by omega)) (mono (by omega)) s s2
  rcases Nat.lt_trichotomy r n with h | h | h
  · right; left; exact ⟨mono (by omega), mono (by omega)⟩
  · left; rw [h]
  · right; right; exact mono (by omega)
theorem fng_numR (d : D) (mode : Int) : (fabs (numR d mode)).toNat = numk (kd d.neg mode) d.m d.e ∧ (fng (numR d mode) = d.neg) := by
  have h := numk_le_MR (kd d.neg mode) d.m d.e
  have hMR : MR = 9218868437227405312 := rfl
  unfold numR fabs fng
  generalize numk (kd d.neg mode) d.m d.e = n at *
  cases d.neg <;> simp <;> omega
/-- the law of the nearest one -/
theorem near_law (d : D) (y mode : Int) (hm : mode = 0 ∨ mode = 4) (y0 : 0 ≤ y) (y1 : y ≤ 18446744073709551615) (hx : hasV (numR d mode) = true) (hy : hasV y = true) :
    cmp (absD (plus d (opp (valD (numR d mode))))) (absD (plus d (opp (valD y)))) ≤ 0 := by
  have hMR : MR = 9218868437227405312 := rfl
  have hb := numk_le_MR (kd d.neg mode) d.m d.e
  have xb : 0 ≤ numR d mode ∧ numR d mode ≤ 18446744073709551615 := by unfold numR; split <;> omega
  have hx' : fabs (numR d mode) < 9218868437227405312 := by unfold hasV at hx; simpa using hx
  have hy' : fabs y < 9218868437227405312 := by unfold hasV at hy; simpa using hy
  obtain ⟨f1, f2⟩ := fng_numR d mode
  have e1 := (valD_facts _ xb.1 xb.2).2.2.1
  have e2 := (valD_facts _ y0 y1).2.2.1
  obtain ⟨t, ht⟩ : ∃ t : Nat, 0 ≤ d.e + 1074 + t := ⟨(-(d.e + 1074)).toNat, by omega⟩
  have hd : 0 ≤ d.e + ((1074 + t : Nat) : Int) := by omega
  have hc : 0 ≤ (opp (valD (numR d mode))).e + ((1074 + t : Nat) : Int) := by show 0 ≤ (valD (numR d mode)).e + _; omega
  have ho : 0 ≤ (opp (valD y)).e + ((1074 + t : Nat) : Int) := by show 0 ≤ (valD y).e + _; omega
  refine cmp_abs (T := 1074 + t) (plus_eT hd hc) (plus_eT hd ho) ?_
  rw [plus_vl _ _ _ hd hc, plus_vl _ _ _ hd ho, opp_vl, opp_vl, valD_vl _ xb.1 xb.2 hx', valD_vl _ y0 y1 hy', f1, f2, ← sg_vl]
  have hk : kd d.neg mode = 2 ∨ kd d.neg mode = 3 := by
    unfold kd
    rcases hm with rfl | rfl
    · left; simp
    · right; simp
  have hlt : numk (kd d.neg mode) d.m d.e < MR := by
    rw [← f1]; have := fabs_bd (numR d mode); omega
  have := numk_near ht hk hlt (fabs y).toNat d.neg (fng y)
  unfold sg
  rw [← Int.sub_eq_add_neg, ← Int.sub_eq_add_neg]
  exact this
end Go.Proofs.YtofdjfdnckmmmaaGreatDoor

/-
  THE WALKS of round.Multiple, round.Cut.
-/
namespace Go.Proofs.YtofdjfdnckmmmaaGreatDoor
open Go.RowKit Nt Fm

def mulD (d : D) (pl mode : Int) : D := if pl ≤ d.e ∨ d.m = 0 then norm d.neg d.m d.e else norm d.neg (cutM d.neg d.m (pl - d.e) mode) pl
def mulC (d : D) (pl : Int) : Bool := if pl ≤ d.e ∨ d.m = 0 then false else cutC d.m (pl - d.e)
def RetDB (w : World) (R : D) (C : Bool) (r : Ending) (w' : World) : Prop := ∃ a n c, r = .returned (.tuple #[.agg #[.bool R.neg, .slice a n c, .int .i64 R.e], .bool C]) ∧ NV w' (.slice a n c) R.m ∧ Below w.heap.size w w'
theorem cutM_lt {neg : Bool} {m k0 : Nat} {k mode : Int} (hm : m < 2 ^ k0) (hk : 0 < k) : cutM neg m k mode < 2 ^ (k0 + 1) := by
  have h1 : m / 2 ^ k.toNat ≤ m := Nat.div_le_self _ _
  unfold cutM
  rw [if_neg (by omega), Nat.pow_succ]
  split
  · omega
  · split <;> omega

set_option maxRecDepth 100000 in
set_option maxHeartbeats 4000000 in
theorem multiple_any (v : Value) (d : D) (k0 : Nat) (pl mode : Int) (w : World) (hT : Tab w) (hd : DV w v d) (hm : d.m < 2 ^ k0) (hk0 : k0 ≤ 16000000000000) (e0 : -16000000000000 ≤ d.e) (e1 : d.e ≤ 16000000000000) (p0 : -16000000000000 ≤ pl) (p1 : pl ≤ 16000000000000) (m0 : 0 ≤ mode) (m1 : mode ≤ 4) :
    Calls Tryz.prog 88 #[v, .int .i64 pl, .int .i64 mode] w (RetDB w (mulD d pl mode) (mulC d pl)) := by
  obtain ⟨neg, m, e⟩ := d
  obtain ⟨s, rfl, hs⟩ := hd
  simp only at hm e0 e1 hs
  obtain ⟨ao, n, c, rfl, l1, l2, lz⟩ := nv_len hs
  have HT := Lib.hid hT
  have HS := Lib.hid hs
  have HM := Lib.hid hm
  clear hT hs
  by_cases hcase : pl ≤ e ∨ m = 0
  · have q : mulD ⟨neg, m, e⟩ pl mode = norm neg m e := by unfold mulD; rw [if_pos hcase]
    have q2 : mulC ⟨neg, m, e⟩ pl = false := by unfold mulC; rw [if_pos hcase]
    rw [q, q2]
    have hop := fun w' h0 hh => dnorm_any neg (.slice ao n c) m k0 e w' h0 hh hm (by omega) (by omega) (by omega)
    generalize norm neg m e = R at *
    have HOP := Lib.hid hop
    have hsplit : (pl ≤ e) ∨ (decide (pl ≤ e) = false ∧ ((n : Int) == 0) = true) := by
      by_cases h : pl ≤ e
      · exact Or.inl h
      · right; exact ⟨by rw [decide_eq_false_iff_not]; exact h, by rw [beq_iff_eq]; omega⟩
    clear q q2 hcase hm hop lz
    rcases hsplit with hp | ⟨hp, hn⟩
    all_goals
      go_enter Tryz.func88, Tryz.ntmps88
      go_wp2_with fail
      refine (HOP.out _ (HT.out.below (bl_alloc2 _ _ _)) (HS.out.below (bl_alloc2 _ _ _))).mono ?_
      rintro r w1 ⟨v1, rfl, ⟨s1, rfl, hv⟩, hb⟩
      obtain ⟨a1, n1, c1, rfl⟩ := hv.shape
      have B1 := Lib.hid (bl_thru (bl_alloc2 w _ _) (Nat.le_refl _) hb)
      have Z1 := Lib.hid ((Box.new2 w _ _ _ _ _).below hb)
      have HV := Lib.hid hv
      obtain ⟨s0, s1, s2, t0, t1, t2⟩ := Z1.out.cells
      clear hv hb
      go_wp2
      refine bodyPost_ret (v := .tuple #[.agg #[.bool R.neg, .slice a1 n1 c1, .int .i64 R.e], .bool false]) (by simp [results, Tryz.results88, go_sem, s0, s1, s2]) rfl ?_
      exact ⟨a1, n1, c1, rfl, HV.out.setD Z1.out, bl_set3 B1.out (by omega) _ _ _⟩
  · have q : mulD ⟨neg, m, e⟩ pl mode = norm neg (cutM neg m (pl - e) mode) pl := by unfold mulD; rw [if_neg hcase]
    have q2 : mulC ⟨neg, m, e⟩ pl = cutC m (pl - e) := by unfold mulC; rw [if_neg hcase]
    rw [q, q2]
    have hlt : cutM neg m (pl - e) mode < 2 ^ (k0 + 1) := cutM_lt hm (by omega)
    have hcut := fun w' hh => cut_any neg (.slice ao n c) m k0 (pl - e) mode w' hh hm (by omega) (by omega) (by omega) m0 m1
    generalize cutM neg m (pl - e) mode = Q at *
    have hop := fun v w' h0 hh => dnorm_any neg v Q (k0 + 1) pl w' h0 hh hlt (by omega) (by omega) (by omega)
    generalize norm neg Q pl = R at *
    generalize cutC m (pl - e) = C at *
    have HOP := Lib.hid hop
    have HCUT := Lib.hid hcut
    have hp : e < pl := by omega
    have hn : ((n : Int) == 0) = false := by rw [beq_eq_false_iff_ne]; omega
    clear q q2 hcase hm hop lz hlt hcut
    go_enter Tryz.func88, Tryz.ntmps88
    go_wp2_with fail
    refine (HCUT.out _ (HS.out.below (bl_alloc2 _ _ _))).mono ?_
    rintro r w1 ⟨v1, rfl, hv, hb⟩
    obtain ⟨a1, n1, c1, rfl⟩ := hv.shape
    have B1 := Lib.hid (bl_thru (bl_alloc2 w _ _) (Nat.le_refl _) hb)
    have X1 := Lib.hid (((Box.new w _ _ _ _).alloc _).below hb)
    have Z1 := Lib.hid ((Box.new2 w _ _ _ _ _).below hb)
    have HV := Lib.hid hv
    obtain ⟨q0, q1, q2, f0, f1, f2⟩ := X1.out.cells
    clear hv hb
    go_wp2_with fail
    refine (HOP.out _ _ (HT.out.below B1.out) HV.out).mono ?_
    rintro r w2 ⟨v2, rfl, ⟨s2, rfl, hv⟩, hb⟩
    obtain ⟨a2, n2, c2, rfl⟩ := hv.shape
    have B2 := Lib.hid (bl_thru B1.out (Nat.le_refl _) hb)
    have Z2 := Lib.hid (Z1.out.below hb)
    have HV2 := Lib.hid hv
    obtain ⟨s0, s1, s2, t0, t1, t2⟩ := Z2.out.cells
    clear hv hb
    go_wp2
    refine bodyPost_ret (v := .tuple #[.agg #[.bool R.neg, .slice a2 n2 c2, .int .i64 R.e], .bool C]) (by simp [results, Tryz.results88, go_sem, s0, s1, s2]) rfl ?_
    exact ⟨a2, n2, c2, rfl, HV2.out.setD Z2.out, bl_set3 B2.out (by omega) _ _ _⟩
end Go.Proofs.YtofdjfdnckmmmaaGreatDoor
