/-
  THE WALKS of float.HasValue, dyad.Value, dyad.Of.
-/
import Derived.Test.YtapdjclhpcakeaaDoorDy1
import Derived.Test.YtapdjclhpcakeaaDoorFloatB
set_option linter.unusedVariables false
set_option linter.unusedSimpArgs false
namespace Go.Proofs.YtapdjclhpcakeaaDoor
open Go.RowKit Nt Fm Fl

/-- the exact number of a float that has one -/
def valD (x : Int) : D := norm (fng x) (if 0 < fexp x then (ffr x + 4503599627370496).toNat else (ffr x).toNat) (max (fexp x) 1 - 1075)
def hasV (x : Int) : Bool := decide (fabs x < 9218868437227405312)

theorem hasValue_any (x : Int) (h0 : 0 ≤ x) (h1 : x ≤ 18446744073709551615) (w : World) :
    Calls Tryd.prog 73 #[.int .u64 x] w fun e w' => e = .returned (.bool (hasV x)) ∧ w = w' := by
  have hb := fabs_bd x
  unfold hasV
  go_enter Tryd.func73, Tryd.ntmps73
  go_wp2_with (go_at_call 34; refine (abs_any x h0 h1 _).mono ?_; rintro e w' ⟨rfl, rfl⟩)
  go_ret
  exact ⟨rfl, rfl⟩

theorem or_hidden (x : Int) (h0 : 0 ≤ x) (h1 : x < 4503599627370496) : bits .or .u64 x 4503599627370496 = x + 4503599627370496 := by
  obtain ⟨a, rfl⟩ := Int.eq_ofNat_of_zero_le h0
  have ha : a < 2 ^ 52 := by omega
  have h := bits_or_u64_nat a 4503599627370496 (by omega) (by decide)
  rw [show ((4503599627370496 : Nat) : Int) = 4503599627370496 from rfl] at h
  rw [h, Nat.or_comm]
  have := Nat.two_pow_add_eq_or_of_lt ha 1
  rw [show (2 ^ 52 * 1 : Nat) = 4503599627370496 by decide] at this
  rw [← this]; omega

set_option maxHeartbeats 2000000 in
theorem value_any (x : Int) (h0 : 0 ≤ x) (h1 : x ≤ 18446744073709551615) (w : World) (hT : Tab w) :
    Calls Tryd.prog 81 #[.int .u64 x] w (RetD w (valD x)) := by
  have hT' := Lib.hid hT
  clear hT
  have hp := parts_any x h0 h1
  have be := fexp_bd x
  have bf := ffr_bd x
  unfold valD
  generalize fng x = g at *
  generalize fexp x = e at *
  generalize ffr x = f at *
  have HP := Lib.hid hp
  clear hp
  by_cases he : 0 < e
  · have e1 := or_hidden f (by omega) (by omega)
    have hmx : max e 1 = e := by omega
    rw [if_pos he, hmx]
    go_enter Tryd.func81, Tryd.ntmps81
    go_wp2_with (go_at_call 79; refine (HP.out _).mono ?_; rintro e w' ⟨rfl, rfl⟩)
    refine (natOf_any _ (by omega) (by omega) _).mono ?_
    rintro r w1 ⟨v, rfl, hv, hb⟩
    obtain ⟨ao, n, c, rfl⟩ := hv.shape
    have HV := Lib.hid hv
    have HB := Lib.hid hb
    obtain ⟨q0, q1, q2, f0, f1, f2⟩ := cells3 hb
    clear hv hb
    go_wp2_with fail
    refine (dnorm_any g _ _ 64 (e - 1075) _ ((hT'.out.alloc _).below HB.out) HV.out (by omega) (by decide) (by omega) (by omega)).mono ?_
    rintro r w2 ⟨v2, rfl, ⟨s2, rfl, hv2⟩, hb⟩
    obtain ⟨ao2, n2, c2, rfl⟩ := hv2.shape
    have hb3 := HB.out.trans (hb.mono HB.out.size)
    obtain ⟨q0, q1, q2, f0, f1, f2⟩ := cells3 hb3
    have HV2 := Lib.hid hv2
    have HB3 := Lib.hid hb3
    clear hv2 hb hb3
    generalize norm g (f + 4503599627370496).toNat (e - 1075) = d at *
    go_wp2
    refine bodyPost_ret (v := .agg #[.bool d.neg, .slice ao2 n2 c2, .int .i64 d.e]) (by simp [results, Tryd.results81, go_sem, q0, q1, q2]) rfl ?_
    exact ⟨_, rfl, ⟨_, rfl, HV2.out.store3 HB3.out (noLimb_bool _) (noLimb_slice _ _ _) (noLimb_i64 _) _ _ _⟩, Below.store3 HB3.out _ _ _⟩
  · have he2 : e = 0 := by omega
    rw [if_neg he]
    subst he2
    have hmx : max (0 : Int) 1 - 1075 = -1074 := by decide
    rw [hmx]
    go_enter Tryd.func81, Tryd.ntmps81
    go_wp2_with (go_at_call 79; refine (HP.out _).mono ?_; rintro e w' ⟨rfl, rfl⟩)
    refine (natOf_any _ (by omega) (by omega) _).mono ?_
    rintro r w1 ⟨v, rfl, hv, hb⟩
    obtain ⟨ao, n, c, rfl⟩ := hv.shape
    have HV := Lib.hid hv
    have HB := Lib.hid hb
    obtain ⟨q0, q1, q2, f0, f1, f2⟩ := cells3 hb
    clear hv hb
    go_wp2_with fail
    refine (dnorm_any g _ _ 64 (-1074) _ ((hT'.out.alloc _).below HB.out) HV.out (by omega) (by decide) (by omega) (by omega)).mono ?_
    rintro r w2 ⟨v2, rfl, ⟨s2, rfl, hv2⟩, hb⟩
    obtain ⟨ao2, n2, c2, rfl⟩ := hv2.shape
    have hb3 := HB.out.trans (hb.mono HB.out.size)
    obtain ⟨q0, q1, q2, f0, f1, f2⟩ := cells3 hb3
    have HV2 := Lib.hid hv2
    have HB3 := Lib.hid hb3
    clear hv2 hb hb3
    generalize norm g f.toNat (-1074) = d at *
    go_wp2
    refine bodyPost_ret (v := .agg #[.bool d.neg, .slice ao2 n2 c2, .int .i64 d.e]) (by simp [results, Tryd.results81, go_sem, q0, q1, q2]) rfl ?_
    exact ⟨_, rfl, ⟨_, rfl, HV2.out.store3 HB3.out (noLimb_bool _) (noLimb_slice _ _ _) (noLimb_i64 _) _ _ _⟩, Below.store3 HB3.out _ _ _⟩

/-- what dyad.Of tells -/
def ofD (x : Int) : D := if hasV x then valD x else nz
def ofE (x : Int) : Int := if hasV x then 0 else 4
set_option maxHeartbeats 2000000 in
theorem of_any (x : Int) (h0 : 0 ≤ x) (h1 : x ≤ 18446744073709551615) (w : World) (hT : Tab w) :
    Calls Tryd.prog 104 #[.int .u64 x] w fun r w' => ∃ v, r = .returned (.tuple #[v, .int .i64 (ofE x)]) ∧ DV w' v (ofD x) ∧ Below w.heap.size w w' := by
  have hh := hasValue_any x h0 h1
  have hT' := Lib.hid hT
  clear hT
  unfold ofD ofE
  cases hv : hasV x
  · rw [hv] at hh
    have HH := Lib.hid hh
    clear hh
    rw [if_neg (by decide), if_neg (by decide)]
    go_enter Tryd.func104, Tryd.ntmps104
    go_wp2_with (go_at_call 73; refine (HH.out _).mono ?_; rintro e w' ⟨rfl, rfl⟩)
    refine bodyPost_ret (v := .tuple #[.agg #[.bool false, .slice none 0 0, .int .i64 0], .int .i64 4]) (by simp [results, Tryd.results104, go_sem]) rfl ?_
    exact ⟨_, rfl, DV.zero _, (Below.refl _ _).alloc (Nat.le_refl _) _⟩
  · rw [hv] at hh
    have HH := Lib.hid hh
    clear hh
    rw [if_pos rfl, if_pos rfl]
    have hval := value_any x h0 h1
    generalize valD x = d at *
    have HVAL := Lib.hid hval
    clear hval
    go_enter Tryd.func104, Tryd.ntmps104
    go_wp2_with (go_at_call 73; refine (HH.out _).mono ?_; rintro e w' ⟨rfl, rfl⟩)
    refine (HVAL.out _ (hT'.out.alloc _)).mono ?_
    rintro r w1 ⟨v2, rfl, ⟨s2, rfl, hv2⟩, hb⟩
    obtain ⟨ao2, n2, c2, rfl⟩ := hv2.shape
    obtain ⟨q0, q1, q2, f0, f1, f2⟩ := cells3 hb
    have HV2 := Lib.hid hv2
    have HB3 := Lib.hid hb
    clear hv2 hb
    go_wp2
    refine bodyPost_ret (v := .tuple #[.agg #[.bool d.neg, .slice ao2 n2 c2, .int .i64 d.e], .int .i64 0]) (by simp [results, Tryd.results104, go_sem, q0, q1, q2]) rfl ?_
    exact ⟨_, rfl, ⟨_, rfl, HV2.out.store3 HB3.out (noLimb_bool _) (noLimb_slice _ _ _) (noLimb_i64 _) _ _ _⟩, Below.store3 HB3.out _ _ _⟩
end Go.Proofs.YtapdjclhpcakeaaDoor
