/-
  THE WALKS of hex.Fixed, hex.Text.
-/
import Derived.Test.YtofdjfdnckmmmaaGreatDoorLk
import Derived.Test.YtofdjfdnckmmmaaGreatDoorBh
import Derived.Deep.RegionHeld3
set_option linter.unusedVariables false
set_option linter.unusedSimpArgs false
namespace Go.Proofs.YtofdjfdnckmmmaaGreatDoor
open Go.RowKit Nt Fm Fl

/-- one state, that many ways lead to: it is gone on from once -/
theorem use_A {P : Program} {md : Region.Mode} {ops : Array Oper} {Q : Exit → Act → World → Prop} {S : World → Prop} (A : Act) (W : World) (L : Array Bool) (fuel : Nat) {fuel0 : Nat} {L0 : Array Bool} {a0 : Act} {w0 : World}
    (hF : wpAnyH P md ops Q S fuel L A W) (main : wpAnyH P md ops Q S fuel L A W → wpAnyH P md ops Q S fuel0 L0 a0 w0) : wpAnyH P md ops Q S fuel0 L0 a0 w0 := main hF
theorem blen_le_iff {n k : Nat} : blen n ≤ k ↔ n < 2 ^ k := ⟨fun h => Nat.lt_of_lt_of_le (lt_blen n) (Nat.pow_le_pow_right (by omega) h), blen_le_of⟩
/-- what Fixed cuts a number to -/
def hfD (x : Int) (places : Nat) (mode : Int) : D := mulD (valD x) (hxp (valD x) - 4 * (places : Int)) mode
def hfC0 (x : Int) (places : Nat) : Bool := mulC (valD x) (hxp (valD x) - 4 * (places : Int))
theorem norm_m_le (neg : Bool) (m : Nat) (e : Int) : (norm neg m e).m ≤ m := by
  unfold norm; split
  · exact Nat.zero_le _
  · exact Nat.div_le_self _ _
theorem norm_pow (neg : Bool) (k : Nat) (e : Int) : (norm neg (2 ^ k) e).m = 1 := by
  unfold norm
  have hp := Nat.two_pow_pos k
  rw [if_neg (by omega)]
  obtain ⟨q, h1, h2⟩ := ctz_spec (show 2 ^ k ≠ 0 by omega)
  generalize ctz (2 ^ k) = c at *
  show 2 ^ k / 2 ^ c = 1
  rcases Nat.lt_trichotomy c k with h | h | h
  · obtain ⟨j, rfl⟩ : ∃ j, k = c + (j + 1) := ⟨k - c - 1, by omega⟩
    rw [Nat.pow_add, Nat.mul_comm] at h1
    have := Nat.eq_of_mul_eq_mul_right (Nat.two_pow_pos c) h1
    rw [Nat.pow_succ] at this; omega
  · subst h; exact Nat.div_self hp
  · obtain ⟨j, rfl⟩ : ∃ j, c = k + (j + 1) := ⟨c - k - 1, by omega⟩
    rw [Nat.pow_add, Nat.pow_succ] at h1
    have h3 : q * (2 ^ j * 2) * 2 ^ k = 1 * 2 ^ k := by rw [Nat.one_mul, Nat.mul_assoc, Nat.mul_comm (2 ^ j * 2)]; exact h1.symm
    have := Nat.eq_of_mul_eq_mul_right hp h3
    rw [← Nat.mul_assoc] at this; omega
/-- what is cut so has room in so many digits -/
theorem hf_fit {d : D} (places : Nat) (mode : Int) : blen (mulD d (hxp d - 4 * (places : Int)) mode).m ≤ 4 * places + 1 := by
  rw [blen_le_iff]
  have hb : d.m < 2 ^ blen d.m := lt_blen d.m
  unfold mulD hxp
  by_cases h : (blen d.m : Int) + d.e - 1 - 4 * (places : Int) ≤ d.e ∨ d.m = 0
  · rw [if_pos h]
    refine Nat.lt_of_le_of_lt (norm_m_le _ _ _) ?_
    rcases h with h | h
    · exact Nat.lt_of_lt_of_le hb (Nat.pow_le_pow_right (by omega) (by omega))
    · rw [h]; exact Nat.two_pow_pos _
  · rw [if_neg h]
    obtain ⟨k, hk⟩ : ∃ k : Nat, (blen d.m : Int) + d.e - 1 - 4 * (places : Int) - d.e = (k : Int) := ⟨((blen d.m : Int) + d.e - 1 - 4 * (places : Int) - d.e).toNat, by omega⟩
    have hk0 : 0 < k := by omega
    rw [hk]
    have hq : d.m / 2 ^ k < 2 ^ (4 * places + 1) := by
      rw [Nat.div_lt_iff_lt_mul (Nat.two_pow_pos _), ← Nat.pow_add]
      exact Nat.lt_of_lt_of_le hb (Nat.pow_le_pow_right (by omega) (by omega))
    have hc : cutM d.neg d.m (k : Int) mode ≤ 2 ^ (4 * places + 1) := by
      unfold cutM
      rw [if_neg (by omega), Int.toNat_natCast]
      split
      · omega
      · split <;> omega
    rcases Nat.lt_or_eq_of_le hc with h1 | h1
    · exact Nat.lt_of_le_of_lt (norm_m_le _ _ _) h1
    · rw [h1, norm_pow, Nat.pow_succ]
      have := Nat.two_pow_pos (4 * places)
      omega
/-- what Fixed tells: the error -/
def hfE (x places mode : Int) : Int := if hasV x = true then (if (0 ≤ mode ∧ mode ≤ 4) ∧ 0 ≤ places ∧ places ≤ 30 then 0 else 1) else 4
/-- .. the text -/
def hfS (x places mode : Int) : List UInt8 := if hfE x places mode = 0 then hxW x (hfD x places.toNat mode) places.toNat else []
/-- .. whether it was changed -/
def hfC (x places mode : Int) : Bool := decide (hfE x places mode = 0) && hfC0 x places.toNat
theorem hfE_cases (x places mode : Int) : (hasV x = false ∧ hfE x places mode = 4) ∨ (hasV x = true ∧ ¬ ((0 ≤ mode ∧ mode ≤ 4) ∧ 0 ≤ places ∧ places ≤ 30) ∧ hfE x places mode = 1) ∨ (hasV x = true ∧ ((0 ≤ mode ∧ mode ≤ 4) ∧ 0 ≤ places ∧ places ≤ 30) ∧ hfE x places mode = 0) := by
  unfold hfE
  cases hasV x
  · left; simp
  · right
    by_cases h : (0 ≤ mode ∧ mode ≤ 4) ∧ 0 ≤ places ∧ places ≤ 30
    · right; exact ⟨rfl, h, by rw [if_pos rfl, if_pos h]⟩
    · left; exact ⟨rfl, h, by rw [if_pos rfl, if_neg h]⟩
theorem mulD_bd {d : D} {k : Nat} (hm : d.m < 2 ^ k) (pl mode : Int) (e0 : -2500 ≤ d.e) (e1 : d.e ≤ 2500) (p0 : -2500 ≤ pl) (p1 : pl ≤ 2500) : (mulD d pl mode).m < 2 ^ (k + 1) ∧ -2500 ≤ (mulD d pl mode).e ∧ (mulD d pl mode).e ≤ 2500 + (k + 1) := by
  unfold mulD
  by_cases h : pl ≤ d.e ∨ d.m = 0
  · rw [if_pos h]
    obtain ⟨b1, b2⟩ := norm_bd d.neg d.e hm
    refine ⟨Nat.lt_of_le_of_lt b1 (Nat.lt_of_lt_of_le hm (Nat.pow_le_pow_right (by omega) (by omega))), ?_, ?_⟩
    · rcases b2 with b2 | b2
      · rw [b2]; show (-2500 : Int) ≤ 0; omega
      · omega
    · rcases b2 with b2 | b2
      · rw [b2]; show (0 : Int) ≤ _; omega
      · omega
  · rw [if_neg h]
    have hc := cutM_lt (neg := d.neg) (mode := mode) hm (show 0 < pl - d.e by omega)
    obtain ⟨b1, b2⟩ := norm_bd d.neg pl hc
    refine ⟨Nat.lt_of_le_of_lt b1 hc, ?_, ?_⟩
    · rcases b2 with b2 | b2
      · rw [b2]; show (-2500 : Int) ≤ 0; omega
      · omega
    · rcases b2 with b2 | b2
      · rw [b2]; show (0 : Int) ≤ _; omega
      · omega
set_option maxRecDepth 100000 in
set_option maxHeartbeats 8000000 in
theorem hfixed_any (x places mode : Int) (x0 : 0 ≤ x) (x1 : x ≤ 18446744073709551615) (w : World) (hT : Tab w) (hT10 : Tab10 w) :
    Calls Tryz.prog 52 #[.int .u64 x, .int .i64 places, .int .i64 mode] w (RetSBE w (hfS x places mode) (hfC x places mode) (hfE x places mode)) := by
  have HV := Lib.hid (fun w' => hasValue_any x x0 x1 w')
  have KN := Lib.hid (fun w' => known_any mode w')
  unfold hfS hfC
  rcases hfE_cases x places mode with ⟨h1, hE⟩ | ⟨h1, h2, hE⟩ | ⟨h1, h2, hE⟩
  · rw [h1] at HV
    rw [hE, if_neg (by decide), show (decide ((4 : Int) = 0) && hfC0 x places.toNat) = false by rfl]
    clear hE h1 hT hT10
    go_enter Tryz.func52, Tryz.ntmps52
    go_wp2_with (go_at_call 27; refine (HV.out _).mono ?_; rintro e w1 ⟨rfl, rfl⟩)
    go_ret3
    exact ⟨rfl, Below.refl _ _⟩
  · rw [h1] at HV
    rw [hE, if_neg (by decide), show (decide ((1 : Int) = 0) && hfC0 x places.toNat) = false by rfl]
    clear hE h1 hT hT10
    by_cases hk : 0 ≤ mode ∧ mode ≤ 4
    · have hkb : knownB mode = true := by unfold knownB; rw [decide_eq_true_eq]; exact hk
      rw [hkb] at KN
      by_cases hp : places < 0
      · clear h2 hk hkb
        go_enter Tryz.func52, Tryz.ntmps52
        go_wp2_with (first
          | (go_at_call 27; refine (HV.out _).mono ?_; rintro e w1 ⟨rfl, rfl⟩)
          | (go_at_call 28; refine (KN.out _).mono ?_; rintro e w1 ⟨rfl, rfl⟩))
        go_ret3
        exact ⟨rfl, Below.refl _ _⟩
      · have hp2 : 30 < places := by
          rcases Int.lt_or_le 30 places with h | h
          · exact h
          · exact absurd ⟨hk, by omega, h⟩ h2
        clear h2 hk hkb
        go_enter Tryz.func52, Tryz.ntmps52
        go_wp2_with (first
          | (go_at_call 27; refine (HV.out _).mono ?_; rintro e w1 ⟨rfl, rfl⟩)
          | (go_at_call 28; refine (KN.out _).mono ?_; rintro e w1 ⟨rfl, rfl⟩))
        go_ret3
        exact ⟨rfl, Below.refl _ _⟩
    · have hkb : knownB mode = false := by unfold knownB; rw [decide_eq_false_iff_not]; exact hk
      rw [hkb] at KN
      clear h2 hk hkb
      go_enter Tryz.func52, Tryz.ntmps52
      go_wp2_with (first
        | (go_at_call 27; refine (HV.out _).mono ?_; rintro e w1 ⟨rfl, rfl⟩)
        | (go_at_call 28; refine (KN.out _).mono ?_; rintro e w1 ⟨rfl, rfl⟩))
      go_ret3
      exact ⟨rfl, Below.refl _ _⟩
  · obtain ⟨⟨m0, m1⟩, p0, p1⟩ := h2
    have hkb : knownB mode = true := by unfold knownB; rw [decide_eq_true_eq]; exact ⟨m0, m1⟩
    rw [h1] at HV
    rw [hkb] at KN
    rw [hE, if_pos rfl, show (decide ((0 : Int) = 0) && hfC0 x places.toNat) = hfC0 x places.toNat by rfl]
    clear hE h1 hkb
    obtain ⟨p, rfl⟩ := Int.eq_ofNat_of_zero_le p0
    rw [Int.toNat_natCast]
    obtain ⟨f1, f2, f3, f4, f5⟩ := valD_facts x x0 x1
    have hbl : blen (valD x).m ≤ 53 := blen_le_of f2
    have VL := Lib.hid (fun w' h => value_any x x0 x1 w' h)
    have LN := Lib.hid (fun va w' (h : NV w' va (valD x).m) => natLen_any va _ 53 w' h f2 (by omega))
    obtain ⟨pl, hpl⟩ : ∃ pl, pl = hxp (valD x) - 4 * (p : Int) := ⟨_, rfl⟩
    have hplb : -2500 ≤ pl ∧ pl ≤ 2500 := by rw [hpl]; unfold hxp; omega
    have ML := Lib.hid (fun v w' (h : DV w' v (valD x)) hT => multiple_any v (valD x) 53 pl mode w' hT h f2 (by omega) (by omega) (by omega) (by omega) (by omega) m0 m1)
    have hfit := hf_fit (d := valD x) p mode
    obtain ⟨g1, g2, g3⟩ := mulD_bd f2 pl mode (by omega) (by omega) hplb.1 hplb.2
    have hR : hfD x p mode = mulD (valD x) pl mode := by unfold hfD; rw [hpl]
    have hC : hfC0 x p = mulC (valD x) pl := by unfold hfC0; rw [hpl]
    rw [← hpl] at hfit
    rw [← hR] at ML hfit g1 g2 g3
    rw [← hC] at ML
    have WR := Lib.hid (fun v w' (h : DV w' v (hfD x p mode)) h2 => write_any x x0 x1 v (hfD x p mode) p w' h (Nat.lt_of_lt_of_le g1 (Nat.pow_le_pow_right (by omega) (by omega))) (by omega) (by omega) (by omega) hfit h2)
    have hplw : (blen (valD x).m : Int) + (valD x).e - 1 - 4 * (p : Int) = pl := by rw [hpl]; unfold hxp; rfl
    generalize hfD x p mode = R at *
    generalize hfC0 x p = C at *
    obtain ⟨RS, hRS⟩ : ∃ RS : ByteArray, RS = ⟨(hxW x R p).toArray⟩ := ⟨_, rfl⟩
    unfold RetSBE
    rw [← hRS]
    rw [← hRS] at WR
    generalize valD x = d at *
    generalize blen d.m = L at *
    have hw1 : IntKind.i64.wrap ((L : Int) + d.e) = (L : Int) + d.e := IntWalk.i64_in _ (by omega)
    have hw2 : IntKind.i64.wrap ((L : Int) + d.e - 1) = (L : Int) + d.e - 1 := IntWalk.i64_in _ (by omega)
    have hw3 : IntKind.i64.wrap ((L : Int) + d.e - 1 - 4 * (p : Int)) = pl := by rw [IntWalk.i64_in _ (by omega)]; exact hplw
    have hw4 : IntKind.i64.wrap (4 * (p : Int)) = 4 * (p : Int) := IntWalk.i64_in _ (by omega)
    have H1 := Lib.hid hT
    have H2 := Lib.hid hT10
    clear hT hT10 hRS hpl hplb hfit f1 f2 f3 f4 f5 g1 g2 g3 hR hC hbl hplw
    go_enter Tryz.func52, Tryz.ntmps52
    go_wp2_with (first
      | (go_at_call 27; refine (HV.out _).mono ?_; rintro e w1 ⟨rfl, rfl⟩)
      | (go_at_call 28; refine (KN.out _).mono ?_; rintro e w1 ⟨rfl, rfl⟩)
      | (go_at_call 79; refine (VL.out _ H1.out).mono ?_; rintro e w1 ⟨v1, rfl, hd1, hb1⟩; obtain ⟨s1, rfl, hs1⟩ := hd1; obtain ⟨a1, n1, c1, rfl⟩ := hs1.shape; have D1 := Lib.hid hs1; have B1 := Lib.hid hb1; have B0s := Lib.hid hb1.size; have T1 := Lib.hid (H2.out.below hb1); have U1 := Lib.hid (H1.out.below hb1); clear hs1 hb1))
    obtain ⟨V, hV⟩ : ∃ V, V = w1.alloc (.cells #[.bool d.neg, .slice a1 n1 c1, .int .i64 d.e] 68) := ⟨_, rfl⟩
    have XC : Hid (Box V w1.heap.size 68 (.bool d.neg) (.slice a1 n1 c1) (.int .i64 d.e)) := Lib.hid (by rw [hV]; exact Box.new w1 (.bool d.neg) (.slice a1 n1 c1) (.int .i64 d.e) 68)
    replace B1 : Hid (Below w.heap.size w V) := Lib.hid (by rw [hV]; exact B1.out.alloc B1.out.size _)
    replace D1 : Hid (NV V (.slice a1 n1 c1) d.m) := Lib.hid (by rw [hV]; exact D1.out.alloc _)
    replace T1 : Hid (Tab10 V) := Lib.hid (by rw [hV]; exact T1.out.below ((Below.refl _ _).alloc (Nat.le_refl _) _))
    replace U1 : Hid (Tab V) := Lib.hid (by rw [hV]; exact U1.out.alloc _)
    have hbs : w.heap.size ≤ w1.heap.size := by
      have h1 := B1.out.size
      have h2 : V.heap.size = w1.heap.size + 1 := by rw [hV]; simp
      have h3 := XC.out.lt
      have h4 := B0s.out
      omega
    obtain ⟨bk, hbk⟩ : ∃ bk, bk = w1.heap.size := ⟨_, rfl⟩
    rw [← hV]
    rw [← hbk] at XC hbs
    rw [← hbk]
    clear hV hbk
    replace XC := Lib.hid XC.out.drew
    replace B1 := Lib.hid B1.out.drew
    replace D1 := Lib.hid D1.out.drew
    replace T1 : Hid (Tab10 V.drew) := Lib.hid (T1.out.below (Below.refl _ _).drew)
    replace U1 := Lib.hid U1.out.drew
    obtain ⟨p0', p1', p2', q0, q1, q2⟩ := XC.out.cells
    refine wp_region_held_drew (S := fun _ => True) (by kernel_rfl) trivial (fun hHeld => ?_)
    refine' use_A _ _ _ _ ?F ?main
    case main =>
      intro hF
      repeat' first
        | (have hG := hK; clear hG; go_simp; first | (refine hK.out _ _ trivial (fun hHeld => ?_)) | (refine (LN.out _ _ D1.out).mono ?_; rintro e w' ⟨rfl, rfl⟩; refine hK.out _ _ trivial (fun hHeld => ?_)); clear hK K; try simp only [Act.put, List.setIfInBounds_toArray, List.set_cons_zero, List.set_cons_succ])
        | with_reducible exact AllReadyH.nil
        | refine AllReadyH.cons (o := _) rfl (fun K hK => ?_) ?_
        | (refine wpAnyH_take (i := 1) (oi := _) (v := ?_) rfl (by decide +kernel) (by decide +kernel) (by decide +kernel) (fun _ _ _ h => h) (Or.inl ⟨by rfl, ?_⟩) (by assumption) ?_; rotate_left; focus (intro w hSw; go_simp; all_goals with_reducible rfl); try simp only [Act.put, List.setIfInBounds_toArray, List.set_cons_zero, List.set_cons_succ])
        | (refine wpAnyH_take (i := 4) (oi := _) (v := ?_) rfl (by decide +kernel) (by decide +kernel) (by decide +kernel) (fun _ _ _ h => h) (Or.inl ⟨by rfl, ?_⟩) (by assumption) ?_; rotate_left; focus (intro w hSw; go_simp; all_goals with_reducible rfl); try simp only [Act.put, List.setIfInBounds_toArray, List.set_cons_zero, List.set_cons_succ])
        | (refine wpAnyH_take (i := 6) (oi := _) (v := ?_) rfl (by decide +kernel) (by decide +kernel) (by decide +kernel) (fun _ _ _ h => h) (Or.inl ⟨by rfl, ?_⟩) (by assumption) ?_; rotate_left; focus (intro w hSw; go_simp; all_goals with_reducible rfl); try simp only [Act.put, List.setIfInBounds_toArray, List.set_cons_zero, List.set_cons_succ])
        | (refine wpAnyH_take (i := 7) (oi := _) (v := ?_) rfl (by decide +kernel) (by decide +kernel) (by decide +kernel) (fun _ _ _ h => h) (Or.inl ⟨by rfl, ?_⟩) (by assumption) ?_; rotate_left; focus (intro w hSw; go_simp; all_goals with_reducible rfl); try simp only [Act.put, List.setIfInBounds_toArray, List.set_cons_zero, List.set_cons_succ])
        | (refine wpAnyH_take (i := 8) (oi := _) (v := ?_) rfl (by decide +kernel) (by decide +kernel) (by decide +kernel) (fun _ _ _ h => h) (Or.inl ⟨by rfl, ?_⟩) (by assumption) ?_; rotate_left; focus (intro w hSw; go_simp; all_goals with_reducible rfl); try simp only [Act.put, List.setIfInBounds_toArray, List.set_cons_zero, List.set_cons_succ])
        | (refine wpAnyH_take (i := 9) (oi := _) (v := ?_) rfl (by decide +kernel) (by decide +kernel) (by decide +kernel) (fun _ _ _ h => h) (Or.inl ⟨by rfl, ?_⟩) (by assumption) ?_; rotate_left; focus (intro w hSw; go_simp; all_goals with_reducible rfl); try simp only [Act.put, List.setIfInBounds_toArray, List.set_cons_zero, List.set_cons_succ])
        | (refine wpAnyH_take (i := 10) (oi := _) (v := ?_) rfl (by decide +kernel) (by decide +kernel) (by decide +kernel) (fun _ _ _ h => h) (Or.inl ⟨by rfl, ?_⟩) (by assumption) ?_; rotate_left; focus (intro w hSw; go_simp; all_goals with_reducible rfl); try simp only [Act.put, List.setIfInBounds_toArray, List.set_cons_zero, List.set_cons_succ])
        | (refine wpAnyH_take (i := 11) (oi := _) (v := ?_) rfl (by decide +kernel) (by decide +kernel) (by decide +kernel) (fun _ _ _ h => h) (Or.inl ⟨by rfl, ?_⟩) (by assumption) ?_; rotate_left; focus (intro w hSw; go_simp; all_goals with_reducible rfl); try simp only [Act.put, List.setIfInBounds_toArray, List.set_cons_zero, List.set_cons_succ])
        | refine wpAnyH_ready (rs := [0]) (by decide +kernel) (by simp) ?_
        | refine wpAnyH_ready (rs := [0, 2]) (by decide +kernel) (by simp) ?_
        | refine wpAnyH_ready (rs := [0, 2, 5]) (by decide +kernel) (by simp) ?_
        | refine wpAnyH_ready (rs := [0, 3]) (by decide +kernel) (by simp) ?_
        | refine wpAnyH_ready (rs := [0, 3, 5]) (by decide +kernel) (by simp) ?_
        | refine wpAnyH_ready (rs := [0, 5]) (by decide +kernel) (by simp) ?_
        | refine wpAnyH_ready (rs := [2]) (by decide +kernel) (by simp) ?_
        | refine wpAnyH_ready (rs := [2, 5]) (by decide +kernel) (by simp) ?_
        | refine wpAnyH_ready (rs := [3]) (by decide +kernel) (by simp) ?_
        | refine wpAnyH_ready (rs := [3, 5]) (by decide +kernel) (by simp) ?_
        | refine wpAnyH_ready (rs := [5]) (by decide +kernel) (by simp) ?_
        | exact hF
    case F =>
    refine wpAnyH_ready (rs := [12]) (by kernel_rfl) (by simp) ?_
    refine AllReadyH.cons (o := _) rfl (fun K hK => ?_) AllReadyH.nil
    go_simp
    refine (ML.out _ _ ⟨_, rfl, D1.out⟩ U1.out).mono ?_
    rintro r w3 ⟨a3, n3, c3, rfl, hv, hb⟩
    replace XC := Lib.hid (XC.out.below hb)
    replace B1 := Lib.hid (bl_thru B1.out (Nat.le_refl _) hb)
    have N3 := Lib.hid hv
    clear hv hb p0' p1' p2' q0 q1 q2
    obtain ⟨p0', p1', p2', q0, q1, q2⟩ := XC.out.cells
    refine hK.out _ _ trivial (fun hHeld => ?_)
    clear hK K
    try simp only [Act.put, List.setIfInBounds_toArray, List.set_cons_zero, List.set_cons_succ]
    refine wpAnyH_take (i := 13) (oi := _) (v := ?_) rfl (by kernel_rfl) (by kernel_rfl) (by kernel_rfl) (fun _ _ _ h => h) (Or.inl ⟨by rfl, ?_⟩) (by assumption) ?_
    rotate_left
    · intro w hSw; go_simp; all_goals with_reducible rfl
    try simp only [Act.put, List.setIfInBounds_toArray, List.set_cons_zero, List.set_cons_succ]
    refine wpAnyH_take (i := 14) (oi := _) (v := ?_) rfl (by kernel_rfl) (by kernel_rfl) (by kernel_rfl) (fun _ _ _ h => h) (Or.inl ⟨by rfl, ?_⟩) (by assumption) ?_
    rotate_left
    · intro w hSw; go_simp; all_goals with_reducible rfl
    try simp only [Act.put, List.setIfInBounds_toArray, List.set_cons_zero, List.set_cons_succ]
    refine wpAnyH_take (i := 15) (oi := _) (v := ?_) rfl (by kernel_rfl) (by kernel_rfl) (by kernel_rfl) (fun _ _ _ h => h) (Or.inl ⟨by rfl, ?_⟩) (by assumption) ?_
    rotate_left
    · intro w hSw; go_simp; all_goals with_reducible rfl
    try simp only [Act.put, List.setIfInBounds_toArray, List.set_cons_zero, List.set_cons_succ]
    refine wpAnyH_ready (rs := [16]) (by kernel_rfl) (by simp) ?_
    refine AllReadyH.cons (o := _) rfl (fun K hK => ?_) AllReadyH.nil
    go_simp
    refine hK.out _ _ trivial (fun hHeld => ?_)
    clear hK K
    try simp only [Act.put, List.setIfInBounds_toArray, List.set_cons_zero, List.set_cons_succ]
    refine wpAnyH_ready (rs := [17]) (by kernel_rfl) (by simp) ?_
    refine AllReadyH.cons (o := _) rfl (fun K hK => ?_) AllReadyH.nil
    go_simp
    refine hK.out _ _ trivial (fun hHeld => ?_)
    clear hK K
    try simp only [Act.put, List.setIfInBounds_toArray, List.set_cons_zero, List.set_cons_succ]
    refine wpAnyH_done (by kernel_rfl) ?_ _
    have N5 := Lib.hid (N3.out.setD (g' := R.neg) (ao' := a3) (n' := n3) (c' := c3) (e' := R.e) XC.out)
    have B5 := Lib.hid (bl_set3 B1.out hbs (.bool R.neg) (.slice a3 n3 c3) (.int .i64 R.e))
    have T5 := Lib.hid (H2.out.below B5.out)
    obtain ⟨r0, r1, r2, -, -, -⟩ := (XC.out.set3 (.bool R.neg) (.slice a3 n3 c3) (.int .i64 R.e)).cells
    go_wp2_with (go_at_call 87; refine (WR.out _ _ ⟨_, rfl, N5.out⟩ T5.out).mono ?_; rintro e w6 ⟨rfl, hb6⟩; have B6 := Lib.hid (bl_thru B5.out (Nat.le_refl _) hb6); clear hb6)
    go_ret3
    exact ⟨rfl, B6.out⟩
end Go.Proofs.YtofdjfdnckmmmaaGreatDoor
