/-
  SOME OF MY TEXTS in one: Pd Pf. Each says what it proves.
-/
import Derived.Test.YtjmmgffdagcflaaGreatDoorBp
import Derived.Test.YtjmmgffdagcflaaGreatDoorTi
import Derived.Test.YtjmmgffdagcflaaGreatDoorBa
import Derived.Test.YtjmmgffdagcflaaGreatDoorPl
set_option linter.unusedVariables false
set_option linter.unusedSimpArgs false
/-
  THE WALKS of prod.Sign, special, exact, Mul.
-/
namespace Go.Proofs.YtjmmgffdagcflaaGreatDoor
open Go.RowKit Nt Fm Fl

theorem ret_bool {a b : Bool} (h : a = b) : Ending.returned (.bool a) = .returned (.bool b) := by rw [h]
theorem and_top {a b : Nat} (ha : a < 2 ^ 64) (hb : b < 2 ^ 64) : (a ^^^ b) &&& 9223372036854775808 = if (9223372036854775808 ≤ a ↔ 9223372036854775808 ≤ b) then 0 else 9223372036854775808 := by
  have t : ∀ n : Nat, n < 2 ^ 64 → n.testBit 63 = decide (9223372036854775808 ≤ n) := by
    intro n hn
    rw [Nat.testBit_eq_decide_div_mod_eq]
    by_cases h : 9223372036854775808 ≤ n
    · rw [decide_eq_true h, decide_eq_true]; omega
    · rw [decide_eq_false h, decide_eq_false]; omega
  have e : (a ^^^ b) &&& 9223372036854775808 = if (a ^^^ b).testBit 63 then 9223372036854775808 else 0 := by
    apply Nat.eq_of_testBit_eq; intro i
    rw [Nat.testBit_and, show (9223372036854775808 : Nat) = 2 ^ 63 by decide, Nat.testBit_two_pow]
    by_cases hi : 63 = i
    · subst hi; cases h : (a ^^^ b).testBit 63
      · simp
      · rw [if_pos rfl, Nat.testBit_two_pow]; simp
    · cases h : (a ^^^ b).testBit 63
      · simp [hi]
      · rw [if_pos rfl, Nat.testBit_two_pow]; simp [hi]
  rw [e, Nat.testBit_xor, t a ha, t b hb]
  by_cases h1 : 9223372036854775808 ≤ a <;> by_cases h2 : 9223372036854775808 ≤ b <;> simp [h1, h2]
theorem and_sgn {x y : Int} (x0 : 0 ≤ x) (x1 : x ≤ 18446744073709551615) (y0 : 0 ≤ y) (y1 : y ≤ 18446744073709551615) : bits .and .u64 (bits .xor .u64 x y) 9223372036854775808 = sgn x y := by
  obtain ⟨a, rfl⟩ := Int.eq_ofNat_of_zero_le x0
  obtain ⟨b, rfl⟩ := Int.eq_ofNat_of_zero_le y0
  have ha : a < 2 ^ 64 := by omega
  have hb : b < 2 ^ 64 := by omega
  rw [u64_xor_nat a b (by omega) (by omega)]
  have hx : a ^^^ b < 2 ^ 64 := Nat.xor_lt_two_pow ha hb
  have h := u64_and_nat (a ^^^ b) 9223372036854775808 (by omega) (by decide)
  rw [show ((9223372036854775808 : Nat) : Int) = 9223372036854775808 from rfl] at h
  rw [h, and_top ha hb]
  unfold sgn fng
  by_cases h1 : 9223372036854775808 ≤ a <;> by_cases h2 : 9223372036854775808 ≤ b
  · rw [if_pos (by omega), if_pos (by rw [decide_eq_true (by omega), decide_eq_true (by omega)])]; rfl
  · rw [if_neg (by omega), if_neg (by rw [decide_eq_true (by omega), decide_eq_false (by omega)]; decide)]; rfl
  · rw [if_neg (by omega), if_neg (by rw [decide_eq_false (by omega), decide_eq_true (by omega)]; decide)]; rfl
  · rw [if_pos (by omega), if_pos (by rw [decide_eq_false (by omega), decide_eq_false (by omega)])]; rfl
theorem psign_any (x y : Int) (x0 : 0 ≤ x) (x1 : x ≤ 18446744073709551615) (y0 : 0 ≤ y) (y1 : y ≤ 18446744073709551615) (w : World) :
    Calls Tryz.prog 41 #[.int .u64 x, .int .u64 y] w fun e w' => e = .returned (.int .u64 (sgn x y)) ∧ w = w' := by
  have e1 := and_sgn x0 x1 y0 y1
  go_enter Tryz.func41, Tryz.ntmps41
  go_wp2
  go_ret
  exact ⟨rfl, rfl⟩
def spVa (a b s : Int) : Int := if a = 5 ∨ b = 5 ∨ (a = 4 ∧ b = 1) ∨ (a = 1 ∧ b = 4) then 9221120237041090560 else if a = 4 ∨ b = 4 then 9218868437227405312 + s else 0
def spBa (a b : Int) : Bool := decide (a = 5) || (decide (b = 5) || (decide (a = 4) || decide (b = 4)))
theorem ret_ub {a b : Int} {c d : Bool} (h : a = b) (k : c = d) : Ending.returned (.tuple #[.int .u64 a, .bool c]) = .returned (.tuple #[.int .u64 b, .bool d]) := by rw [h, k]
theorem or_inf_sgn (x y : Int) : bits .or .u64 9218868437227405312 (sgn x y) = 9218868437227405312 + sgn x y := by
  unfold sgn; split <;> decide +kernel
set_option maxHeartbeats 4000000 in
theorem special_any (x y : Int) (x0 : 0 ≤ x) (x1 : x ≤ 18446744073709551615) (y0 : 0 ≤ y) (y1 : y ≤ 18446744073709551615) (w : World) :
    Calls Tryz.prog 35 #[.int .u64 x, .int .u64 y] w fun e w' => e = .returned (.tuple #[.int .u64 (spV x y), .bool (spB x y)]) ∧ w = w' := by
  have e1 : spV x y = spVa (fcls x) (fcls y) (sgn x y) := rfl
  have e2 : spB x y = spBa (fcls x) (fcls y) := rfl
  rw [e1, e2]
  have h3 := or_inf_sgn x y
  have CX := Lib.hid (fun w' => class_any x x0 x1 w')
  have CY := Lib.hid (fun w' => class_any y y0 y1 w')
  have SG := Lib.hid (fun w' => psign_any x y x0 x1 y0 y1 w')
  clear e1 e2
  generalize sgn x y = s at *
  generalize fcls x = a at *
  generalize fcls y = b at *
  go_enter Tryz.func35, Tryz.ntmps35
  go_wp2_with (first
    | (go_at_call 16; first | ((with_reducible refine (CX.out _).mono ?_); rintro e w' ⟨rfl, rfl⟩) | ((with_reducible refine (CY.out _).mono ?_); rintro e w' ⟨rfl, rfl⟩))
    | (go_at_call 41; (with_reducible refine (SG.out _).mono ?_); rintro e w' ⟨rfl, rfl⟩))
  all_goals
    go_ret2
    refine ⟨ret_ub ?_ ?_, rfl⟩
  all_goals (clear CX CY SG; try simp only [beq_iff_eq, beq_eq_false_iff_ne, ne_eq] at *)
  all_goals first
    | (unfold spVa; first | rw [if_pos (by omega)] | rw [if_neg (by omega), if_pos (by omega)] | rw [if_neg (by omega), if_neg (by omega)])
    | (unfold spBa; simp <;> omega)
set_option maxHeartbeats 4000000 in
theorem exactp_any (x y : Int) (x0 : 0 ≤ x) (x1 : x ≤ 18446744073709551615) (y0 : 0 ≤ y) (y1 : y ≤ 18446744073709551615) (w : World) (hT : Tab w) :
    Calls Tryz.prog 37 #[.int .u64 x, .int .u64 y] w (RetD w (prD x y)) := by
  obtain ⟨f1, f2, f3, f4, -⟩ := valD_facts x x0 x1
  obtain ⟨g1, g2, g3, g4, -⟩ := valD_facts y y0 y1
  have hx := fun w' h => value_any x x0 x1 w' h
  have hy := fun w' h => value_any y y0 y1 w' h
  have hp := fun v1 v2 w' h0 h1 h2 => dtimes_any v1 v2 (valD x) (valD y) 53 w' h0 h1 h2 f2 g2 (by omega) (by omega) (by omega) (by omega) (by omega)
  unfold prD
  generalize times (valD x) (valD y) = P at *
  generalize valD x = vx at *
  generalize valD y = vy at *
  have HX := Lib.hid hx
  have HY := Lib.hid hy
  have HP := Lib.hid hp
  have HT := Lib.hid hT
  clear hx hy hp hT f1 f2 f3 f4 g1 g2 g3 g4
  go_enter Tryz.func37, Tryz.ntmps37
  go_wp2_with fail
  refine (HX.out _ (HT.out.alloc _)).mono ?_
  rintro r w1 ⟨v1, rfl, ⟨s1, rfl, h1⟩, hb⟩
  obtain ⟨a1, n1, c1, rfl⟩ := h1.shape
  have B1 : Hid (Below w.heap.size w w1) := Lib.hid (bl_thru ((Below.refl w.heap.size w).alloc (Nat.le_refl _) _) (Nat.le_refl _) hb)
  have Z1 := Lib.hid ((Box.new w _ _ _ _).below hb)
  have V1 := Lib.hid h1
  clear h1 hb
  go_wp2_with fail
  refine (HY.out _ (HT.out.below B1.out)).mono ?_
  rintro r w2 ⟨v2, rfl, ⟨s2, rfl, h2⟩, hb⟩
  obtain ⟨a2, n2, c2, rfl⟩ := h2.shape
  have B2 : Hid (Below w.heap.size w w2) := Lib.hid (bl_thru B1.out (Nat.le_refl _) hb)
  have Z2 := Lib.hid (Z1.out.below hb)
  have V2 := Lib.hid h2
  have V1' := Lib.hid (V1.out.below hb)
  clear h2 hb
  go_wp2_with fail
  refine (HP.out _ _ _ (HT.out.below B2.out) ⟨_, rfl, V1'.out⟩ ⟨_, rfl, V2.out⟩).mono ?_
  rintro r w3 ⟨v3, rfl, ⟨s3, rfl, h3⟩, hb⟩
  obtain ⟨a3, n3, c3, rfl⟩ := h3.shape
  have B3 : Hid (Below w.heap.size w w3) := Lib.hid (bl_thru B2.out (Nat.le_refl _) hb)
  have Z3 := Lib.hid (Z2.out.below hb)
  have V3 := Lib.hid h3
  obtain ⟨s0, s1, s2, t0, t1, t2⟩ := Z3.out.cells
  clear h3 hb
  go_wp2
  refine bodyPost_ret (v := .agg #[.bool P.neg, .slice a3 n3 c3, .int .i64 P.e]) (by simp [results, Tryz.results37, go_sem, s0, s1, s2]) rfl ?_
  exact ⟨_, rfl, ⟨_, rfl, V3.out.setD Z3.out⟩, bl_set3 B3.out (Nat.le_refl _) _ _ _⟩
/-- how great a product is -/
theorem prD_bd (x y : Int) (x0 : 0 ≤ x) (x1 : x ≤ 18446744073709551615) (y0 : 0 ≤ y) (y1 : y ≤ 18446744073709551615) : (prD x y).m < 2 ^ 106 ∧ -3000 ≤ (prD x y).e ∧ (prD x y).e ≤ 3000 := by
  obtain ⟨f1, f2, f3, f4, -⟩ := valD_facts x x0 x1
  obtain ⟨g1, g2, g3, g4, -⟩ := valD_facts y y0 y1
  have h : prD x y = norm ((valD x).neg != (valD y).neg) ((valD x).m * (valD y).m) ((valD x).e + (valD y).e) := (times_norm _ _).symm
  have hlt : (valD x).m * (valD y).m < 2 ^ 106 := by
    rw [show (106 : Nat) = 53 + 53 from rfl, Nat.pow_add]; exact Nat.mul_lt_mul'' f2 g2
  obtain ⟨b1, b2⟩ := norm_bd ((valD x).neg != (valD y).neg) ((valD x).e + (valD y).e) hlt
  rw [h]
  refine ⟨by omega, ?_⟩
  rcases b2 with b2 | b2
  · rw [b2]; exact ⟨by decide, by decide⟩
  · omega
theorem muV_no {x y mode : Int} (hk : knownB mode = false) : muV x y mode = 0 ∧ muC x y mode = false ∧ adE mode = 1 := by unfold muV muC adE; rw [hk]; exact ⟨rfl, rfl, rfl⟩
theorem muV_yes {x y mode : Int} (hk : knownB mode = true) : muV x y mode = muV0 x y mode ∧ muC x y mode = muC0 x y ∧ adE mode = 0 := by unfold muV muC adE; rw [hk]; exact ⟨rfl, rfl, rfl⟩
set_option maxHeartbeats 4000000 in
theorem pmul_any (x y mode : Int) (x0 : 0 ≤ x) (x1 : x ≤ 18446744073709551615) (y0 : 0 ≤ y) (y1 : y ≤ 18446744073709551615) (w : World) (hT : Tab w) :
    Calls Tryz.prog 44 #[.int .u64 x, .int .u64 y, .int .i64 mode] w fun e w' => e = .returned (.tuple #[.int .u64 (muV x y mode), .bool (muC x y mode), .int .i64 (adE mode)]) ∧ Below w.heap.size w w' := by
  cases hk : knownB mode
  · obtain ⟨e1, e2, e3⟩ := @muV_no x y mode hk
    rw [e1, e2, e3]; clear e1 e2 e3 hT
    go_enter Tryz.func44, Tryz.ntmps44
    go_wp2_with (go_at_call 34; refine (known_any _ _).mono ?_; rintro e w' ⟨rfl, rfl⟩)
    go_ret3
    exact ⟨rfl, Below.refl _ _⟩
  · obtain ⟨e1, e2, e3⟩ := @muV_yes x y mode hk
    rw [e1, e2, e3]; clear e1 e2 e3
    have hm : 0 ≤ mode ∧ mode ≤ 4 := by unfold knownB at hk; simpa using hk
    have hsp := fun w' => special_any x y x0 x1 y0 y1 w'
    have hex := fun w' h => exactp_any x y x0 x1 y0 y1 w' h
    have hsg := fun w' => psign_any x y x0 x1 y0 y1 w'
    obtain ⟨p1, p2, p3⟩ := prD_bd x y x0 x1 y0 y1
    have hz := nf_e (prD_nf x y)
    have hnum := fun v w' h => number_any v (prD x y) 106 mode w' h p1 (by omega) (by omega) (by omega) hz hm.1 hm.2
    have hcase : (spB x y = true ∧ muV0 x y mode = spV x y ∧ muC0 x y = false) ∨ (spB x y = false ∧ (prD x y).m = 0 ∧ muV0 x y mode = sgn x y ∧ muC0 x y = false) ∨
        (spB x y = false ∧ (prD x y).m ≠ 0 ∧ muV0 x y mode = numR (prD x y) mode ∧ muC0 x y = numC (prD x y)) := by
      unfold muV0 muC0
      cases spB x y
      · by_cases h : (prD x y).m = 0 <;> simp [h]
      · simp
    generalize muV0 x y mode = V at *
    generalize muC0 x y = C at *
    generalize spV x y = sv at *
    generalize spB x y = sb at *
    generalize sgn x y = sg at *
    generalize numR (prD x y) mode = nR at *
    generalize numC (prD x y) = nC at *
    generalize prD x y = P at *
    have HSP := Lib.hid hsp
    have HEX := Lib.hid hex
    have HSG := Lib.hid hsg
    have HNUM := Lib.hid hnum
    have HT := Lib.hid hT
    have HK : Hid (knownB mode = true) := Lib.hid hk
    clear hsp hex hsg hnum hT hm p1 p2 p3 hz
    rcases hcase with ⟨rfl, rfl, rfl⟩ | ⟨rfl, hm, rfl, rfl⟩ | ⟨rfl, hm, rfl, rfl⟩
    · go_enter Tryz.func44, Tryz.ntmps44
      go_wp2_with (first | (go_at_call 34; refine (known_any _ _).mono ?_; rintro e w' ⟨rfl, rfl⟩) | (go_at_call 35; (with_reducible refine (HSP.out _).mono ?_); rintro e w' ⟨rfl, rfl⟩))
      go_ret3
      exact ⟨rfl, Below.refl _ _⟩
    all_goals
      have HM := Lib.hid hm
      clear hm
      go_enter Tryz.func44, Tryz.ntmps44
      go_wp2_with (first | (go_at_call 34; refine (known_any _ _).mono ?_; rintro e w' ⟨rfl, rfl⟩) | (go_at_call 35; (with_reducible refine (HSP.out _).mono ?_); rintro e w' ⟨rfl, rfl⟩))
      refine (HEX.out _ HT.out).mono ?_
      rintro r w1 ⟨v1, rfl, ⟨s1, rfl, h1⟩, hb⟩
      obtain ⟨a1, n1, c1, rfl, l1, l2, lz⟩ := nv_len h1
      have B1 := Lib.hid hb
      have V1 := Lib.hid h1
      have X1 := Lib.hid (Box.new w1 (.bool P.neg) (.slice a1 n1 c1) (.int .i64 P.e) 40)
      clear h1 hb
    · have hn : n1 = 0 := by have := HM.out; omega
      subst hn
      clear lz
      go_wp2_with (go_at_call 41; (with_reducible refine (HSG.out _).mono ?_); rintro e w' ⟨rfl, rfl⟩)
      go_ret3
      exact ⟨rfl, B1.out.alloc B1.out.size _⟩
    · have hn : 1 ≤ n1 := by have := HM.out; omega
      clear lz
      obtain ⟨q0, q1, q2, g0, g1, g2⟩ := X1.out.cells
      go_wp2_with fail
      refine (HNUM.out _ _ ⟨_, rfl, V1.out.alloc _⟩).mono ?_
      rintro r w2 ⟨rfl, hb⟩
      have B2 := Lib.hid (bl_thru (B1.out.alloc B1.out.size _) (Nat.le_refl _) hb)
      clear hb
      go_wp2
      go_ret3
      exact ⟨rfl, B2.out⟩
end Go.Proofs.YtjmmgffdagcflaaGreatDoor

/-
  PLAIN: a product and a number: how great.
-/
namespace Go.Proofs.YtjmmgffdagcflaaGreatDoor
open Go.RowKit Nt Fm Fl

theorem fmV_no {x y z mode : Int} (hk : knownB mode = false) : fmV x y z mode = 0 ∧ fmC x y z mode = false ∧ adE mode = 1 := by unfold fmV fmC adE; rw [hk]; exact ⟨rfl, rfl, rfl⟩
theorem fmV_yes {x y z mode : Int} (hk : knownB mode = true) : fmV x y z mode = fmV0 x y z mode ∧ fmC x y z mode = fmC0 x y z ∧ adE mode = 0 := by unfold fmV fmC adE; rw [hk]; exact ⟨rfl, rfl, rfl⟩
theorem adV_yes {x y mode : Int} (hk : knownB mode = true) : adV x y mode = allV [x, y] mode ∧ adC x y mode = allC [x, y] := by
  unfold adV adC; rw [hk]; exact ⟨rfl, rfl⟩
theorem fsD_bd (x y z : Int) (x0 : 0 ≤ x) (x1 : x ≤ 18446744073709551615) (y0 : 0 ≤ y) (y1 : y ≤ 18446744073709551615) (z0 : 0 ≤ z) (z1 : z ≤ 18446744073709551615) :
    ∃ q, q ≤ 10000 ∧ (fsD x y z).m < 2 ^ q ∧ -4000 ≤ (fsD x y z).e ∧ (fsD x y z).e ≤ 14000 := by
  obtain ⟨p1, p2, p3⟩ := prD_bd x y x0 x1 y0 y1
  obtain ⟨f1, f2, f3, f4, -⟩ := valD_facts z z0 z1
  unfold fsD
  generalize prD x y = P at *
  generalize valD z = V at *
  obtain ⟨T, hT⟩ : ∃ T : Nat, T = 3000 := ⟨_, rfl⟩
  have e1 : 0 ≤ P.e + (T : Int) := by omega
  have e2 : 0 ≤ V.e + (T : Int) := by omega
  have hv := plus_vl P V T e1 e2
  have he := plus_eT e1 e2
  have hn := plus_Nf P V
  have hb : ((plus P V).vl T).natAbs < 2 ^ (T + 6108) := by
    rw [hv]
    have a : (P.vl T).natAbs < 2 ^ (T + 6107) := by
      rw [vl_natAbs, show T + 6107 = 106 + (T + 6001) by omega, Nat.pow_add]
      exact Nat.lt_of_lt_of_le (Nat.mul_lt_mul_of_pos_right p1 (Nat.two_pow_pos _)) (Nat.mul_le_mul_left _ (Nat.pow_le_pow_right (by decide) (by omega)))
    have b : (V.vl T).natAbs < 2 ^ (T + 6107) := by
      rw [vl_natAbs, show T + 6107 = 53 + (T + 6054) by omega, Nat.pow_add]
      exact Nat.lt_of_lt_of_le (Nat.mul_lt_mul_of_pos_right f2 (Nat.two_pow_pos _)) (Nat.mul_le_mul_left _ (Nat.pow_le_pow_right (by decide) (by omega)))
    have c : 2 ^ (T + 6108) = 2 * 2 ^ (T + 6107) := by rw [show T + 6108 = (T + 6107) + 1 by omega, Nat.pow_succ, Nat.mul_comm]
    rw [c]
    generalize 2 ^ (T + 6107) = Z at *
    omega
  rw [vl_natAbs] at hb
  generalize plus P V = S at *
  refine ⟨T + 6108, by omega, ?_, by omega, ?_⟩
  · have := Nat.two_pow_pos (S.e + (T : Int)).toNat
    exact Nat.lt_of_le_of_lt (Nat.le_mul_of_pos_right _ this) hb
  · by_cases hz : S.m = 0
    · rcases hn with h | h
      · rw [h]; decide
      · omega
    · have : 2 ^ (S.e + (T : Int)).toNat ≤ S.m * 2 ^ (S.e + (T : Int)).toNat := Nat.le_mul_of_pos_left _ (by omega)
      have := (Nat.pow_lt_pow_iff_right (by decide : 1 < 2)).1 (Nat.lt_of_le_of_lt this hb)
      omega
def zeV (b : Bool) : Int := if b = true then 9223372036854775808 else 0
theorem zero_any' (neg : Bool) (w : World) : Calls Tryz.prog 42 #[.bool neg] w fun e w' => e = .returned (.int .u64 (zeV neg)) ∧ w = w' := zero_any neg w
end Go.Proofs.YtjmmgffdagcflaaGreatDoor
