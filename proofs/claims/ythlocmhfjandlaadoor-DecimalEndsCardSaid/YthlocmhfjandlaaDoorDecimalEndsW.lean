/-
  THE WALK of the law DecimalEnds.
-/
import Derived.Test.YthlocmhfjandlaaDoorLk
import Derived.Test.YthlocmhfjandlaaDoorLb
set_option linter.unusedVariables false
set_option linter.unusedSimpArgs false
namespace Go.Proofs.YthlocmhfjandlaaDoor
open Go.RowKit Nt Fm Fl

theorem fxE_hv {x places mode : Int} (h : fxE x places mode = 0) : hasV x = true := by
  rcases fxE_cases x places mode with ⟨-, k⟩ | ⟨-, -, k⟩ | ⟨h1, -, -⟩
  · omega
  · omega
  · exact h1
theorem fxS_le {x : Int} (x0 : 0 ≤ x) (x1 : x ≤ 18446744073709551615) (places mode : Int) : (fxS x places mode).length ≤ 100000 := by
  unfold fxS
  by_cases hE : fxE x places mode = 0
  · rw [if_pos hE]
    rcases fxE_cases x places mode with ⟨-, h⟩ | ⟨-, -, h⟩ | ⟨-, ⟨-, p0, p1⟩, -⟩
    · omega
    · omega
    · obtain ⟨K0, hK0, hK1⟩ : ∃ K0, 9000 ≤ K0 ∧ K0 ≤ 9000 := ⟨9000, by omega, by omega⟩
      obtain ⟨b1, b2⟩ := vd_bd x0 x1 (t := places) (by omega) (by omega) hK0
      have hq := dQ_lt (valD x) places mode b1
      have hql := dec_len_two (by omega) hq
      have hpl := pt_len_le (dQ (valD x) places mode) places.toNat (K0 + 1) hql
      have hsl := sgS_len x
      rw [List.length_append]; omega
  · rw [if_neg hE]; simp
theorem dgt46 {l : List UInt8} (h : ∀ c ∈ l, dgt c) : (46 : UInt8) ∉ l := fun hm => (dgt_not (h 46 hm)).1 rfl
theorem sgS46 (x : Int) : (46 : UInt8) ∉ sgS x := by
  unfold sgS; split <;> simp
/-- a text with a point, at the point -/
theorem pt_parts (q p : Nat) (hp : p ≠ 0) : ∃ a b, pt (Lib.decDigits q) p = a ++ 46 :: b ∧ (46 : UInt8) ∉ a ∧ b.length = p := by
  refine ⟨_, _, by rw [pt_pad, if_neg hp], dgt46 fun c hc => padK_dgt _ _ c (List.mem_of_mem_take hc), ?_⟩
  have := padK_len (p + 1) q
  rw [List.length_drop]; omega
/-- the law: what stands behind the point, and noughts -/
theorem ends_law {x places : Int} (x0 : 0 ≤ x) (x1 : x ≤ 18446744073709551615) (he : exE x = 0) (hf : fxE x places 0 = 0) :
    ∃ a b : List UInt8, (46 : UInt8) ∉ a ∧ ((exS x = a ++ 46 :: b ∧ 1 ≤ b.length) ∨ (exS x = a ∧ b = [])) ∧ fxC x places 0 = decide (places < (b.length : Int)) ∧
      ((b.length : Int) ≤ places → ∃ j : Nat, places - (b.length : Int) = (j : Int) ∧ ((b ≠ [] → fxS x places 0 = exS x ++ List.replicate j 48) ∧ (b = [] → 0 < places → fxS x places 0 = exS x ++ [46] ++ List.replicate j 48) ∧ (b = [] → ¬ 0 < places → fxS x places 0 = exS x ++ List.replicate j 48))) := by
  have hv : hasV x = true := fxE_hv hf
  obtain ⟨-, -, k⟩ | ⟨-, -, k⟩ | ⟨-, ⟨-, p0, p1⟩, -⟩ : (hasV x = false ∧ True ∧ fxE x places 0 = 4) ∨ (hasV x = true ∧ True ∧ fxE x places 0 = 1) ∨ (hasV x = true ∧ ((0 ≤ (0 : Int) ∧ (0 : Int) ≤ 4) ∧ 0 ≤ places ∧ places ≤ 1100) ∧ fxE x places 0 = 0) := by
    rcases fxE_cases x places 0 with ⟨a, b⟩ | ⟨a, b, c⟩ | h
    · exact Or.inl ⟨a, trivial, b⟩
    · exact Or.inr (Or.inl ⟨a, trivial, c⟩)
    · exact Or.inr (Or.inr h)
  · omega
  · omega
  obtain ⟨n, rfl⟩ := Int.eq_ofNat_of_zero_le p0
  have hN := (valD_facts x x0 x1).1
  have hex : exS x = sgS x ++ pt (Lib.decDigits (qA (valD x))) (pl (valD x)) := by unfold exS; rw [if_pos hv]
  have hfx : fxS x (n : Int) 0 = sgS x ++ pt (Lib.decDigits (dQ (valD x) (n : Int) 0)) n := by unfold fxS; rw [if_pos hf, Int.toNat_natCast]
  have hfc : fxC x (n : Int) 0 = dC (valD x) (n : Int) := by unfold fxC; rw [hf]; rfl
  have key : ∀ L : Nat, L = pl (valD x) → fxC x (n : Int) 0 = decide ((n : Int) < (L : Int)) := by
    intro L hL
    rw [hfc]
    by_cases h : n < pl (valD x)
    · rw [dC_less hN h, decide_eq_true (by omega)]
    · obtain ⟨j, hj⟩ : ∃ j, n = pl (valD x) + j := ⟨n - pl (valD x), by omega⟩
      rw [hj, (dQ_more (valD x) j 0).2, decide_eq_false (by omega)]
  have tens : ∀ j : Nat, n = pl (valD x) + j → fxS x (n : Int) 0 = exS x ++ (if pl (valD x) = 0 ∧ 0 < j then [46] else []) ++ List.replicate j 48 := by
    intro j hj
    rw [hfx, hex, hj, (dQ_more (valD x) j 0).1, pt_tens]
    simp
  by_cases hp : pl (valD x) = 0
  · refine ⟨exS x, [], ?_, Or.inr ⟨rfl, rfl⟩, key 0 hp.symm, fun h => ⟨n, by simp, ?_, ?_, ?_⟩⟩
    · rw [hex, hp]
      intro hm
      rw [List.mem_append] at hm
      rcases hm with hm | hm
      · exact sgS46 x hm
      · rw [pt_pad, if_pos rfl] at hm; exact dgt46 (dec_dgt _) hm
    · intro h; exact absurd rfl h
    · intro _ hpos
      rw [tens n (by omega), if_pos ⟨hp, by omega⟩]
    · intro _ hpos
      rw [tens n (by omega), if_neg (by omega)]; simp
  · obtain ⟨a, b, e1, e2, e3⟩ := pt_parts (qA (valD x)) (pl (valD x)) hp
    refine ⟨sgS x ++ a, b, ?_, Or.inl ⟨by rw [hex, e1]; simp, by omega⟩, key b.length e3, fun h => ?_⟩
    · intro hm
      rw [List.mem_append] at hm
      rcases hm with hm | hm
      · exact sgS46 x hm
      · exact e2 hm
    · obtain ⟨j, hj⟩ : ∃ j, n = pl (valD x) + j := ⟨n - pl (valD x), by omega⟩
      refine ⟨j, by omega, ?_, ?_, ?_⟩
      · intro _
        rw [tens j hj, if_neg (by omega)]; simp
      · intro h0; rw [h0] at e3; simp at e3; omega
      · intro h0; rw [h0] at e3; simp at e3; omega
theorem exS_len {x : Int} (x0 : 0 ≤ x) (x1 : x ≤ 18446744073709551615) : (exS x).length ≤ 100000 := by
  unfold exS
  split
  · obtain ⟨K0, hK0, hK1⟩ : ∃ K0, 9000 ≤ K0 ∧ K0 ≤ 9000 := ⟨9000, by omega, by omega⟩
    obtain ⟨f1, f2, f3, f4, f5⟩ := valD_facts x x0 x1
    have hpl2 : pl (valD x) ≤ 1074 := by unfold pl; omega
    obtain ⟨b1, b2⟩ := vd_bd x0 x1 (t := ((pl (valD x) : Nat) : Int)) (by omega) (by omega) hK0
    have hm := dQ_more (valD x) 0 3
    rw [Nat.add_zero, Nat.pow_zero, Nat.mul_one] at hm
    have hq := dQ_lt (valD x) ((pl (valD x) : Nat) : Int) 3 b1
    rw [hm.1] at hq
    have hql := dec_len_two (by omega) hq
    have hpl := pt_len_le (qA (valD x)) (pl (valD x)) (K0 + 1) hql
    have hsl := sgS_len x
    rw [List.length_append]; omega
  · simp
theorem ex_fx {x places : Int} (he : exE x ≠ 0) : fxE x places 0 = 4 ∧ fxS x places 0 = [] := by
  have hv : hasV x = false := by
    cases h : hasV x
    · rfl
    · exfalso; apply he; unfold exE; rw [if_pos h]
  have h1 : fxE x places 0 = 4 := by unfold fxE; rw [hv]; rfl
  refine ⟨h1, ?_⟩
  unfold fxS; rw [h1]; rfl
set_option maxRecDepth 100000 in
set_option maxHeartbeats 8000000 in
theorem walkDecimalEnds (x : Int) (x0 : 0 ≤ x) (x1 : x ≤ 18446744073709551615) (places : Int) (places0 : -9223372036854775808 ≤ places) (places1 : places ≤ 9223372036854775807) (w : World) (hT : Tab w) (hT10 : Tab10 w) :
    Calls Tryd.prog 9 #[.int .u64 x, .int .i64 places] w fun e w' => e = .returned (.bool true) ∧ Below w.heap.size w w' := by
  have EX := Lib.hid (fun w' h1 h2 => exact_any x x0 x1 w' h1 h2)
  have FX := Lib.hid (fun w' h1 h2 => fixed_any x places 0 x0 x1 w' h1 h2)
  have H0 := Lib.hid hT
  have T0 := Lib.hid hT10
  have B : Hid (Below w.heap.size w w) := Lib.hid (Below.refl w.heap.size w)
  unfold RetSE at EX
  unfold RetSBE at FX
  have l1 := exS_len x0 x1
  have l2 := fxS_le x0 x1 places 0
  by_cases he : exE x = 0
  · by_cases hf : fxE x places 0 = 0
    · obtain ⟨a, b, h46, hab, hc, htail⟩ := ends_law x0 x1 he hf
      rw [he] at EX
      rw [hf, hc] at FX
      generalize exS x = s at *
      generalize fxS x places 0 = t at *
      obtain ⟨S, hS⟩ : ∃ S : ByteArray, S = ⟨s.toArray⟩ := ⟨_, rfl⟩
      obtain ⟨T, hTt⟩ : ∃ T : ByteArray, T = ⟨t.toArray⟩ := ⟨_, rfl⟩
      have zS : S.size ≤ 100000 := by
        have : S.size = s.length := by rw [hS]; rfl
        omega
      rw [← hS] at EX
      rw [← hTt] at FX
      obtain ⟨BB, hB⟩ : ∃ BB : ByteArray, BB = ⟨b.toArray⟩ := ⟨_, rfl⟩
      have zB : BB.size = b.length := by rw [hB]; rfl
      have CUT : Hid (∃ (A : ByteArray) (f : Bool), ∀ w', Calls Tryd.prog 29 #[.string S, .string ⟨#[46]⟩] w' fun e w2 => e = .returned (.tuple #[.string A, .string BB, .bool f]) ∧ ∃ n, w2 = w'.drewN n) := Lib.hid (by
        rcases hab with ⟨e, -⟩ | ⟨e, e2⟩
        · exact ⟨⟨a.toArray⟩, true, fun w' => by rw [hB]; exact cut_hit_any a b 46 h46 S (by rw [hS, e]) w' (by omega)⟩
        · exact ⟨S, false, fun w' => by rw [hB, e2]; exact cut_miss_any a 46 h46 S (by rw [hS, e]) w'⟩)
      have CON : Hid (∀ w', Calls Tryd.prog 30 #[.string S, .string ⟨#[46]⟩] w' fun e w2 => e = .returned (.bool (decide (1 ≤ b.length))) ∧ w2 = w') := Lib.hid (fun w' => by
        have h := contains_any S 46 w'
        have e3 : decide (0 ≤ Lib.indexByte S.data.toList 46) = decide (1 ≤ b.length) := by
          rcases hab with ⟨e, h1⟩ | ⟨e, e2⟩
          · rw [hS, e]; show decide (0 ≤ Lib.indexByte (a ++ 46 :: b) 46) = _
            rw [ib_hit a b h46, decide_eq_true (by omega), decide_eq_true h1]
          · rw [hS, e, e2]; show decide (0 ≤ Lib.indexByte a 46) = _
            rw [ib_miss a h46]; rfl
        rw [e3] at h; exact h)
      obtain ⟨A, f, CUT2⟩ := CUT.out
      have CU := Lib.hid CUT2
      clear CUT CUT2
      obtain ⟨nb, hnb⟩ : ∃ nb, nb = b.length := ⟨_, rfl⟩
      rw [← hnb] at zB hc FX CON htail
      by_cases hlt : places < (nb : Int)
      · rw [decide_eq_true hlt] at FX
        clear hc htail hab h46 l1 l2 hS hTt hB hT hT10 CON
        go_enter Tryd.func9, Tryd.ntmps9
        go_wp2_with (first
          | (go_at_call 28; (refine (EX.out _ (H0.out.below (by have := B.out; have := B.out.size; first | exact B.out | go_grown)) (T0.out.below (by have := B.out; have := B.out.size; first | exact B.out | go_grown))).mono ?_); rintro r w1 ⟨rfl, hb⟩; replace B := Lib.hid (bl_thru B.out (Nat.le_refl _) hb); clear hb)
          | (go_at_call 24; (refine (FX.out _ (H0.out.below (by have := B.out; have := B.out.size; first | exact B.out | go_grown)) (T0.out.below (by have := B.out; have := B.out.size; first | exact B.out | go_grown))).mono ?_); rintro r w1 ⟨rfl, hb⟩; replace B := Lib.hid (bl_thru B.out (Nat.le_refl _) hb); clear hb)
          | (go_at_call 25; (refine (decimalLives_any _ (H0.out.below (by have := B.out; have := B.out.size; first | exact B.out | go_grown)) (T0.out.below (by have := B.out; have := B.out.size; first | exact B.out | go_grown))).mono ?_); rintro r w1 ⟨rfl, hb⟩; replace B := Lib.hid (bl_thru B.out (Nat.le_refl _) hb); clear hb)
          | (go_at_call 16; first | ((with_reducible refine (ok_new2 _ _ _ _ (by simp)).mono ?_); rintro e w' ⟨rfl, rfl⟩))
          | (go_at_call 29; (refine (CU.out _).mono ?_); rintro r w1 ⟨rfl, nw, rfl⟩))
        all_goals first
          | (go_ret; refine ⟨rfl, ?_⟩; have := B.out; have := B.out.size; first | (go_grown; done) | exact below_to_drewN (B.out.alloc B.out.size _))
          | (exfalso; simp_all [ok2]; done)
          | trace_state
      · rw [decide_eq_false hlt] at FX
        obtain ⟨j, hj, k1, k2, k3⟩ := htail (by omega)
        have hpl : places ≤ 1100 := by
          rcases fxE_cases x places 0 with ⟨-, k⟩ | ⟨-, -, k⟩ | ⟨-, ⟨-, -, k⟩, -⟩
          · omega
          · omega
          · exact k
        have RP := Lib.hid (fun X w' (h : X = ((j : Nat) : Int)) => rep_any j X h (by omega) w')
        obtain ⟨Z, hZ⟩ : ∃ Z : ByteArray, Z = ⟨(List.replicate j (48 : UInt8)).toArray⟩ := ⟨_, rfl⟩
        rw [← hZ] at RP
        have zZ : Z.size ≤ 2000 := by
          have : Z.size = j := by rw [hZ]; simp [ByteArray.size]
          omega
        by_cases h1 : 1 ≤ nb
        · rw [decide_eq_true h1] at CON
          have hT2 : T = S ++ Z := by
            rw [hTt, hS, hZ, k1 (by intro h0; rw [h0] at hnb; simp at hnb; omega), ba_app _ _ rfl rfl]
          have heq : (T.toList == (S ++ Z).toList) = true := by rw [hT2]; simp
          clear hc htail hab h46 l1 l2 hS hTt hB hT hT10 k1 k2 k3 hZ hT2 hf he
          go_enter Tryd.func9, Tryd.ntmps9
          go_wp2_with (first
            | (go_at_call 28; (refine (EX.out _ (H0.out.below (by have := B.out; have := B.out.size; first | exact B.out | go_grown)) (T0.out.below (by have := B.out; have := B.out.size; first | exact B.out | go_grown))).mono ?_); rintro r w1 ⟨rfl, hb⟩; replace B := Lib.hid (bl_thru B.out (Nat.le_refl _) hb); clear hb)
            | (go_at_call 24; (refine (FX.out _ (H0.out.below (by have := B.out; have := B.out.size; first | exact B.out | go_grown)) (T0.out.below (by have := B.out; have := B.out.size; first | exact B.out | go_grown))).mono ?_); rintro r w1 ⟨rfl, hb⟩; replace B := Lib.hid (bl_thru B.out (Nat.le_refl _) hb); clear hb)
            | (go_at_call 25; (refine (decimalLives_any _ (H0.out.below (by have := B.out; have := B.out.size; first | exact B.out | go_grown)) (T0.out.below (by have := B.out; have := B.out.size; first | exact B.out | go_grown))).mono ?_); rintro r w1 ⟨rfl, hb⟩; replace B : Hid (Below w.heap.size w w1) := Lib.hid (bl_thru (by have := B.out; have := B.out.size; first | exact B.out | go_grown) (Nat.le_refl _) hb); clear hb)
            | (go_at_call 16; first | ((with_reducible refine (ok_new2 _ _ _ _ (by simp)).mono ?_); rintro e w' ⟨rfl, rfl⟩))
            | (go_at_call 29; (refine (CU.out _).mono ?_); rintro r w1 ⟨rfl, nw, rfl⟩)
            | (go_at_call 30; (refine (CON.out _).mono ?_); rintro r w1 ⟨rfl, rfl⟩)
            | (go_at_call 31; (refine (RP.out _ _ (by omega)).mono ?_); rintro r w1 ⟨rfl, hb⟩; replace B : Hid (Below w.heap.size w w1) := Lib.hid (bl_thru (below_to_drewN (B.out.alloc B.out.size _)) (Nat.le_refl _) hb); clear hb))
          all_goals first
            | (go_ret; refine ⟨?_, ?_⟩; (first | rfl | (simp_all; done)); have := B.out; have := B.out.size; first | exact B.out | (go_grown; done) | exact below_to_drewN (B.out.alloc B.out.size _))
            | (exfalso; simp_all [ok2]; done)
            | trace_state
        · rw [decide_eq_false h1] at CON
          have hb0 : b = [] := List.length_eq_zero_iff.1 (by omega)
          obtain rfl : nb = 0 := by omega
          obtain rfl : places = (j : Int) := by omega
          have hBB : BB = ⟨#[]⟩ := by rw [hB, hb0]
          subst hBB
          by_cases hp : 0 < j
          · have hT2 : T = S ++ ⟨#[46]⟩ ++ Z := by
              rw [hTt, hS, hZ, k2 hb0 (by omega), ba_app _ [46] rfl rfl, ba_app _ _ rfl rfl]
            have heq : (T.toList == (S ++ ⟨#[46]⟩ ++ Z).toList) = true := by rw [hT2]; simp
            clear hc htail hab h46 l1 l2 hS hTt hB hT hT10 k1 k2 k3 hZ hT2 hf he hnb hb0 hj zB
            go_enter Tryd.func9, Tryd.ntmps9
            go_wp2_with (first
              | (go_at_call 28; (refine (EX.out _ (H0.out.below (by have := B.out; have := B.out.size; first | exact B.out | go_grown)) (T0.out.below (by have := B.out; have := B.out.size; first | exact B.out | go_grown))).mono ?_); rintro r w1 ⟨rfl, hb⟩; replace B := Lib.hid (bl_thru B.out (Nat.le_refl _) hb); clear hb)
              | (go_at_call 24; (refine (FX.out _ (H0.out.below (by have := B.out; have := B.out.size; first | exact B.out | go_grown)) (T0.out.below (by have := B.out; have := B.out.size; first | exact B.out | go_grown))).mono ?_); rintro r w1 ⟨rfl, hb⟩; replace B := Lib.hid (bl_thru B.out (Nat.le_refl _) hb); clear hb)
              | (go_at_call 25; (refine (decimalLives_any _ (H0.out.below (by have := B.out; have := B.out.size; first | exact B.out | go_grown)) (T0.out.below (by have := B.out; have := B.out.size; first | exact B.out | go_grown))).mono ?_); rintro r w1 ⟨rfl, hb⟩; replace B : Hid (Below w.heap.size w w1) := Lib.hid (bl_thru (by have := B.out; have := B.out.size; first | exact B.out | go_grown) (Nat.le_refl _) hb); clear hb)
              | (go_at_call 16; first | ((with_reducible refine (ok_new2 _ _ _ _ (by simp)).mono ?_); rintro e w' ⟨rfl, rfl⟩))
              | (go_at_call 29; (refine (CU.out _).mono ?_); rintro r w1 ⟨rfl, nw, rfl⟩)
              | (go_at_call 30; (refine (CON.out _).mono ?_); rintro r w1 ⟨rfl, rfl⟩)
              | (go_at_call 31; (refine (RP.out _ _ (by omega)).mono ?_); rintro r w1 ⟨rfl, hb⟩; replace B : Hid (Below w.heap.size w w1) := Lib.hid (bl_thru (below_to_drewN (B.out.alloc B.out.size _)) (Nat.le_refl _) hb); clear hb))
            all_goals first
              | (go_ret; refine ⟨?_, ?_⟩; (first | rfl | (simp_all; done)); have := B.out; have := B.out.size; first | exact B.out | (go_grown; done) | exact below_to_drewN (B.out.alloc B.out.size _))
              | (exfalso; simp_all [ok2]; done)
              | trace_state
          · have hT2 : T = S ++ Z := by
              rw [hTt, hS, hZ, k3 hb0 (by omega), ba_app _ _ rfl rfl]
            have heq : (T.toList == (S ++ Z).toList) = true := by rw [hT2]; simp
            clear hc htail hab h46 l1 l2 hS hTt hB hT hT10 k1 k2 k3 hZ hT2 hf he hnb hb0 hj zB
            go_enter Tryd.func9, Tryd.ntmps9
            go_wp2_with (first
              | (go_at_call 28; (refine (EX.out _ (H0.out.below (by have := B.out; have := B.out.size; first | exact B.out | go_grown)) (T0.out.below (by have := B.out; have := B.out.size; first | exact B.out | go_grown))).mono ?_); rintro r w1 ⟨rfl, hb⟩; replace B := Lib.hid (bl_thru B.out (Nat.le_refl _) hb); clear hb)
              | (go_at_call 24; (refine (FX.out _ (H0.out.below (by have := B.out; have := B.out.size; first | exact B.out | go_grown)) (T0.out.below (by have := B.out; have := B.out.size; first | exact B.out | go_grown))).mono ?_); rintro r w1 ⟨rfl, hb⟩; replace B := Lib.hid (bl_thru B.out (Nat.le_refl _) hb); clear hb)
              | (go_at_call 25; (refine (decimalLives_any _ (H0.out.below (by have := B.out; have := B.out.size; first | exact B.out | go_grown)) (T0.out.below (by have := B.out; have := B.out.size; first | exact B.out | go_grown))).mono ?_); rintro r w1 ⟨rfl, hb⟩; replace B : Hid (Below w.heap.size w w1) := Lib.hid (bl_thru (by have := B.out; have := B.out.size; first | exact B.out | go_grown) (Nat.le_refl _) hb); clear hb)
              | (go_at_call 16; first | ((with_reducible refine (ok_new2 _ _ _ _ (by simp)).mono ?_); rintro e w' ⟨rfl, rfl⟩))
              | (go_at_call 29; (refine (CU.out _).mono ?_); rintro r w1 ⟨rfl, nw, rfl⟩)
              | (go_at_call 30; (refine (CON.out _).mono ?_); rintro r w1 ⟨rfl, rfl⟩)
              | (go_at_call 31; (refine (RP.out _ _ (by omega)).mono ?_); rintro r w1 ⟨rfl, hb⟩; replace B : Hid (Below w.heap.size w w1) := Lib.hid (bl_thru (below_to_drewN (B.out.alloc B.out.size _)) (Nat.le_refl _) hb); clear hb))
            all_goals first
              | (go_ret; refine ⟨?_, ?_⟩; (first | rfl | (simp_all; done)); have := B.out; have := B.out.size; first | exact B.out | (go_grown; done) | exact below_to_drewN (B.out.alloc B.out.size _))
              | (exfalso; simp_all [ok2]; done)
              | trace_state
    · rw [he] at EX
      have hfb : (fxE x places 0 != 0) = true := by rw [bne_iff_ne]; exact hf
      generalize exS x = s at *
      generalize fxS x places 0 = t at *
      generalize fxC x places 0 = cc at *
      generalize fxE x places 0 = E at *
      obtain ⟨S, hS⟩ : ∃ S : ByteArray, S = ⟨s.toArray⟩ := ⟨_, rfl⟩
      obtain ⟨T, hTt⟩ : ∃ T : ByteArray, T = ⟨t.toArray⟩ := ⟨_, rfl⟩
      rw [← hS] at EX
      rw [← hTt] at FX
      have hok : ok2 0 E = false := by unfold ok2; simp [hf]
      clear hT hT10 hS hTt l1 l2 he
      go_enter Tryd.func9, Tryd.ntmps9
      go_wp2_with (first
        | (go_at_call 28; (refine (EX.out _ (H0.out.below (by have := B.out; have := B.out.size; first | exact B.out | go_grown)) (T0.out.below (by have := B.out; have := B.out.size; first | exact B.out | go_grown))).mono ?_); rintro r w1 ⟨rfl, hb⟩; replace B := Lib.hid (bl_thru B.out (Nat.le_refl _) hb); clear hb)
        | (go_at_call 24; (refine (FX.out _ (H0.out.below (by have := B.out; have := B.out.size; first | exact B.out | go_grown)) (T0.out.below (by have := B.out; have := B.out.size; first | exact B.out | go_grown))).mono ?_); rintro r w1 ⟨rfl, hb⟩; replace B := Lib.hid (bl_thru B.out (Nat.le_refl _) hb); clear hb)
        | (go_at_call 25; (refine (decimalLives_any _ (H0.out.below (by have := B.out; have := B.out.size; first | exact B.out | go_grown)) (T0.out.below (by have := B.out; have := B.out.size; first | exact B.out | go_grown))).mono ?_); rintro r w1 ⟨rfl, hb⟩; replace B : Hid (Below w.heap.size w w1) := Lib.hid (bl_thru (by have := B.out; have := B.out.size; first | exact B.out | go_grown) (Nat.le_refl _) hb); clear hb)
        | (go_at_call 16; first | ((with_reducible refine (ok_new2 _ _ _ _ (by simp)).mono ?_); rintro e w' ⟨rfl, rfl⟩))
        | (go_at_call 29; (refine (CU.out _).mono ?_); rintro r w1 ⟨rfl, nw, rfl⟩)
        | (go_at_call 30; (refine (CON.out _).mono ?_); rintro r w1 ⟨rfl, rfl⟩)
        | (go_at_call 31; (refine (RP.out _ _ (by omega)).mono ?_); rintro r w1 ⟨rfl, hb⟩; replace B : Hid (Below w.heap.size w w1) := Lib.hid (bl_thru (below_to_drewN (B.out.alloc B.out.size _)) (Nat.le_refl _) hb); clear hb))
      all_goals first
        | (go_ret; refine ⟨?_, ?_⟩; (first | rfl | (simp_all; done)); have := B.out; have := B.out.size; first | exact B.out | (go_grown; done) | exact below_to_drewN (B.out.alloc B.out.size _))
        | (exfalso; simp_all [ok2]; done)
        | trace_state
  · obtain ⟨e1, e2⟩ := ex_fx (places := places) he
    have heb : (exE x == 0) = false := by rw [beq_eq_false_iff_ne]; exact he
    rw [e1, e2] at FX
    generalize exS x = s at *
    generalize fxC x places 0 = cc at *
    generalize exE x = E at *
    obtain ⟨S, hS⟩ : ∃ S : ByteArray, S = ⟨s.toArray⟩ := ⟨_, rfl⟩
    rw [← hS] at EX
    have hok : ok2 E 4 = false := by unfold ok2; simp
    clear hT hT10 hS l1 l2
    go_enter Tryd.func9, Tryd.ntmps9
    go_wp2_with (first
      | (go_at_call 28; (refine (EX.out _ (H0.out.below (by have := B.out; have := B.out.size; first | exact B.out | go_grown)) (T0.out.below (by have := B.out; have := B.out.size; first | exact B.out | go_grown))).mono ?_); rintro r w1 ⟨rfl, hb⟩; replace B := Lib.hid (bl_thru B.out (Nat.le_refl _) hb); clear hb)
      | (go_at_call 24; (refine (FX.out _ (H0.out.below (by have := B.out; have := B.out.size; first | exact B.out | go_grown)) (T0.out.below (by have := B.out; have := B.out.size; first | exact B.out | go_grown))).mono ?_); rintro r w1 ⟨rfl, hb⟩; replace B := Lib.hid (bl_thru B.out (Nat.le_refl _) hb); clear hb)
      | (go_at_call 25; (refine (decimalLives_any _ (H0.out.below (by have := B.out; have := B.out.size; first | exact B.out | go_grown)) (T0.out.below (by have := B.out; have := B.out.size; first | exact B.out | go_grown))).mono ?_); rintro r w1 ⟨rfl, hb⟩; replace B : Hid (Below w.heap.size w w1) := Lib.hid (bl_thru (by have := B.out; have := B.out.size; first | exact B.out | go_grown) (Nat.le_refl _) hb); clear hb)
      | (go_at_call 16; first | ((with_reducible refine (ok_new2 _ _ _ _ (by simp)).mono ?_); rintro e w' ⟨rfl, rfl⟩))
      | (go_at_call 29; (refine (CU.out _).mono ?_); rintro r w1 ⟨rfl, nw, rfl⟩)
      | (go_at_call 30; (refine (CON.out _).mono ?_); rintro r w1 ⟨rfl, rfl⟩)
      | (go_at_call 31; (refine (RP.out _ _ (by omega)).mono ?_); rintro r w1 ⟨rfl, hb⟩; replace B : Hid (Below w.heap.size w w1) := Lib.hid (bl_thru (below_to_drewN (B.out.alloc B.out.size _)) (Nat.le_refl _) hb); clear hb))
    all_goals first
      | (go_ret; refine ⟨?_, ?_⟩; (first | rfl | (simp_all; done)); have := B.out; have := B.out.size; first | exact B.out | (go_grown; done) | exact below_to_drewN (B.out.alloc B.out.size _))
      | (exfalso; simp_all [ok2]; done)
      | trace_state
end Go.Proofs.YthlocmhfjandlaaDoor
