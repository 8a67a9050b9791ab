/-
  THE WALK of package round: Number.
-/
import Derived.Test.YthkcbjhjhkpclaaGreatDoorBe
import Derived.Test.YthkcbjhjhkpclaaGreatDoorBd
set_option linter.unusedVariables false
set_option linter.unusedSimpArgs false
namespace Go.Proofs.YthkcbjhjhkpclaaGreatDoor
open Go.RowKit Nt Fm

/-- a callee that only computes, in a region that draws -/
theorem quiet_first {P : Program} {f : FuncId} {args : Array Value} {w : World} {n : Nat} {v : Value} (h : Calls P f args (w.drewN n) fun e w' => e = .returned v ∧ w.drewN n = w') :
    Calls P f args (w.drewN n) fun e w' => e = .returned v ∧ ∃ m, w' = w.drewN m := h.mono fun _ _ ⟨he, hw⟩ => ⟨he, n, hw.symm⟩

theorem or_lo (c x : Nat) (hc : c < 4294967296) (hx : x < 4294967296) : bits .or .u64 (c : Int) ((x : Int) * 4294967296) = ((c + x * 4294967296 : Nat) : Int) := or_high c x hc hx

/-- limbs of a number of one word -/
theorem two_limbs {l : List Nat} {q : Nat} (hl : Nrm l) (h : val l = q) (hq : q ≤ 9007199254740992) : l.length ≤ 2 := by
  have := hl.len (k := 54) (by rw [h]; omega)
  omega

theorem or_zero (x : Nat) (hx : x < 18446744073709551616) : bits .or .u64 0 (x : Int) = (x : Int) := by
  have := bits_or_u64_nat 0 x (by decide) hx
  rw [Nat.zero_or] at this; exact this
theorem or_zero' (x : Int) (h0 : 0 ≤ x) (h1 : x ≤ 18446744073709551615) : bits .or .u64 x 0 = x := by
  obtain ⟨n, rfl⟩ := Int.eq_ofNat_of_zero_le h0
  have := bits_or_u64_nat n 0 (by omega) (by decide)
  rw [Nat.or_zero] at this; exact this
theorem or_sign2 (x : Int) (h0 : 0 ≤ x) (h1 : x < 9223372036854775808) : bits .or .u64 x 9223372036854775808 = x + 9223372036854775808 := by
  obtain ⟨a, rfl⟩ := Int.eq_ofNat_of_zero_le h0
  have ha : a < 2 ^ 63 := by omega
  have h := bits_or_u64_nat a 9223372036854775808 (by omega) (by decide)
  rw [show ((9223372036854775808 : Nat) : Int) = 9223372036854775808 from rfl] at h
  rw [h, Nat.or_comm]
  have := Nat.two_pow_add_eq_or_of_lt ha 1
  rw [show (2 ^ 63 * 1 : Nat) = 9223372036854775808 by decide] at this
  rw [← this]; omega
theorem u64_wraps2 (n : Int) (h0 : 0 ≤ n) (h1 : n < 2 ^ 64) : IntKind.u64.wrap n = n := IntWalk.u64_in n ⟨h0, by omega⟩
theorem and_frac2 (x : Int) (h0 : 0 ≤ x) (h1 : x ≤ 18446744073709551615) : bits .and .u64 x 4503599627370495 = x % 4503599627370496 :=
  bits_mask .u64 64 (by decide) u64_wraps2 52 (by decide) x h0 (by omega)
theorem or_frac2 (e x : Int) (he : 0 ≤ e) (he1 : e ≤ 4095) (h0 : 0 ≤ x) (h1 : x < 4503599627370496) : bits .or .u64 (e * 4503599627370496) x = e * 4503599627370496 + x :=
  bits_join .u64 64 (by decide) u64_wraps2 52 _ _ (by omega) (by omega) (by omega) h0 (by omega) (by omega)

set_option maxHeartbeats 16000000 in
set_option maxRecDepth 100000 in
theorem number_any (v : Value) (d : D) (k0 : Nat) (mode : Int) (w : World) (hd : DV w v d) (hm : d.m < 2 ^ k0) (hk0 : k0 ≤ 400000) (e0 : -400000 ≤ d.e) (e1 : d.e ≤ 400000) (hz : d.m = 0 → d.e ≤ 1000) (h0 : 0 ≤ mode) (h1 : mode ≤ 4) :
    Calls Tryz.prog 52 #[v, .int .i64 mode] w fun e w' => e = .returned (.tuple #[.int .u64 (numR d mode), .bool (numC d)]) ∧ Below w.heap.size w w' := by
  obtain ⟨s, rfl, hs⟩ := hd
  obtain ⟨ao, n, c, rfl⟩ := hs.shape
  obtain ⟨F1, F2, F3⟩ := fin_num h0 h1 hz
  rw [← F1, ← F2]
  clear F1 F2
  obtain ⟨neg, m, e⟩ := d
  simp only at hm e0 e1 hz hs F3 ⊢
  have hbl : blen m ≤ k0 := by
    rcases Nat.lt_or_ge k0 (blen m) with h | h
    · exfalso
      have hne : m ≠ 0 := by intro h2; rw [h2] at h; simp [blen] at h
      have := bl_le hne
      rw [blen_eq] at h
      have h3 : 2 ^ k0 ≤ 2 ^ (bl m - 1) := Nat.pow_le_pow_right (by decide) (by omega)
      omega
    · exact h
  have hK : kk m e = max ((blen m : Int) + e - 53) (-1074) := rfl
  have hS : ss m e = kk m e - e := rfl
  rw [hS] at F3 ⊢
  have hkb : -1074 ≤ kk m e ∧ kk m e ≤ 800000 ∧ kk m e - e ≤ 900000 ∧ -900000 ≤ kk m e - e := by rw [hK]; omega
  obtain ⟨hkb1, hkb2, hkb3, hkb4⟩ := hkb
  generalize kk m e = K at *
  have HM := Lib.hid hm
  have HS := Lib.hid hs
  have HK := Lib.hid hK
  clear hm hs hK hS hz
  generalize hQ : cutM neg m (K - e) mode = q at *
  have HQ := Lib.hid hQ
  clear hQ
  generalize hC : cutC m (K - e) = cc at *
  have HC := Lib.hid hC
  clear hC
  go_enter Tryz.func52, Tryz.ntmps52
  go_wp2
  go_quiet ((go_at_call 109; exact quiet_first (natLen_any _ m k0 _ (NV.drewN (NV.alloc HS.out _) _) HM.out (by omega))))
  rw [← HK.out]
  go_wp2_with fail
  refine (cut_any neg _ m k0 (K - e) mode _ (NV.drewN (NV.alloc HS.out _) _) HM.out (by omega) (by omega) (by omega) h0 h1).mono ?_
  rintro r w1 ⟨vq, rfl, hvq, hb⟩
  rw [HC.out]
  rw [HQ.out] at hvq
  have hb2 := below_of_drewN hb
  obtain ⟨q0, q1, q2, f0, f1, f2⟩ := cells3 hb2
  have hbw : Below w.heap.size w w1 := ((Below.refl _ _).alloc (Nat.le_refl _) _).trans (hb2.mono (by simp))
  have HBW := Lib.hid hbw
  clear hb hb2 hbw
  obtain ⟨l, hl, el, -, ao2, cap2, rfl, hc2, hm2, hA⟩ := hvq
  have hl2 := two_limbs hl el F3
  have EL := Lib.hid el
  unfold maxLen at hm2
  clear el
  have hlen : l.length = 0 ∨ (∃ x, l = [x]) ∨ (∃ x y, l = [x, y]) := by
    match l, hl2 with
    | [], _ => left; rfl
    | [x], _ => right; left; exact ⟨x, rfl⟩
    | [x, y], _ => right; right; exact ⟨x, y, rfl⟩
  have hcell : l.length ≤ 0 ∨ ∃ b2 o2, ao2 = some ⟨b2, o2, none⟩ ∧ ∀ i, i < l.length → w1.cell? ⟨b2, o2 + i, none⟩ = some (.int .u32 ((l.getD i 0 : Nat) : Int)) := by
    rcases hA with hA | ⟨b2, o2, g1, _, g2⟩
    · exact Or.inl hA
    · exact Or.inr ⟨b2, o2, g1, g2⟩
  clear hA
  have hlims := hl.1
  rcases hcell with hcell | ⟨b2, o2, rfl, hcell⟩
  all_goals
    have HL := Lib.hid hlen
    clear hlen
    go_wp2
    go_loop [9, 37] (fun v i => ∃ k N : Nat, k ≤ l.length ∧ i = .int .i64 k ∧ v = .int .u64 ((N : Nat) : Int) ∧ N = val (l.take k)) (fun _ i => l.length - (intOf i).toNat)
    case atStart => exact ⟨0, 0, Nat.zero_le _, rfl, rfl, rfl⟩
    case round =>
      obtain ⟨k, N, hk, rfl, rfl, hN⟩ := hrel
      have HN := Lib.hid hN
      clear hN
      by_cases hkp : k < l.length
      · first
          | (exfalso; omega)
          | (obtain ⟨x, hx⟩ : ∃ x, x = l.getD k 0 := ⟨_, rfl⟩
             have hx1 : x < 4294967296 := by rw [hx]; exact hlims.getD k
             have hcx := hcell k hkp
             rw [← hx] at hcx
             have HX := Lib.hid hx
             have HC2 := Lib.hid hcell
             clear hx hcell
             have hk01 : k = 0 ∨ k = 1 := by omega
             rcases hk01 with rfl | rfl
             · obtain rfl : N = 0 := HN.out
               rw [Nat.add_zero] at hcx
               have e3 := or_zero x (by omega)
               go_wp2
               go_round
               case rel => exact ⟨1, x, by omega, by go_num, by simp, by rw [show (1 : Nat) = 0 + 1 from rfl, val_take_succ l 0 hkp, HX.out]; simp [List.getD, hkp, val]⟩
               case measure => simp [intOf]; omega
             · have hN1 : N < 4294967296 := by
                 rw [HN.out]; have := val_lt (hlims.take 1); rw [List.length_take] at this
                 have h4 : 2 ^ (32 * min 1 l.length) ≤ 2 ^ 32 := Nat.pow_le_pow_right (by decide) (by omega)
                 omega
               have e3 := or_high N x hN1 hx1
               go_wp2
               go_round
               case rel => exact ⟨2, N + x * 4294967296, by omega, by go_num, by simp, by rw [show (2 : Nat) = 1 + 1 from rfl, val_take_succ l 1 hkp, ← HN.out, HX.out]; simp [List.getD, hkp]; omega⟩
               case measure => simp [intOf]; omega)
      · have hNq : N = q := by rw [HN.out, List.take_of_length_le (by omega), EL.out]
        subst hNq
        clear HN
        try clear hcell
        have hNb : N ≤ 9007199254740992 := F3
        have hmode : mode = 0 ∨ mode = 1 ∨ mode = 2 ∨ mode = 3 ∨ mode = 4 := by omega
        cases neg
        · by_cases hn : N = 9007199254740992
          · subst hn
            by_cases hk : 971 < K + 1
            · skip
              rcases hmode with rfl | rfl | rfl | rfl | rfl
              · have FR : Hid (finR false 9007199254740992 K 0 = 9218868437227405312) := by show finR false 9007199254740992 K 0 = 9218868437227405312; unfold finR finK finN awayB; simp only [if_true]; rw [if_pos (by omega)]; simp
                have FC : Hid (finC 9007199254740992 K cc = true) := by show finC 9007199254740992 K cc = true; unfold finC finK; simp; omega
                have a1 : bits .or .u64 9218868437227405312 0 = 9218868437227405312 := by decide
                go_wp2
                go_ret2
                exact ⟨by rw [FR.out, FC.out]; rfl, HBW.out⟩
              · have FR : Hid (finR false 9007199254740992 K 1 = 9218868437227405312) := by show finR false 9007199254740992 K 1 = 9218868437227405312; unfold finR finK finN awayB; simp only [if_true]; rw [if_pos (by omega)]; simp
                have FC : Hid (finC 9007199254740992 K cc = true) := by show finC 9007199254740992 K cc = true; unfold finC finK; simp; omega
                have a1 : bits .or .u64 9218868437227405312 0 = 9218868437227405312 := by decide
                go_wp2
                go_ret2
                exact ⟨by rw [FR.out, FC.out]; rfl, HBW.out⟩
              · have FR : Hid (finR false 9007199254740992 K 2 = 9218868437227405311) := by show finR false 9007199254740992 K 2 = 9218868437227405311; unfold finR finK finN awayB; simp only [if_true]; rw [if_pos (by omega)]; simp
                have FC : Hid (finC 9007199254740992 K cc = true) := by show finC 9007199254740992 K cc = true; unfold finC finK; simp; omega
                have a1 : bits .or .u64 9218868437227405311 0 = 9218868437227405311 := by decide
                go_wp2
                go_ret2
                exact ⟨by rw [FR.out, FC.out]; rfl, HBW.out⟩
              · have FR : Hid (finR false 9007199254740992 K 3 = 9218868437227405311) := by show finR false 9007199254740992 K 3 = 9218868437227405311; unfold finR finK finN awayB; simp only [if_true]; rw [if_pos (by omega)]; simp
                have FC : Hid (finC 9007199254740992 K cc = true) := by show finC 9007199254740992 K cc = true; unfold finC finK; simp; omega
                have a1 : bits .or .u64 9218868437227405311 0 = 9218868437227405311 := by decide
                go_wp2
                go_ret2
                exact ⟨by rw [FR.out, FC.out]; rfl, HBW.out⟩
              · have FR : Hid (finR false 9007199254740992 K 4 = 9218868437227405312) := by show finR false 9007199254740992 K 4 = 9218868437227405312; unfold finR finK finN awayB; simp only [if_true]; rw [if_pos (by omega)]; simp
                have FC : Hid (finC 9007199254740992 K cc = true) := by show finC 9007199254740992 K cc = true; unfold finC finK; simp; omega
                have a1 : bits .or .u64 9218868437227405312 0 = 9218868437227405312 := by decide
                go_wp2
                go_ret2
                exact ⟨by rw [FR.out, FC.out]; rfl, HBW.out⟩
            · have FR : Hid (finR false 9007199254740992 K mode = (K + 1 + 1075) * 4503599627370496) := by show finR false 9007199254740992 K mode = _; unfold finR finK finN; simp only [if_true]; rw [if_neg (by omega), if_neg (by omega)]; simp
              have FC : Hid (finC 9007199254740992 K cc = cc) := by show finC 9007199254740992 K cc = cc; unfold finC finK; simp; omega
              have a0 : bits .and .u64 4503599627370496 4503599627370495 = 0 := by decide
              have a2 := or_zero' ((K + 1 + 1075) * 4503599627370496) (by omega) (by omega)
              go_wp2
              go_ret2
              exact ⟨by rw [FR.out, FC.out]; rfl, HBW.out⟩
          · have hn2 : N < 9007199254740992 := by omega
            have hn3 : ((N : Int) == 9007199254740992) = false := by rw [beq_eq_false_iff_ne]; omega
            by_cases hk : 971 < K
            · skip
              rcases hmode with rfl | rfl | rfl | rfl | rfl
              · have FR : Hid (finR false N K 0 = 9218868437227405312) := by show finR false N K 0 = 9218868437227405312; unfold finR finK finN awayB; rw [if_neg hn, if_pos (by omega)]; simp
                have FC : Hid (finC N K cc = true) := by show finC N K cc = true; unfold finC finK; rw [if_neg hn]; simp; omega
                have a1 : bits .or .u64 9218868437227405312 0 = 9218868437227405312 := by decide
                go_wp2
                go_ret2
                exact ⟨by rw [FR.out, FC.out]; rfl, HBW.out⟩
              · have FR : Hid (finR false N K 1 = 9218868437227405312) := by show finR false N K 1 = 9218868437227405312; unfold finR finK finN awayB; rw [if_neg hn, if_pos (by omega)]; simp
                have FC : Hid (finC N K cc = true) := by show finC N K cc = true; unfold finC finK; rw [if_neg hn]; simp; omega
                have a1 : bits .or .u64 9218868437227405312 0 = 9218868437227405312 := by decide
                go_wp2
                go_ret2
                exact ⟨by rw [FR.out, FC.out]; rfl, HBW.out⟩
              · have FR : Hid (finR false N K 2 = 9218868437227405311) := by show finR false N K 2 = 9218868437227405311; unfold finR finK finN awayB; rw [if_neg hn, if_pos (by omega)]; simp
                have FC : Hid (finC N K cc = true) := by show finC N K cc = true; unfold finC finK; rw [if_neg hn]; simp; omega
                have a1 : bits .or .u64 9218868437227405311 0 = 9218868437227405311 := by decide
                go_wp2
                go_ret2
                exact ⟨by rw [FR.out, FC.out]; rfl, HBW.out⟩
              · have FR : Hid (finR false N K 3 = 9218868437227405311) := by show finR false N K 3 = 9218868437227405311; unfold finR finK finN awayB; rw [if_neg hn, if_pos (by omega)]; simp
                have FC : Hid (finC N K cc = true) := by show finC N K cc = true; unfold finC finK; rw [if_neg hn]; simp; omega
                have a1 : bits .or .u64 9218868437227405311 0 = 9218868437227405311 := by decide
                go_wp2
                go_ret2
                exact ⟨by rw [FR.out, FC.out]; rfl, HBW.out⟩
              · have FR : Hid (finR false N K 4 = 9218868437227405312) := by show finR false N K 4 = 9218868437227405312; unfold finR finK finN awayB; rw [if_neg hn, if_pos (by omega)]; simp
                have FC : Hid (finC N K cc = true) := by show finC N K cc = true; unfold finC finK; rw [if_neg hn]; simp; omega
                have a1 : bits .or .u64 9218868437227405312 0 = 9218868437227405312 := by decide
                go_wp2
                go_ret2
                exact ⟨by rw [FR.out, FC.out]; rfl, HBW.out⟩
            · by_cases hs : N < 4503599627370496
              · have FR : Hid (finR false N K mode = (N : Int)) := by show finR false N K mode = _; unfold finR finK finN; rw [if_neg hn, if_neg hn, if_neg (by omega), if_pos hs]; simp
                have FC : Hid (finC N K cc = cc) := by show finC N K cc = cc; unfold finC finK; rw [if_neg hn]; simp; omega
                have a2 := or_zero' (N : Int) (by omega) (by omega)
                have hs2 : (N : Int) < 4503599627370496 := by omega
                have hn4 : (N : Int) < 9007199254740992 := by omega
                clear hn hs hn2 hNb F3
                go_wp2
                go_ret2
                exact ⟨by rw [FR.out, FC.out]; rfl, HBW.out⟩
              · obtain ⟨r, hr⟩ : ∃ r : Int, r = (N : Int) % 4503599627370496 := ⟨_, rfl⟩
                have hr0 : 0 ≤ r := by omega
                have hr1 : r < 4503599627370496 := by omega
                have FR : Hid (finR false N K mode = (K + 1075) * 4503599627370496 + r) := by show finR false N K mode = _; unfold finR finK finN; rw [if_neg hn, if_neg hn, if_neg (by omega), if_neg hs, hr]; simp
                have FC : Hid (finC N K cc = cc) := by show finC N K cc = cc; unfold finC finK; rw [if_neg hn]; simp; omega
                have a0 := and_frac2 (N : Int) (by omega) (by omega)
                rw [← hr] at a0
                have a2 := or_frac2 (K + 1075) r (by omega) (by omega) hr0 hr1
                have a3 := or_zero' ((K + 1075) * 4503599627370496 + r) (by omega) (by omega)
                have hs2 : (4503599627370496 : Int) ≤ (N : Int) := by omega
                have hn4 : (N : Int) < 9007199254740992 := by omega
                have hs3 : ¬ (N : Int) < 4503599627370496 := by omega
                clear hn hs hn2 hNb F3 hr
                generalize hz : (N : Int) = z at *
                clear hz
                go_wp2
                go_ret2
                exact ⟨by rw [FR.out, FC.out]; rfl, HBW.out⟩
        · by_cases hn : N = 9007199254740992
          · subst hn
            by_cases hk : 971 < K + 1
            · skip
              rcases hmode with rfl | rfl | rfl | rfl | rfl
              · have FR : Hid (finR true 9007199254740992 K 0 = 18442240474082181120) := by show finR true 9007199254740992 K 0 = 18442240474082181120; unfold finR finK finN awayB; simp only [if_true]; rw [if_pos (by omega)]; simp
                have FC : Hid (finC 9007199254740992 K cc = true) := by show finC 9007199254740992 K cc = true; unfold finC finK; simp; omega
                have a1 : bits .or .u64 9218868437227405312 9223372036854775808 = 18442240474082181120 := by decide
                go_wp2
                go_ret2
                exact ⟨by rw [FR.out, FC.out]; rfl, HBW.out⟩
              · have FR : Hid (finR true 9007199254740992 K 1 = 18442240474082181119) := by show finR true 9007199254740992 K 1 = 18442240474082181119; unfold finR finK finN awayB; simp only [if_true]; rw [if_pos (by omega)]; simp
                have FC : Hid (finC 9007199254740992 K cc = true) := by show finC 9007199254740992 K cc = true; unfold finC finK; simp; omega
                have a1 : bits .or .u64 9218868437227405311 9223372036854775808 = 18442240474082181119 := by decide
                go_wp2
                go_ret2
                exact ⟨by rw [FR.out, FC.out]; rfl, HBW.out⟩
              · have FR : Hid (finR true 9007199254740992 K 2 = 18442240474082181120) := by show finR true 9007199254740992 K 2 = 18442240474082181120; unfold finR finK finN awayB; simp only [if_true]; rw [if_pos (by omega)]; simp
                have FC : Hid (finC 9007199254740992 K cc = true) := by show finC 9007199254740992 K cc = true; unfold finC finK; simp; omega
                have a1 : bits .or .u64 9218868437227405312 9223372036854775808 = 18442240474082181120 := by decide
                go_wp2
                go_ret2
                exact ⟨by rw [FR.out, FC.out]; rfl, HBW.out⟩
              · have FR : Hid (finR true 9007199254740992 K 3 = 18442240474082181119) := by show finR true 9007199254740992 K 3 = 18442240474082181119; unfold finR finK finN awayB; simp only [if_true]; rw [if_pos (by omega)]; simp
                have FC : Hid (finC 9007199254740992 K cc = true) := by show finC 9007199254740992 K cc = true; unfold finC finK; simp; omega
                have a1 : bits .or .u64 9218868437227405311 9223372036854775808 = 18442240474082181119 := by decide
                go_wp2
                go_ret2
                exact ⟨by rw [FR.out, FC.out]; rfl, HBW.out⟩
              · have FR : Hid (finR true 9007199254740992 K 4 = 18442240474082181120) := by show finR true 9007199254740992 K 4 = 18442240474082181120; unfold finR finK finN awayB; simp only [if_true]; rw [if_pos (by omega)]; simp
                have FC : Hid (finC 9007199254740992 K cc = true) := by show finC 9007199254740992 K cc = true; unfold finC finK; simp; omega
                have a1 : bits .or .u64 9218868437227405312 9223372036854775808 = 18442240474082181120 := by decide
                go_wp2
                go_ret2
                exact ⟨by rw [FR.out, FC.out]; rfl, HBW.out⟩
            · have FR : Hid (finR true 9007199254740992 K mode = (K + 1 + 1075) * 4503599627370496 + 9223372036854775808) := by show finR true 9007199254740992 K mode = _; unfold finR finK finN; simp only [if_true]; rw [if_neg (by omega), if_neg (by omega)]; simp
              have FC : Hid (finC 9007199254740992 K cc = cc) := by show finC 9007199254740992 K cc = cc; unfold finC finK; simp; omega
              have a0 : bits .and .u64 4503599627370496 4503599627370495 = 0 := by decide
              have a2 := or_zero' ((K + 1 + 1075) * 4503599627370496) (by omega) (by omega)
              have a3 := or_sign2 ((K + 1 + 1075) * 4503599627370496) (by omega) (by omega)
              go_wp2
              go_ret2
              exact ⟨by rw [FR.out, FC.out]; rfl, HBW.out⟩
          · have hn2 : N < 9007199254740992 := by omega
            have hn3 : ((N : Int) == 9007199254740992) = false := by rw [beq_eq_false_iff_ne]; omega
            by_cases hk : 971 < K
            · skip
              rcases hmode with rfl | rfl | rfl | rfl | rfl
              · have FR : Hid (finR true N K 0 = 18442240474082181120) := by show finR true N K 0 = 18442240474082181120; unfold finR finK finN awayB; rw [if_neg hn, if_pos (by omega)]; simp
                have FC : Hid (finC N K cc = true) := by show finC N K cc = true; unfold finC finK; rw [if_neg hn]; simp; omega
                have a1 : bits .or .u64 9218868437227405312 9223372036854775808 = 18442240474082181120 := by decide
                go_wp2
                go_ret2
                exact ⟨by rw [FR.out, FC.out]; rfl, HBW.out⟩
              · have FR : Hid (finR true N K 1 = 18442240474082181119) := by show finR true N K 1 = 18442240474082181119; unfold finR finK finN awayB; rw [if_neg hn, if_pos (by omega)]; simp
                have FC : Hid (finC N K cc = true) := by show finC N K cc = true; unfold finC finK; rw [if_neg hn]; simp; omega
                have a1 : bits .or .u64 9218868437227405311 9223372036854775808 = 18442240474082181119 := by decide
                go_wp2
                go_ret2
                exact ⟨by rw [FR.out, FC.out]; rfl, HBW.out⟩
              · have FR : Hid (finR true N K 2 = 18442240474082181120) := by show finR true N K 2 = 18442240474082181120; unfold finR finK finN awayB; rw [if_neg hn, if_pos (by omega)]; simp
                have FC : Hid (finC N K cc = true) := by show finC N K cc = true; unfold finC finK; rw [if_neg hn]; simp; omega
                have a1 : bits .or .u64 9218868437227405312 9223372036854775808 = 18442240474082181120 := by decide
                go_wp2
                go_ret2
                exact ⟨by rw [FR.out, FC.out]; rfl, HBW.out⟩
              · have FR : Hid (finR true N K 3 = 18442240474082181119) := by show finR true N K 3 = 18442240474082181119; unfold finR finK finN awayB; rw [if_neg hn, if_pos (by omega)]; simp
                have FC : Hid (finC N K cc = true) := by show finC N K cc = true; unfold finC finK; rw [if_neg hn]; simp; omega
                have a1 : bits .or .u64 9218868437227405311 9223372036854775808 = 18442240474082181119 := by decide
                go_wp2
                go_ret2
                exact ⟨by rw [FR.out, FC.out]; rfl, HBW.out⟩
              · have FR : Hid (finR true N K 4 = 18442240474082181120) := by show finR true N K 4 = 18442240474082181120; unfold finR finK finN awayB; rw [if_neg hn, if_pos (by omega)]; simp
                have FC : Hid (finC N K cc = true) := by show finC N K cc = true; unfold finC finK; rw [if_neg hn]; simp; omega
                have a1 : bits .or .u64 9218868437227405312 9223372036854775808 = 18442240474082181120 := by decide
                go_wp2
                go_ret2
                exact ⟨by rw [FR.out, FC.out]; rfl, HBW.out⟩
            · by_cases hs : N < 4503599627370496
              · have FR : Hid (finR true N K mode = (N : Int) + 9223372036854775808) := by show finR true N K mode = _; unfold finR finK finN; rw [if_neg hn, if_neg hn, if_neg (by omega), if_pos hs]; simp
                have FC : Hid (finC N K cc = cc) := by show finC N K cc = cc; unfold finC finK; rw [if_neg hn]; simp; omega
                have a2 := or_sign2 (N : Int) (by omega) (by omega)
                have hs2 : (N : Int) < 4503599627370496 := by omega
                have hn4 : (N : Int) < 9007199254740992 := by omega
                clear hn hs hn2 hNb F3
                go_wp2
                go_ret2
                exact ⟨by rw [FR.out, FC.out]; rfl, HBW.out⟩
              · obtain ⟨r, hr⟩ : ∃ r : Int, r = (N : Int) % 4503599627370496 := ⟨_, rfl⟩
                have hr0 : 0 ≤ r := by omega
                have hr1 : r < 4503599627370496 := by omega
                have FR : Hid (finR true N K mode = (K + 1075) * 4503599627370496 + r + 9223372036854775808) := by show finR true N K mode = _; unfold finR finK finN; rw [if_neg hn, if_neg hn, if_neg (by omega), if_neg hs, hr]; simp
                have FC : Hid (finC N K cc = cc) := by show finC N K cc = cc; unfold finC finK; rw [if_neg hn]; simp; omega
                have a0 := and_frac2 (N : Int) (by omega) (by omega)
                rw [← hr] at a0
                have a2 := or_frac2 (K + 1075) r (by omega) (by omega) hr0 hr1
                have a3 := or_sign2 ((K + 1075) * 4503599627370496 + r) (by omega) (by omega)
                have hs2 : (4503599627370496 : Int) ≤ (N : Int) := by omega
                have hn4 : (N : Int) < 9007199254740992 := by omega
                have hs3 : ¬ (N : Int) < 4503599627370496 := by omega
                clear hn hs hn2 hNb F3 hr
                generalize hz : (N : Int) = z at *
                clear hz
                go_wp2
                go_ret2
                exact ⟨by rw [FR.out, FC.out]; rfl, HBW.out⟩
end Go.Proofs.YthkcbjhjhkpclaaGreatDoor
