/-
  SOME OF MY TEXTS in one: Zny Zn Zl. Each says what it proves.
-/
import Derived.Test.YthkcbjhjhkpclaaGreatDoorZw
import Derived.Test.YthkcbjhjhkpclaaGreatDoorZu
import Derived.Test.YthkcbjhjhkpclaaGreatDoorRd2
import Derived.Test.YthkcbjhjhkpclaaGreatDoorBa
import Derived.Test.YthkcbjhjhkpclaaGreatDoorLk
set_option linter.unusedVariables false
set_option linter.unusedSimpArgs false
/-
  PLAIN: what read.Number tells.
-/
namespace Go.Proofs.YthkcbjhjhkpclaaGreatDoor
open Go.RowKit Nt Fm Fl

/-- digits that are no nought count something -/
theorem rdN_pos {s : List UInt8} (h : (rDig s).isEmpty = false) : rdN s ≠ 0 ∧ 10 ^ ((rDig s).length - 1) ≤ rdN s := by
  obtain ⟨h1, h2, h3⟩ := rdig_spec s
  rcases h3 with h3 | ⟨c, l, h3, h4⟩
  · rw [h3] at h; simp at h
  · have hc := h1 c (by rw [h3]; exact List.mem_cons_self ..)
    unfold rdN
    rw [h3] at h1 ⊢
    unfold dgt at hc
    have e1 : dcN 0 (c :: l) = dcN (0 * 10 + (c.toNat - 48)) l := rfl
    rw [e1, dcN_two]
    have h2 : c.toNat ≠ 48 := fun h => h4 (UInt8.toNat_inj.1 (by rw [h]; rfl))
    have h5 : 1 * 10 ^ l.length ≤ (0 * 10 + (c.toNat - 48)) * 10 ^ l.length := Nat.mul_le_mul_right _ (by omega)
    have h6 := Nat.pow_pos (n := l.length) (show 0 < 10 by omega)
    rw [List.length_cons, Nat.add_sub_cancel]
    exact ⟨by omega, by omega⟩
theorem rExp_bd (s : List UInt8) (h : s.length ≤ 1000) : -1100000 ≤ rExp s ∧ rExp s ≤ 1100000 := by
  obtain ⟨lw, l1, l2, lr, lp, le, ls, hdg⟩ := rpc_len (rpc_self s)
  have := pwK_bd (rRest s)
  unfold rExp rpK
  split <;> omega
theorem rerr_cases (s : List UInt8) : rErr s = 0 ∨ rErr s = 2 ∨ rErr s = 5 := by
  unfold rErr rpE; split
  · exact Or.inr (Or.inl rfl)
  · split
    · exact Or.inl rfl
    · exact Or.inr (Or.inr rfl)
theorem rerr_len {s : List UInt8} (h : rErr s = 0) : s.length ≤ 1000 := by
  unfold rErr rpE at h
  split at h
  · exact absurd h (by decide)
  · omega
theorem rv_bd (neg : Bool) {L N : Nat} {K : Int} (hL : L ≤ 1000) (hN0 : N ≠ 0) (hN : N < 2 ^ (4 * L + 1)) (kk : Nat) (hkk : 40000 ≤ kk) :
    (rvD neg L N K).m < 2 ^ kk ∧ -100000 ≤ (rvD neg L N K).e ∧ (rvD neg L N K).e ≤ 100000 ∧ (rvD neg L N K).m ≠ 0 := by
  have h1k : (1 : Nat) < 2 ^ kk := Nat.one_lt_two_pow (by omega)
  by_cases hb : 400 < (L : Int) + K
  · rw [rv_big hb]; exact ⟨h1k, by show (-100000 : Int) ≤ 2000; omega, by show (2000 : Int) ≤ 100000; omega, by show (1 : Nat) ≠ 0; omega⟩
  by_cases hs : (L : Int) + K < -400
  · rw [rv_small hs]; exact ⟨h1k, by show (-100000 : Int) ≤ -2000; omega, by show (-2000 : Int) ≤ 100000; omega, by show (1 : Nat) ≠ 0; omega⟩
  have hX0 : N * 10 ^ K.toNat ≠ 0 := Nat.mul_ne_zero hN0 (by have := Nat.pow_pos (n := K.toNat) (show 0 < 10 by omega); omega)
  obtain ⟨kb, hkb⟩ : ∃ kb : Nat, kb = 12000 := ⟨_, rfl⟩
  have hXb : N * 10 ^ K.toNat < 2 ^ kb := by
    have h1 := Nat.mul_lt_mul_of_lt_of_le hN (Nat.le_of_lt (tenz_two K.toNat)) (Nat.two_pow_pos _)
    rw [← Nat.pow_add] at h1
    exact Nat.lt_of_lt_of_le h1 (Nat.pow_le_pow_right (by omega) (by omega))
  obtain ⟨x1, x2, x3, x4⟩ := rv_norm_bd neg hX0 hXb
  by_cases hk : 0 ≤ K
  · rw [rv_whole (by omega) hk]
    exact ⟨Nat.lt_of_lt_of_le x2 (Nat.pow_le_pow_right (by omega) (by omega)), by omega, by omega, x1⟩
  · rw [rv_part (by omega) (by omega) (by omega)]
    have hPp : 10 ^ (-K).toNat ≠ 0 := by have := Nat.pow_pos (n := (-K).toNat) (show 0 < 10 by omega); omega
    have hPb2 : 10 ^ (-K).toNat < 2 ^ kb := Nat.lt_of_lt_of_le (tenz_two _) (Nat.pow_le_pow_right (by omega) (by omega))
    obtain ⟨y1, y2, y3, y4⟩ := rv_norm_bd false hPp hPb2
    generalize (norm neg (N * 10 ^ K.toNat) 0).m = c at *
    generalize (norm false (10 ^ (-K).toNat) 0).m = d at *
    generalize (norm neg (N * 10 ^ K.toNat) 0).e = a at *
    generalize (norm false (10 ^ (-K).toNat) 0).e = b at *
    generalize ((norm neg (N * 10 ^ K.toNat) 0).neg != (norm false (10 ^ (-K).toNat) 0).neg) = g at *
    have hq := ratio_big x1 y1
    have hqk : qk c d ≤ 80 + kb := by
      have : bl d ≤ kb := by rw [← blen_eq]; exact blen_le_of y2
      unfold qk; omega
    have hC : c * 2 ^ qk c d < 2 ^ (kb + qk c d) := by rw [Nat.pow_add]; exact Nat.mul_lt_mul_of_pos_right x2 (Nat.two_pow_pos _)
    have hmk := Fm.mark_le (c * 2 ^ qk c d % d)
    have e0 : (ratD g c d (a - b)).m = 4 * (c * 2 ^ qk c d / d) + Fm.mark (c * 2 ^ qk c d % d) := rfl
    have e1 : (ratD g c d (a - b)).e = a - b - qk c d - 2 := rfl
    rw [e0, e1]
    have hle := Nat.div_le_self (c * 2 ^ qk c d) d
    have hp : 4 * 2 ^ (kb + qk c d) = 2 ^ (kb + qk c d + 2) := by rw [Nat.pow_add _ _ 2]; omega
    have hp2 : 2 ^ (kb + qk c d + 2) ≤ 2 ^ kk := Nat.pow_le_pow_right (by omega) (by omega)
    have h60 : (0 : Nat) < 2 ^ 60 := by decide
    exact ⟨by omega, by omega, by omega, by omega⟩
/-- a number with digits -/
theorem readV_num (s : List UInt8) (mode : Int) (hk : knownB mode = true) (hi : ¬ (s = sInf ∨ s = sNinf ∨ s = sNan)) (he : rErr s = 0) (hd : (rDig s).isEmpty = false) :
    readV s mode = numR (rvD (rNeg s) (rDig s).length (rdN s) (rExp s)) mode ∧ readC s mode = numC (rvD (rNeg s) (rDig s).length (rdN s) (rExp s)) := by
  obtain ⟨n1, n2⟩ := rdN_pos hd
  obtain ⟨d1, d2, d3⟩ := rdig_spec s
  have hlt := dcN_lt (rDig s) 0 d1
  rw [Nat.zero_add, Nat.one_mul] at hlt
  obtain ⟨r1, r2, r3⟩ := rv_rat (rNeg s) (rExp s) n2 hlt (kd (rNeg s) mode)
  unfold readV readC numR numC
  rw [if_pos hk, if_pos hk, if_neg (fun e => hi (Or.inl e)), if_neg (fun e => hi (Or.inr (Or.inl e))), if_neg (fun e => hi (Or.inr (Or.inr e))), if_pos he, if_neg hi, if_pos he, r3]
  unfold rdN at r1 r2 ⊢
  exact ⟨by rw [r1], r2.symm⟩
end Go.Proofs.YthkcbjhjhkpclaaGreatDoor

/-
  THE WALK of read.Number.
-/
namespace Go.Proofs.YthkcbjhjhkpclaaGreatDoor
open Go.RowKit Nt Fm Fl

set_option maxRecDepth 100000 in
set_option maxHeartbeats 2000000 in
theorem rn_inf (mode : Int) (w : World) (KN : Hid (∀ w' : World, Calls Tryz.prog 46 #[.int .i64 mode] w' fun e w2 => e = .returned (.bool true) ∧ w' = w2)) :
    Calls Tryz.prog 38 #[.string ⟨#[105, 110, 102]⟩, .int .i64 mode] w (RetUBE w 9218868437227405312 false 0) := by
  unfold RetUBE
  go_enter Tryz.func38, Tryz.ntmps38
  go_wp2_with ((go_at_call 46; refine (KN.out _).mono ?_; rintro e w1 ⟨rfl, rfl⟩))
  go_ret3
  exact ⟨rfl, Below.refl _ _⟩
set_option maxRecDepth 100000 in
set_option maxHeartbeats 2000000 in
theorem rn_ninf (mode : Int) (w : World) (KN : Hid (∀ w' : World, Calls Tryz.prog 46 #[.int .i64 mode] w' fun e w2 => e = .returned (.bool true) ∧ w' = w2)) :
    Calls Tryz.prog 38 #[.string ⟨#[45, 105, 110, 102]⟩, .int .i64 mode] w (RetUBE w 18442240474082181120 false 0) := by
  unfold RetUBE
  go_enter Tryz.func38, Tryz.ntmps38
  go_wp2_with ((go_at_call 46; refine (KN.out _).mono ?_; rintro e w1 ⟨rfl, rfl⟩))
  go_ret3
  exact ⟨rfl, Below.refl _ _⟩
set_option maxRecDepth 100000 in
set_option maxHeartbeats 2000000 in
theorem rn_nan (mode : Int) (w : World) (KN : Hid (∀ w' : World, Calls Tryz.prog 46 #[.int .i64 mode] w' fun e w2 => e = .returned (.bool true) ∧ w' = w2)) :
    Calls Tryz.prog 38 #[.string ⟨#[110, 97, 110]⟩, .int .i64 mode] w (RetUBE w 9221120237041090560 false 0) := by
  unfold RetUBE
  go_enter Tryz.func38, Tryz.ntmps38
  go_wp2_with ((go_at_call 46; refine (KN.out _).mono ?_; rintro e w1 ⟨rfl, rfl⟩))
  go_ret3
  exact ⟨rfl, Below.refl _ _⟩
set_option maxRecDepth 100000 in
set_option maxHeartbeats 2000000 in
theorem rn_err (s : List UInt8) (mode : Int) (w : World) (KN : Hid (∀ w' : World, Calls Tryz.prog 46 #[.int .i64 mode] w' fun e w2 => e = .returned (.bool true) ∧ w' = w2)) (i1 : (s == [105, 110, 102]) = false) (i2 : (s == [45, 105, 110, 102]) = false) (i3 : (s == [110, 97, 110]) = false) (er : Int) (n1 : (er != 0) = true)
    (PR : Hid (∀ w' : World, Calls Tryz.prog 91 #[.string ⟨s.toArray⟩] w' (RetPp w' false [] 0 er))) :
    Calls Tryz.prog 38 #[.string ⟨s.toArray⟩, .int .i64 mode] w (RetUBE w 0 false er) := by
  have B : Hid (Below w.heap.size w w) := Lib.hid (Below.refl _ _)
  unfold RetPp at PR
  unfold RetUBE
  go_enter Tryz.func38, Tryz.ntmps38
  go_wp2_with (first
    | (go_at_call 46; refine (KN.out _).mono ?_; rintro e w1 ⟨rfl, rfl⟩)
    | (go_at_call 91; refine (PR.out _).mono ?_; rintro e w1 ⟨rfl, hb⟩; replace B := Lib.hid (bl_thru B.out (Nat.le_refl _) hb); clear hb))
  go_ret3
  exact ⟨rfl, B.out⟩
set_option maxRecDepth 100000 in
set_option maxHeartbeats 2000000 in
theorem rn_zero (s : List UInt8) (mode : Int) (w : World) (KN : Hid (∀ w' : World, Calls Tryz.prog 46 #[.int .i64 mode] w' fun e w2 => e = .returned (.bool true) ∧ w' = w2)) (i1 : (s == [105, 110, 102]) = false) (i2 : (s == [45, 105, 110, 102]) = false) (i3 : (s == [110, 97, 110]) = false) (ng : Bool) (K : Int)
    (PR : Hid (∀ w' : World, Calls Tryz.prog 91 #[.string ⟨s.toArray⟩] w' (RetPp w' ng [] K 0))) :
    Calls Tryz.prog 38 #[.string ⟨s.toArray⟩, .int .i64 mode] w (RetUBE w (if ng = true then 9223372036854775808 else 0) false 0) := by
  have B : Hid (Below w.heap.size w w) := Lib.hid (Below.refl _ _)
  unfold RetPp at PR
  unfold RetUBE
  cases ng
  all_goals
    go_enter Tryz.func38, Tryz.ntmps38
    go_wp2_with (first
      | (go_at_call 46; refine (KN.out _).mono ?_; rintro e w1 ⟨rfl, rfl⟩)
      | (go_at_call 91; refine (PR.out _).mono ?_; rintro e w1 ⟨rfl, hb⟩; replace B := Lib.hid (bl_thru B.out (Nat.le_refl _) hb); clear hb))
    go_ret3
    exact ⟨rfl, B.out⟩
set_option maxRecDepth 100000 in
set_option maxHeartbeats 2000000 in
theorem rn_num (s : List UInt8) (mode : Int) (w : World) (KN : Hid (∀ w' : World, Calls Tryz.prog 46 #[.int .i64 mode] w' fun e w2 => e = .returned (.bool true) ∧ w' = w2)) (i1 : (s == [105, 110, 102]) = false) (i2 : (s == [45, 105, 110, 102]) = false) (i3 : (s == [110, 97, 110]) = false) (ng : Bool) (K : Int) (DS : ByteArray) (zD : DS.toList.isEmpty = false) (X : D)
    (PR : Hid (∀ w' : World, Calls Tryz.prog 91 #[.string ⟨s.toArray⟩] w' fun e w2 => e = .returned (.tuple #[.bool ng, .string DS, .int .i64 K, .int .i64 0]) ∧ Below w'.heap.size w' w2))
    (VL : Hid (∀ w' : World, Tab w' → Calls Tryz.prog 92 #[.bool ng, .string DS, .int .i64 K] w' (RetD w' X)))
    (NB : Hid (∀ v (w' : World), DV w' v X → Calls Tryz.prog 52 #[v, .int .i64 mode] w' fun e w2 => e = .returned (.tuple #[.int .u64 (numR X mode), .bool (numC X)]) ∧ Below w'.heap.size w' w2)) (HT : Hid (Tab w)) :
    Calls Tryz.prog 38 #[.string ⟨s.toArray⟩, .int .i64 mode] w (RetUBE w (numR X mode) (numC X) 0) := by
  have B : Hid (Below w.heap.size w w) := Lib.hid (Below.refl _ _)
  unfold RetUBE
  generalize numR X mode = R at *
  generalize numC X = C at *
  go_enter Tryz.func38, Tryz.ntmps38
  go_wp2_with (first
    | (go_at_call 46; refine (KN.out _).mono ?_; rintro e w1 ⟨rfl, rfl⟩)
    | (go_at_call 91; refine (PR.out _).mono ?_; rintro e w1 ⟨rfl, hb⟩; replace B := Lib.hid (bl_thru B.out (Nat.le_refl _) hb); clear hb)
    | (go_at_call 92; refine (VL.out _ (HT.out.below B.out)).mono ?_; rintro e w2 ⟨v2, rfl, hv, hb⟩; have HV := Lib.hid hv; replace B := Lib.hid (bl_thru B.out (Nat.le_refl _) hb); clear hb hv)
    | (go_at_call 52; refine (NB.out _ _ HV.out).mono ?_; rintro e w3 ⟨rfl, hb⟩; replace B := Lib.hid (bl_thru B.out (Nat.le_refl _) hb); clear hb))
  go_ret3
  exact ⟨rfl, B.out⟩
set_option maxRecDepth 100000 in
set_option maxHeartbeats 2000000 in
theorem rn_arg (S : ByteArray) (mode : Int) (w : World) (KN : Hid (∀ w' : World, Calls Tryz.prog 46 #[.int .i64 mode] w' fun e w2 => e = .returned (.bool false) ∧ w' = w2)) :
    Calls Tryz.prog 38 #[.string S, .int .i64 mode] w (RetUBE w 0 false 1) := by
  unfold RetUBE
  go_enter Tryz.func38, Tryz.ntmps38
  go_wp2_with ((go_at_call 46; refine (KN.out _).mono ?_; rintro e w1 ⟨rfl, rfl⟩))
  go_ret3
  exact ⟨rfl, Below.refl _ _⟩
theorem rnumber_any (s : List UInt8) (S : ByteArray) (hS : S = ⟨s.toArray⟩) (mode : Int) (w : World) (hT : Tab w) :
    Calls Tryz.prog 38 #[.string S, .int .i64 mode] w (RetUBE w (readV s mode) (readC s mode) (readE s mode)) := by
  have KN := Lib.hid (fun w' => known_any mode w')
  by_cases hk : knownB mode = true
  · rw [hk] at KN
    by_cases hi : s = sInf ∨ s = sNinf ∨ s = sNan
    · have eE : readE s mode = 0 := by unfold readE; rw [if_pos hk, if_pos hi]
      have eC : readC s mode = false := by unfold readC; rw [if_pos hk, if_pos hi]
      rw [eE, eC, hS]
      rcases hi with rfl | rfl | rfl
      · have eV : readV sInf mode = 9218868437227405312 := by unfold readV; rw [if_pos hk, if_pos rfl]
        rw [eV]
        exact rn_inf mode w KN
      · have eV : readV sNinf mode = 18442240474082181120 := by unfold readV; rw [if_pos hk, if_neg (by decide), if_pos rfl]
        rw [eV]
        exact rn_ninf mode w KN
      · have eV : readV sNan mode = 9221120237041090560 := by unfold readV; rw [if_pos hk, if_neg (by decide), if_neg (by decide), if_pos rfl]
        rw [eV]
        exact rn_nan mode w KN
    · have i1 : (s == [105, 110, 102]) = false := by rw [beq_eq_false_iff_ne]; exact fun h => hi (Or.inl h)
      have i2 : (s == [45, 105, 110, 102]) = false := by rw [beq_eq_false_iff_ne]; exact fun h => hi (Or.inr (Or.inl h))
      have i3 : (s == [110, 97, 110]) = false := by rw [beq_eq_false_iff_ne]; exact fun h => hi (Or.inr (Or.inr h))
      have PR := Lib.hid (fun w' => rparse_any (rpc_self s) ⟨s.toArray⟩ rfl w')
      have hE0 : rpE s (rWhole s) (rPart s) (rRest s) = rErr s := rfl
      rw [hE0] at PR
      have eE : readE s mode = rErr s := by unfold readE; rw [if_pos hk, if_neg hi]
      rw [eE, hS]
      by_cases he : rErr s = 0
      · have m0 : 0 ≤ mode ∧ mode ≤ 4 := by unfold knownB at hk; rw [decide_eq_true_eq] at hk; exact hk
        have hsl := rerr_len he
        have hK := rExp_bd s hsl
        have hdig := rdig_spec s
        rw [he, if_pos rfl, if_pos rfl, if_pos rfl] at PR
        have hX0 : rpK (rPart s) (rRest s) (rDig s) = rExp s := rfl
        rw [hX0] at PR
        rw [he]
        cases hd : (rDig s).isEmpty
        · obtain ⟨r1, r2⟩ := readV_num s mode hk hi he hd
          rw [r1, r2]
          obtain ⟨n1, n2⟩ := rdN_pos hd
          obtain ⟨DS, hDS⟩ : ∃ T : ByteArray, T = ⟨(rDig s).toArray⟩ := ⟨_, rfl⟩
          unfold RetPp at PR
          rw [← hDS] at PR
          have zD := empt _ _ hDS
          have hNb : rdN s < 2 ^ (4 * (rDig s).length + 1) := dcN_bd _ hdig.1
          obtain ⟨kk, hkk, hkk2⟩ : ∃ kk : Nat, 40000 ≤ kk ∧ kk ≤ 40000 := ⟨40000, by omega, by omega⟩
          obtain ⟨v1, v2, v3, v4⟩ := rv_bd (rNeg s) (L := (rDig s).length) (K := rExp s) (by omega) n1 hNb kk hkk
          have VL := Lib.hid (fun w' ht => rvalue_any (rNeg s) (rDig s) DS hDS hdig.1 (by omega) n1 (rExp s) (by omega) (by omega) w' ht)
          have hdN : dcN 0 (rDig s) = rdN s := rfl
          rw [hdN] at VL
          have NB := Lib.hid (fun v w' h => number_any v (rvD (rNeg s) (rDig s).length (rdN s) (rExp s)) kk mode w' h v1 (by omega) (by omega) (by omega) (fun h => absurd h v4) m0.1 m0.2)
          rw [hd] at zD
          exact rn_num s mode w KN i1 i2 i3 (rNeg s) (rExp s) DS zD _ PR VL NB (Lib.hid hT)
        · have hd0 : rdN s = 0 := by unfold rdN; rw [List.isEmpty_iff.1 hd]; rfl
          have hA : rdA (rdN s) (rExp s) = 0 := by unfold rdA; rw [hd0, Nat.zero_mul]
          have eC : readC s mode = false := by unfold readC ratC; rw [if_pos hk, if_neg hi, if_pos he, hA, if_pos rfl]
          have eV : readV s mode = if rNeg s = true then 9223372036854775808 else 0 := by
            unfold readV rat
            rw [if_pos hk, if_neg (fun e => hi (Or.inl e)), if_neg (fun e => hi (Or.inr (Or.inl e))), if_neg (fun e => hi (Or.inr (Or.inr e))), if_pos he, hA, if_pos rfl]
            simp
          rw [eC, eV]
          rw [List.isEmpty_iff.1 hd] at PR
          exact rn_zero s mode w KN i1 i2 i3 (rNeg s) _ PR
      · have eC : readC s mode = false := by unfold readC; rw [if_pos hk, if_neg hi, if_neg he]
        have eV : readV s mode = 0 := by
          unfold readV
          rw [if_pos hk, if_neg (fun e => hi (Or.inl e)), if_neg (fun e => hi (Or.inr (Or.inl e))), if_neg (fun e => hi (Or.inr (Or.inr e))), if_neg he]
        rw [eC, eV]
        rw [if_neg he, if_neg he, if_neg he] at PR
        exact rn_err s mode w KN i1 i2 i3 (rErr s) (by rw [bne_iff_ne]; exact he) PR
  · have hk0 : knownB mode = false := by cases h : knownB mode; rfl; exact absurd h hk
    have eE : readE s mode = 1 := by unfold readE; rw [if_neg hk]
    have eC : readC s mode = false := by unfold readC; rw [if_neg hk]
    have eV : readV s mode = 0 := by unfold readV; rw [if_neg hk]
    rw [eE, eC, eV]
    rw [hk0] at KN
    exact rn_arg S mode w KN
end Go.Proofs.YthkcbjhjhkpclaaGreatDoor

/-
  THE WALK of readLives.
-/
namespace Go.Proofs.YthkcbjhjhkpclaaGreatDoor
open Go.RowKit Nt Fm Fl

/-- a tenth; -2.5e1 -/
theorem rl_one : readE [48, 46, 49] 0 = 0 ∧ readV [48, 46, 49] 0 = 4591870180066957722 ∧ readC [48, 46, 49] 0 = true := by
  refine ⟨?_, ?_, ?_⟩ <;> kernel_rfl
theorem rl_two : readE [45, 50, 46, 53, 101, 49] 1 = 0 ∧ readV [45, 50, 46, 53, 101, 49] 1 = 13851102128954671104 ∧ readC [45, 50, 46, 53, 101, 49] 1 = false := by
  refine ⟨?_, ?_, ?_⟩ <;> kernel_rfl
set_option maxRecDepth 100000 in
set_option maxHeartbeats 4000000 in
theorem readLives_any (w : World) (hT : Tab w) :
    Calls Tryz.prog 37 #[] w fun e w' => e = .returned (.bool true) ∧ Below w.heap.size w w' := by
  have N1 := Lib.hid (fun w' h => rnumber_any [48, 46, 49] ⟨#[48, 46, 49]⟩ rfl 0 w' h)
  rw [rl_one.1, rl_one.2.1, rl_one.2.2] at N1
  have N2 := Lib.hid (fun w' h => rnumber_any [45, 50, 46, 53, 101, 49] ⟨#[45, 50, 46, 53, 101, 49]⟩ rfl 1 w' h)
  rw [rl_two.1, rl_two.2.1, rl_two.2.2] at N2
  have H0 := Lib.hid hT
  unfold RetUBE at N1 N2
  clear hT
  go_enter Tryz.func37, Tryz.ntmps37
  go_wp2_with (first
    | (go_at_call 38; ((with_reducible refine (N1.out _ H0.out).mono ?_); rintro e w1 ⟨rfl, hb⟩; have H1 := Lib.hid (H0.out.below hb); have B1 := Lib.hid hb; clear hb))
    | (go_at_call 38; ((with_reducible refine (N2.out _ H1.out).mono ?_); rintro e w2 ⟨rfl, hb⟩; have B2 := Lib.hid (bl_thru B1.out (Nat.le_refl _) hb); clear hb))
    | (go_at_call 35; first | ((with_reducible refine (ok_new2 _ _ _ _ (by simp)).mono ?_); rintro e w' ⟨rfl, rfl⟩)))
  all_goals first
    | (go_ret; exact ⟨rfl, B2.out⟩; done)
    | (go_ret; refine ⟨rfl, ?_⟩; have := B2.out; have := B2.out.size; go_grown; done)
    | (exfalso; simp_all [ok2]; done)
    | trace_state
end Go.Proofs.YthkcbjhjhkpclaaGreatDoor
