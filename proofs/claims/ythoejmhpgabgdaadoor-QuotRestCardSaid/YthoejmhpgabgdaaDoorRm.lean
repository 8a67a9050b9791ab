/-
  THE WALK of quot.Rem.
-/
import Derived.Test.YthoejmhpgabgdaaDoorQv
import Derived.Test.YthoejmhpgabgdaaDoorNa
set_option linter.unusedVariables false
set_option linter.unusedSimpArgs false
namespace Go.Proofs.YthoejmhpgabgdaaDoor
open Go.RowKit Nt Fm Fl

def rmE (x y : Int) : Int := min (valD (fabs x)).e (valD (fabs y)).e
def rmM (x y : Int) : Nat := (valD (fabs x)).m * 2 ^ ((valD (fabs x)).e - rmE x y).toNat
def rmN (x y : Int) : Nat := (valD (fabs y)).m * 2 ^ ((valD (fabs y)).e - rmE x y).toNat
def rmUp (m n : Nat) : Bool := decide (n < 2 * (m % n)) || (decide (2 * (m % n) = n) && decide (m / n % 2 = 1))
def rmR (m n : Nat) : Nat := if rmUp m n = true then n - m % n else m % n
def remV0 (x y : Int) : Int := if rmR (rmM x y) (rmN x y) = 0 then (if fng x = true then 9223372036854775808 else 0) else numR (norm (fng x != rmUp (rmM x y) (rmN x y)) (rmR (rmM x y) (rmN x y)) (rmE x y)) 0
def rmS (x y : Int) : Bool := decide (fcls x = 5) || (decide (fcls y = 5) || (decide (fcls x = 4) || (decide (fcls y = 4) || (decide (fcls x = 1) || decide (fcls y = 1)))))
def rmW (a b x : Int) : Int := if a = 5 ∨ b = 5 ∨ a = 4 ∨ b = 1 then 9221120237041090560 else x
def remV (x y : Int) : Int := if rmS x y = true then rmW (fcls x) (fcls y) x else remV0 x y
theorem fabs_fabs (x : Int) : fabs (fabs x) = fabs x := by unfold fabs; omega
theorem fcls_fabs (x : Int) : fcls (fabs x) = fcls x := by unfold fcls; rw [fabs_fabs]
theorem remV_bd {x y : Int} (x0 : 0 ≤ x) (x1 : x ≤ 18446744073709551615) : 0 ≤ remV x y ∧ remV x y ≤ 18446744073709551615 := by
  have c := numR_bd (norm (fng x != rmUp (rmM x y) (rmN x y)) (rmR (rmM x y) (rmN x y)) (rmE x y)) 0
  unfold remV remV0 rmW
  split
  · split <;> omega
  · split
    · split <;> omega
    · omega
theorem rmS_false {x y : Int} (h : ¬ rmS x y = true) : fcls x ≠ 5 ∧ fcls y ≠ 5 ∧ fcls x ≠ 4 ∧ fcls y ≠ 4 ∧ fcls x ≠ 1 ∧ fcls y ≠ 1 := by
  unfold rmS at h
  simp only [Bool.or_eq_true, decide_eq_true_eq] at h
  omega
theorem and_sign_of {x : Int} (x0 : 0 ≤ x) (x1 : x ≤ 18446744073709551615) : bits .and .u64 x 9223372036854775808 = if fng x = true then 9223372036854775808 else 0 := by
  have h := and_sgn x0 x1 (show (0 : Int) ≤ 0 by decide) (by decide)
  have e : bits .xor .u64 x 0 = x := by
    obtain ⟨a, rfl⟩ := Int.eq_ofNat_of_zero_le x0
    have := u64_xor_nat a 0 (by omega) (by decide)
    simpa using this
  rw [e] at h
  rw [h]
  unfold sgn
  cases hf : fng x
  · rfl
  · rfl
theorem rm_bd (x y : Int) {K : Nat} (hK : K = 2300) : rmM x y < 2 ^ K ∧ rmN x y < 2 ^ K ∧ -1074 ≤ rmE x y ∧ rmE x y ≤ 1100 := by
  have hx := fabs_bd x
  have hy := fabs_bd y
  obtain ⟨f1, f2, f3, f4, -⟩ := valD_facts (fabs x) hx.1 (by omega)
  obtain ⟨g1, g2, g3, g4, -⟩ := valD_facts (fabs y) hy.1 (by omega)
  have key : ∀ (m : Nat) (e : Int), m < 2 ^ 53 → -1074 ≤ e → e ≤ 1100 → m * 2 ^ (e - rmE x y).toNat < 2 ^ K := by
    intro m e h1 h2 h3
    have h4 : (e - rmE x y).toNat ≤ K - 53 := by unfold rmE; omega
    have h5 : 2 ^ (e - rmE x y).toNat ≤ 2 ^ (K - 53) := Nat.pow_le_pow_right (by decide) h4
    calc m * 2 ^ (e - rmE x y).toNat ≤ m * 2 ^ (K - 53) := Nat.mul_le_mul_left _ h5
      _ < 2 ^ 53 * 2 ^ (K - 53) := Nat.mul_lt_mul_of_pos_right h1 (Nat.two_pow_pos _)
      _ = 2 ^ K := by rw [← Nat.pow_add]; congr 1; omega
  refine ⟨key _ _ f2 f3 f4, key _ _ g2 g3 g4, ?_, ?_⟩ <;> unfold rmE <;> omega
set_option maxRecDepth 100000 in
set_option maxHeartbeats 16000000 in
theorem qrem_any (x y : Int) (x0 : 0 ≤ x) (x1 : x ≤ 18446744073709551615) (y0 : 0 ≤ y) (y1 : y ≤ 18446744073709551615) (w : World) (hT : Tab w) :
    Calls Tryd.prog 35 #[.int .u64 x, .int .u64 y] w fun e w' => e = .returned (.int .u64 (remV x y)) ∧ Below w.heap.size w w' := by
  have CX := Lib.hid (fun w' => class_any x x0 x1 w')
  have CY := Lib.hid (fun w' => class_any y y0 y1 w')
  by_cases hS : rmS x y = true
  · have e1 : remV x y = rmW (fcls x) (fcls y) x := by unfold remV; rw [if_pos hS]
    have e4 : fcls x = 5 ∨ fcls y = 5 ∨ fcls x = 4 ∨ fcls y = 4 ∨ fcls x = 1 ∨ fcls y = 1 := by unfold rmS at hS; simpa only [Bool.or_eq_true, decide_eq_true_eq] using hS
    rw [e1]
    clear e1 hS hT
    generalize fcls x = a at *
    generalize fcls y = b at *
    go_enter Tryd.func35, Tryd.ntmps35
    go_wp2_with (first
      | (go_at_call 19; first | ((with_reducible refine (CX.out _).mono ?_); rintro e w' ⟨rfl, rfl⟩) | ((with_reducible refine (CY.out _).mono ?_); rintro e w' ⟨rfl, rfl⟩))
      | (go_at_call 23; exfalso; clear CX CY; simp only [beq_iff_eq, beq_eq_false_iff_ne, ne_eq] at *; omega))
    all_goals
      go_ret
      refine ⟨congrArg (fun z => Ending.returned (.int .u64 z)) ?_, Below.refl _ _⟩
    all_goals (clear CX CY; try simp only [beq_iff_eq, beq_eq_false_iff_ne, ne_eq] at *)
    all_goals (unfold rmW; first | (exfalso; omega) | rw [if_pos (by omega)] | rw [if_neg (by omega)])
  · obtain ⟨a5, b5, a4, b4, a1, b1⟩ := rmS_false hS
    have e1 : remV x y = remV0 x y := by unfold remV; rw [if_neg hS]
    rw [e1]
    have hbx := fabs_bd x
    have hby := fabs_bd y
    have AX := Lib.hid (fun w' => abs_any x x0 x1 w')
    have AY := Lib.hid (fun w' => abs_any y y0 y1 w')
    have VX := Lib.hid (fun w' h => value_any (fabs x) hbx.1 (by omega) w' h)
    have VY := Lib.hid (fun w' h => value_any (fabs y) hby.1 (by omega) w' h)
    obtain ⟨f1, f2, f3, f4, -⟩ := valD_facts (fabs x) hbx.1 (by omega)
    obtain ⟨g1, g2, g3, g4, -⟩ := valD_facts (fabs y) hby.1 (by omega)
    have AL := Lib.hid (fun vc vd w' (hc : DV w' vc (valD (fabs x))) (hd : DV w' vd (valD (fabs y))) => align_any vc vd (valD (fabs x)) (valD (fabs y)) 53 w' hc hd f2 g2 (by omega) (by omega) (by omega) (by omega) (by omega))
    have er1 : (valD (fabs x)).m * 2 ^ ((valD (fabs x)).e - min (valD (fabs x)).e (valD (fabs y)).e).toNat = rmM x y := rfl
    have er2 : (valD (fabs y)).m * 2 ^ ((valD (fabs y)).e - min (valD (fabs x)).e (valD (fabs y)).e).toNat = rmN x y := rfl
    have er3 : min (valD (fabs x)).e (valD (fabs y)).e = rmE x y := rfl
    rw [er1, er2, er3] at AL
    obtain ⟨K, hK⟩ : ∃ K, K = 2300 := ⟨_, rfl⟩
    obtain ⟨m1, m2, m3, m4⟩ := rm_bd x y hK
    have hK1 : K ≤ 2300 := by omega
    clear hK
    have hn0 : rmN x y ≠ 0 := by
      intro h
      rcases Nat.mul_eq_zero.1 h with h | h
      · exact m_of_cls hby.1 (by omega) (by rw [fcls_fabs]; exact b5) (by rw [fcls_fabs]; exact b4) (by rw [fcls_fabs]; exact b1) h
      · have := Nat.two_pow_pos ((valD (fabs y)).e - rmE x y).toNat; omega
    have hsg : ((x / 9223372036854775808) == 1) = fng x := by
      unfold fng
      by_cases h : 9223372036854775808 ≤ x
      · rw [decide_eq_true h, beq_iff_eq]; omega
      · rw [decide_eq_false h, beq_eq_false_iff_ne]; omega
    have hand := and_sign_of x0 x1
    have e2 : remV0 x y = if rmR (rmM x y) (rmN x y) = 0 then (if fng x = true then 9223372036854775808 else 0) else numR (norm (fng x != rmUp (rmM x y) (rmN x y)) (rmR (rmM x y) (rmN x y)) (rmE x y)) 0 := rfl
    rw [e2]
    generalize rmM x y = M at *
    generalize rmN x y = N at *
    generalize rmE x y = E at *
    generalize hsgn : (if fng x = true then (9223372036854775808 : Int) else 0) = SG at *
    have OV := Lib.hid (fun va vb w' (ha : NV w' va M) (hb : NV w' vb N) => over_any va vb M N K w' ha hb (by omega) m1 (by omega))
    have hr : M % N < N := Nat.mod_lt _ (by omega)
    have LE := Lib.hid (fun va w' (h : NV w' va (M % N)) => left_any va (M % N) 1 K 1 w' h rfl (Nat.lt_trans hr m2) (by omega) (by decide))
    rw [Nat.pow_one] at LE
    have CM := Lib.hid (fun va vb w' (h : NV w' va (M % N * 2)) (h2 : NV w' vb N) => compare_any va vb _ _ w' h h2)
    have MI := Lib.hid (fun va vb w' (h : NV w' va N) (h2 : NV w' vb (M % N)) => minus_any va vb N (M % N) K w' h h2 (Nat.le_of_lt hr) m2 (by omega))
    have NO := Lib.hid (fun neg va r w' hT' (h : NV w' va r) (hlt : r < 2 ^ K) => dnorm_any neg va r K E w' hT' h hlt (by omega) (by omega) (by omega))
    have NU := Lib.hid (fun neg v r w' (hlt : r < 2 ^ K) (h : DV w' v (norm neg r E)) => number_any v (norm neg r E) K 0 w' h (Nat.lt_of_le_of_lt (norm_bd neg E hlt).1 hlt) (by omega)
      (by rcases (norm_bd neg E hlt).2 with h | h
          · rw [h]; decide
          · omega)
      (by rcases (norm_bd neg E hlt).2 with h | h
          · rw [h]; decide
          · omega) (nf_e (norm_nf neg r E)) (by decide) (by decide))
    have RB : Hid (M % N < 2 ^ K ∧ N - M % N < 2 ^ K ∧ N - M % N ≠ 0) := Lib.hid ⟨Nat.lt_trans hr m2, Nat.lt_of_le_of_lt (Nat.sub_le _ _) m2, by omega⟩
    have hcase : (rmUp M N = true ∧ rmR M N = N - M % N ∧ (0 < sgn2 ((M % N * 2 : Nat) : Int) (N : Int) ∨ (sgn2 ((M % N * 2 : Nat) : Int) (N : Int) = 0 ∧ M / N % 2 = 1))) ∨
        (rmUp M N = false ∧ rmR M N = M % N ∧ (sgn2 ((M % N * 2 : Nat) : Int) (N : Int) < 0 ∨ (sgn2 ((M % N * 2 : Nat) : Int) (N : Int) = 0 ∧ M / N % 2 = 0))) := by
      unfold rmR
      cases hu : rmUp M N
      · right
        refine ⟨rfl, rfl, ?_⟩
        unfold rmUp at hu
        simp only [Bool.or_eq_false_iff, Bool.and_eq_false_iff, decide_eq_false_iff_not] at hu
        unfold sgn2
        rcases Nat.lt_trichotomy (M % N * 2) N with h | h | h
        · left; rw [if_pos (by omega)]; decide
        · right; rw [if_neg (by omega), if_neg (by omega)]; exact ⟨rfl, by omega⟩
        · exfalso; omega
      · left
        refine ⟨rfl, rfl, ?_⟩
        unfold rmUp at hu
        simp only [Bool.or_eq_true, Bool.and_eq_true, decide_eq_true_eq] at hu
        unfold sgn2
        rcases Nat.lt_trichotomy (M % N * 2) N with h | h | h
        · exfalso; omega
        · right; rw [if_neg (by omega), if_neg (by omega)]; exact ⟨rfl, by omega⟩
        · left; rw [if_neg (by omega), if_pos (by omega)]; decide
    generalize sgn2 ((M % N * 2 : Nat) : Int) (N : Int) = sg at *
    generalize M % N * 2 = r2 at *
    generalize M % N = r at *
    generalize M / N = q at *
    have c1 : (fcls x == 5) = false := by rw [beq_eq_false_iff_ne]; exact a5
    have c2 : (fcls y == 5) = false := by rw [beq_eq_false_iff_ne]; exact b5
    have c3 : (fcls x == 4) = false := by rw [beq_eq_false_iff_ne]; exact a4
    have c4 : (fcls y == 4) = false := by rw [beq_eq_false_iff_ne]; exact b4
    have c5 : (fcls x == 1) = false := by rw [beq_eq_false_iff_ne]; exact a1
    have c6 : (fcls y == 1) = false := by rw [beq_eq_false_iff_ne]; exact b1
    have HT := Lib.hid hT
    have HCASE := Lib.hid hcase
    clear hT e1 e2 hS f1 f2 f3 f4 g1 g2 g3 g4 a5 b5 a4 b4 a1 b1 er1 er2 er3 hcase hr hn0 m1 m2 m3 m4 hbx hby
    generalize rmUp M N = up at *
    generalize rmR M N = rr at *
    generalize fng x = n at *
    generalize fcls x = a at *
    generalize fcls y = b at *
    generalize fabs x = fx at *
    generalize fabs y = fy at *
    obtain ⟨OUT, hOUT⟩ : ∃ OUT, OUT = (if rr = 0 then SG else numR (norm (n != up) rr E) 0) := ⟨_, rfl⟩
    rw [← hOUT]
    have HOUT : Hid (OUT = (if rr = 0 then SG else numR (norm (n != up) rr E) 0) ∧ True) := Lib.hid ⟨hOUT, trivial⟩
    clear hOUT
    go_enter Tryd.func35, Tryd.ntmps35
    go_wp2_with (first
      | (go_at_call 19; first | ((with_reducible refine (CX.out _).mono ?_); rintro e w' ⟨rfl, rfl⟩) | ((with_reducible refine (CY.out _).mono ?_); rintro e w' ⟨rfl, rfl⟩))
      | (go_at_call 23; first | ((with_reducible refine (AX.out _).mono ?_); rintro e w' ⟨rfl, rfl⟩) | ((with_reducible refine (AY.out _).mono ?_); rintro e w' ⟨rfl, rfl⟩)))
    refine (VX.out _ HT.out).mono ?_
    rintro r0 w1 ⟨v1, rfl, h1, hb⟩
    have V1 := Lib.hid h1
    have B1 : Hid (Below w.heap.size w w1) := Lib.hid hb
    clear h1 hb
    go_wp2_with (go_at_call 23; first | ((with_reducible refine (AX.out _).mono ?_); rintro e w' ⟨rfl, rfl⟩) | ((with_reducible refine (AY.out _).mono ?_); rintro e w' ⟨rfl, rfl⟩))
    refine (VY.out _ (HT.out.below B1.out)).mono ?_
    rintro r0 w2 ⟨v2, rfl, h2, hb⟩
    have V1' := Lib.hid (V1.out.below hb)
    have V2 := Lib.hid h2
    have B2 := Lib.hid (bl_thru B1.out (Nat.le_refl _) hb)
    clear h2 hb
    go_wp2_with fail
    refine (AL.out _ _ _ V1'.out V2.out).mono ?_
    rintro r0 w3 ⟨vm, vn, rfl, h3, h3', hb⟩
    have VM := Lib.hid h3
    have VN := Lib.hid h3'
    have B3 := Lib.hid (bl_thru B2.out (Nat.le_refl _) hb)
    clear h3 h3' hb
    go_wp2_with fail
    refine (OV.out _ _ _ VM.out VN.out).mono ?_
    rintro r0 w4 ⟨vq, vr, rfl, h4, h4', hb⟩
    have VQ := Lib.hid h4
    have VR := Lib.hid h4'
    have VN4 := Lib.hid (VN.out.below hb)
    have B4 := Lib.hid (bl_thru B3.out (Nat.le_refl _) hb)
    clear h4 h4' hb
    go_wp2_with fail
    refine (LE.out _ _ VR.out).mono ?_
    rintro r0 w5 ⟨v5, rfl, h5, hb⟩
    have V5 := Lib.hid h5
    have VQ5 := Lib.hid (VQ.out.below hb)
    have VR5 := Lib.hid (VR.out.below hb)
    have VN5 := Lib.hid (VN4.out.below hb)
    have B5 := Lib.hid (bl_thru B4.out (Nat.le_refl _) hb)
    clear h5 hb
    go_wp2_with fail
    refine (CM.out _ _ _ V5.out VN5.out).mono ?_
    rintro r0 w6 ⟨rfl, n6, rfl⟩
    obtain ⟨aq, nq, cq, rfl, hnq1, hnq2, hodd⟩ := limb_odd (VQ5.out.drewN n6)
    obtain ⟨ar, nr, cr, rfl, l1, l2, lz⟩ := nv_len (VR5.out.drewN n6)
    have VR6 := Lib.hid (VR5.out.drewN n6)
    have VN6 := Lib.hid (VN5.out.drewN n6)
    have B6 := Lib.hid (below_to_drewN (n := n6) B5.out)
    rcases HCASE.out with ⟨h1, h2, h3⟩ | ⟨h1, h2, h3⟩
    all_goals
      rw [h1, h2] at HOUT
      clear h1 h2
    · have EO : Hid (OUT = numR (norm (!n) (N - r) E) 0 ∧ True) := Lib.hid ⟨by
        have := HOUT.out.1
        rw [if_neg RB.out.2.2] at this
        rw [this]; cases n <;> rfl, trivial⟩
      have hway : 0 < sg ∨ (sg = 0 ∧ 0 < nq ∧ ∃ b off d, aq = some ⟨b, off, none⟩ ∧ (w5.drewN n6).cell? ⟨b, off, none⟩ = some (.int .u32 ((d : Nat) : Int)) ∧ ((d : Int) % 2 == 1) = true ∧ d < 4294967296) := by
        rcases h3 with h | ⟨h, h'⟩
        · exact Or.inl h
        · right
          rcases hodd with ⟨k1, k2⟩ | ⟨k1, b, off, d, k2, k3, k4, k5, k6⟩
          · exfalso; omega
          · exact ⟨h, k1, b, off, d, k2, k5, by rw [beq_iff_eq]; omega, k4⟩
      clear h3 hodd lz HCASE HOUT
      rcases hway with hsg | ⟨rfl, hnq, bq, oq, d, rfl, hcd, hd1, hd2⟩
      all_goals
        go_wp2_with fail
        refine (MI.out _ _ _ VN6.out VR6.out).mono ?_
        rintro r0 w7 ⟨v7, rfl, h7, hb⟩
        obtain ⟨a7, n7, c7, rfl, k1, k2, kz⟩ := nv_len h7
        have hn7 : 1 ≤ n7 := by have := RB.out.2.2; omega
        have V7 := Lib.hid h7
        have B7 := Lib.hid (bl_thru B6.out (Nat.le_refl _) hb)
        clear h7 hb kz
        go_wp2_with fail
        refine (NO.out _ _ _ _ (HT.out.below B7.out) V7.out RB.out.2.1).mono ?_
        rintro r0 w8 ⟨v8, rfl, h8, hb⟩
        have V8 := Lib.hid h8
        have B8 := Lib.hid (bl_thru B7.out (Nat.le_refl _) hb)
        clear h8 hb
        go_wp2_with fail
        refine (NU.out _ _ _ _ RB.out.2.1 V8.out).mono ?_
        rintro r0 w9 ⟨rfl, hb⟩
        have B9 := Lib.hid (bl_thru B8.out (Nat.le_refl _) hb)
        clear hb
        go_wp2
        go_ret
        exact ⟨by rw [EO.out.1]; try rfl, B9.out⟩
    · have hway : sg < 0 ∨ (sg = 0 ∧ nq ≤ 0) ∨ (sg = 0 ∧ 0 < nq ∧ ∃ b off d, aq = some ⟨b, off, none⟩ ∧ (w5.drewN n6).cell? ⟨b, off, none⟩ = some (.int .u32 ((d : Nat) : Int)) ∧ ((d : Int) % 2 == 1) = false ∧ d < 4294967296) := by
        rcases h3 with h | ⟨h, h'⟩
        · exact Or.inl h
        · right
          rcases hodd with ⟨k1, k2⟩ | ⟨k1, b, off, d, k2, k3, k4, k5, k6⟩
          · exact Or.inl ⟨h, k1⟩
          · exact Or.inr ⟨h, k1, b, off, d, k2, k5, by rw [beq_eq_false_iff_ne]; omega, k4⟩
      have hrz : (r = 0 ∧ nr = 0 ∧ Hid (OUT = SG ∧ True)) ∨ (1 ≤ nr ∧ Hid (OUT = numR (norm n r E) 0 ∧ True)) := by
        have := HOUT.out.1
        rcases lz with ⟨k1, k2⟩ | ⟨k1, k2⟩
        · left; rw [if_pos k1] at this; exact ⟨k1, k2, Lib.hid ⟨this, trivial⟩⟩
        · right; rw [if_neg k1] at this; exact ⟨k2, Lib.hid ⟨by rw [this]; cases n <;> rfl, trivial⟩⟩
      clear h3 hodd lz HCASE HOUT
      rcases hrz with ⟨rfl, rfl, EO⟩ | ⟨hnr, EO⟩
      · rcases hway with hsg | ⟨rfl, hnq⟩ | ⟨rfl, hnq, bq, oq, d, rfl, hcd, hd1, hd2⟩
        all_goals
          go_wp2_with fail
          go_ret
          exact ⟨by rw [EO.out.1]; try rfl, B6.out⟩
      · rcases hway with hsg | ⟨rfl, hnq⟩ | ⟨rfl, hnq, bq, oq, d, rfl, hcd, hd1, hd2⟩
        all_goals
          go_wp2_with fail
          refine (NO.out _ _ _ _ (HT.out.below B6.out) VR6.out RB.out.1).mono ?_
          rintro r0 w8 ⟨v8, rfl, h8, hb⟩
          have V8 := Lib.hid h8
          have B8 := Lib.hid (bl_thru B6.out (Nat.le_refl _) hb)
          clear h8 hb
          go_wp2_with fail
          refine (NU.out _ _ _ _ RB.out.1 V8.out).mono ?_
          rintro r0 w9 ⟨rfl, hb⟩
          have B9 := Lib.hid (bl_thru B8.out (Nat.le_refl _) hb)
          clear hb
          go_wp2
          go_ret
          exact ⟨by rw [EO.out.1]; try rfl, B9.out⟩
end Go.Proofs.YthoejmhpgabgdaaDoor
