/-
  wanted.general, value at any specification: what they tell; how long it is.
-/
import Derived.Test.YtofdjfdnckmmmaaGreatDoorWfv
set_option linter.unusedVariables false
set_option linter.unusedSimpArgs false
namespace Go.Proofs.YtofdjfdnckmmmaaGreatDoor
open Go.RowKit Nt Fm Fl

theorem fxS_len {x p : Int} (x0 : 0 ≤ x) (x1 : x ≤ 18446744073709551615) (p0 : 0 ≤ p) (p1 : p ≤ 300) : (fxS x p 0).length ≤ 9500 := by
  unfold fxS
  split
  · obtain ⟨q, rfl⟩ := Int.eq_ofNat_of_zero_le p0
    obtain ⟨K, hK⟩ : ∃ K : Nat, K = 9000 := ⟨_, rfl⟩
    obtain ⟨b1, b2⟩ := vd_bd x0 x1 (t := (q : Int)) (by omega) (by omega) (K := K) (by omega)
    have hq := dQ_lt (valD x) (q : Int) 0 b1
    have hql := dec_len_two (by omega) hq
    have hpl := pt_len_le (dQ (valD x) q 0) q (K + 1) hql
    have hsl := sgS_len x
    rw [List.length_append, Int.toNat_natCast]
    omega
  · simp
theorem scS_len {x g : Int} (x0 : 0 ≤ x) (x1 : x ≤ 18446744073709551615) (g0 : 1 ≤ g) (g1 : g ≤ 300) : (scS x g 0).length ≤ 500 := by
  unfold scS
  split
  · obtain ⟨q, rfl⟩ := Int.eq_ofNat_of_zero_le (show 0 ≤ g by omega)
    rw [Int.toNat_natCast]
    have hmid := val_mid x0 x1
    have hlen := dgT_len hmid (g := q) (by omega) 0
    obtain ⟨bp0, bp1⟩ := dgP_bd hmid q 0
    have hpw := pwS_le (dgP (valD x) q 0) (by omega)
    have hsl := sgS_len x
    have hpl : (pt (dgT (valD x) q 0) (q - 1)).length ≤ 302 := by
      rw [pt_one (by omega) hlen]; split
      · omega
      · simp; omega
    unfold scT
    simp only [List.length_append, List.length_cons, List.length_nil]
    omega
  · simp
theorem hxW_len (x : Int) (d : D) (n : Nat) (hn : n ≤ 100) (h : (hxp d).natAbs < 100000) : (hxW x d n).length ≤ 200 := by
  unfold hxW hxE
  have h1 : (hxP x).length ≤ 3 := by unfold hxP; split <;> simp
  have h2 := itoa_len (hxp d) h
  have h3 := hxD_len (d.m * 2 ^ (4 * n - (blen d.m - 1))) n
  rw [List.length_append]
  split
  · split <;> simp <;> omega
  · simp only [List.length_append]
    rw [h3]
    split <;> split <;> simp <;> omega
theorem hxT_len {x : Int} (x0 : 0 ≤ x) (x1 : x ≤ 18446744073709551615) : (hxT x).length ≤ 200 := by
  obtain ⟨f1, f2, f3, f4, f5⟩ := valD_facts x x0 x1
  have hbl : blen (valD x).m ≤ 53 := blen_le_of f2
  unfold hxT
  split
  · simp
  · split
    · split <;> simp
    · exact hxW_len _ _ _ (by unfold hxq; omega) (by unfold hxp; omega)
theorem hfS_len {x p : Int} (x0 : 0 ≤ x) (x1 : x ≤ 18446744073709551615) (p0 : 0 ≤ p) (p1 : p ≤ 100) : (hfS x p 0).length ≤ 200 := by
  unfold hfS
  split
  · obtain ⟨q, rfl⟩ := Int.eq_ofNat_of_zero_le p0
    rw [Int.toNat_natCast]
    obtain ⟨f1, f2, f3, f4, f5⟩ := valD_facts x x0 x1
    have hbl : blen (valD x).m ≤ 53 := blen_le_of f2
    have hplb : -2500 ≤ hxp (valD x) - 4 * (q : Int) ∧ hxp (valD x) - 4 * (q : Int) ≤ 2500 := by unfold hxp; omega
    obtain ⟨g1, g2, g3⟩ := mulD_bd f2 (hxp (valD x) - 4 * (q : Int)) 0 (by omega) (by omega) hplb.1 hplb.2
    refine hxW_len _ _ _ (by omega) ?_
    have hfit := hf_fit (d := valD x) q 0
    have e : hfD x q 0 = mulD (valD x) (hxp (valD x) - 4 * (q : Int)) 0 := rfl
    rw [e]
    unfold hxp at *
    omega
  · simp
theorem wCut_len (s : List UInt8) : (wCut s).length ≤ s.length := by
  unfold wCut
  have h := congrArg List.length (wAB 101 s)
  have := wCutM_len (wA 101 s)
  rw [List.length_append] at h ⊢
  omega
theorem wGen_len {al : Bool} {x : Int} {g : Nat} (x0 : 0 ≤ x) (x1 : x ≤ 18446744073709551615) (g0 : 1 ≤ g) (g1 : g ≤ 200) : (wGen al x g).length ≤ 9500 := by
  have key : (if -4 ≤ dgP (valD x) g 0 ∧ dgP (valD x) g 0 < (g : Int) then fxS x ((g : Int) - 1 - dgP (valD x) g 0) 0 else scS x g 0).length ≤ 9500 := by
    split
    · rename_i h; exact fxS_len x0 x1 (by omega) (by omega)
    · have := scS_len (g := (g : Int)) x0 x1 (by omega) (by omega); omega
  unfold wGen
  simp only
  split
  · exact key
  · exact Nat.le_trans (wCut_len _) key
theorem wgen_any (v : Int) (mi pl bl ze al : Bool) (wd pr : Int) (x : Int) (x0 : 0 ≤ x) (x1 : x ≤ 18446744073709551615) (q : Nat) (q1 : q ≤ 200) (w : World) (hT : Tab w) (hT10 : Tab10 w) :
    Calls Tryz.prog 50 #[.agg #[.int .i64 v, .bool mi, .bool pl, .bool bl, .bool ze, .bool al, .int .i64 wd, .int .i64 pr], .int .u64 x, .int .i64 (q : Int)] w fun e w' => e = .returned (.string ⟨(wGen al x (max q 1)).toArray⟩) ∧ Below w.heap.size w w' := by
  obtain ⟨g, hg⟩ : ∃ g, g = max q 1 := ⟨_, rfl⟩
  rw [← hg]
  have g0 : 1 ≤ g := by omega
  have g1 : g ≤ 200 := by omega
  have hmid := val_mid x0 x1
  obtain ⟨k0, k1⟩ := dgP_bd hmid g 0
  have VL : Hid (∀ w' : World, Tab w' → Calls Tryz.prog 79 #[.int .u64 x] w' fun e w2 => ∃ vd, e = .returned vd ∧ Hid (DV w2 vd (valD x)) ∧ Below w'.heap.size w' w2) :=
    Lib.hid (fun w' h => (value_any x x0 x1 w' h).mono (by rintro e w2 ⟨vd, h1, h2, h3⟩; exact ⟨vd, h1, Lib.hid h2, h3⟩))
  have DG := Lib.hid (fun vd w' (h : DV w' vd (valD x)) h2 => digits_any vd (valD x) g 0 w' h hmid g0 (by omega) (by omega) (by omega) h2)
  unfold RetSIB at DG
  by_cases hk : -4 ≤ dgP (valD x) g 0 ∧ dgP (valD x) g 0 < (g : Int)
  · have BD := Lib.hid (fun w' h1 h2 => fixed_any x ((g : Int) - 1 - dgP (valD x) g 0) 0 x0 x1 w' h1 h2)
    unfold RetSBE at BD
    have hl := fxS_len (x := x) (p := (g : Int) - 1 - dgP (valD x) g 0) x0 x1 (by omega) (by omega)
    have SH := Lib.hid (fun w' => wshort_any (fxS x ((g : Int) - 1 - dgP (valD x) g 0) 0) _ rfl (by omega) w')
    unfold wGen
    simp only
    rw [if_pos hk]
    cases al
    · rw [if_neg (by decide)]
      exact wgen_10 v mi pl bl ze wd pr x q g (by omega) g0 g1 (by omega) (by omega) _ (by omega) (by omega) (Lib.hid ⟨hk, trivial⟩) _ _ _ _ _ _ w hT hT10 VL DG BD SH
    · rw [if_pos rfl]
      exact wgen_11 v mi pl bl ze wd pr x q g (by omega) g0 g1 (by omega) (by omega) _ (by omega) (by omega) (Lib.hid ⟨hk, trivial⟩) _ _ _ _ _ _ w hT hT10 VL DG BD SH
  · have BD := Lib.hid (fun w' h1 h2 => sci_any x (g : Int) 0 x0 x1 w' h1 h2)
    unfold RetSBE at BD
    have hl := scS_len (x := x) (g := (g : Int)) x0 x1 (by omega) (by omega)
    have SH := Lib.hid (fun w' => wshort_any (scS x (g : Int) 0) _ rfl (by omega) w')
    unfold wGen
    simp only
    rw [if_neg hk]
    cases al
    · rw [if_neg (by decide)]
      exact wgen_00 v mi pl bl ze wd pr x q g (by omega) g0 g1 (by omega) (by omega) _ (by omega) (by omega) (Lib.hid ⟨hk, trivial⟩) _ _ _ _ _ _ w hT hT10 VL DG BD SH
    · rw [if_pos rfl]
      exact wgen_01 v mi pl bl ze wd pr x q g (by omega) g0 g1 (by omega) (by omega) _ (by omega) (by omega) (Lib.hid ⟨hk, trivial⟩) _ _ _ _ _ _ w hT hT10 VL DG BD SH
theorem wPr_nn {pr : Int} (h : 0 ≤ pr) : ((wPr pr : Nat) : Int) = pr := by unfold wPr; rw [if_neg (by omega)]; omega
theorem wPr_neg {pr : Int} (h : pr < 0) : wPr pr = 6 := by unfold wPr; rw [if_pos h]
theorem wVal0_len (f : Spc) {x : Int} (x0 : 0 ≤ x) (x1 : x ≤ 18446744073709551615) (h1 : f.pr ≤ 100) : (wVal0 f x).length ≤ 9500 := by
  have hp : wPr f.pr ≤ 100 := by unfold wPr; split <;> omega
  unfold wVal0
  split
  · exact fxS_len x0 x1 (by omega) (by omega)
  split
  · have := scS_len (g := (wPr f.pr : Int) + 1) x0 x1 (by omega) (by omega); omega
  split
  · exact wGen_len x0 x1 (by omega) (by omega)
  split
  · have := hxT_len x0 x1; omega
  · have := hfS_len (p := f.pr) x0 x1 (by omega) (by omega); omega
theorem wVal_len (f : Spc) {x : Int} (x0 : 0 ≤ x) (x1 : x ≤ 18446744073709551615) (h1 : f.pr ≤ 100) : (wVal f x).length ≤ 9501 := by
  have h := wVal0_len f x0 x1 h1
  unfold wVal
  split
  · unfold wIns
    have h2 := congrArg List.length (wAB (if f.verb = 97 then 112 else 101) (wVal0 f x))
    rw [List.length_append] at h2
    simp only [List.length_append, List.length_cons, List.length_nil]
    omega
  · omega
theorem wvalue_any (f : Spc) (x : Int) (x0 : 0 ≤ x) (x1 : x ≤ 18446744073709551615) (hv : f.verb = 101 ∨ f.verb = 102 ∨ f.verb = 103 ∨ f.verb = 97) (hp0 : -1 ≤ f.pr) (hp1 : f.pr ≤ 100) (w : World) (hT : Tab w) (hT10 : Tab10 w) :
    Calls Tryz.prog 24 #[f.v, .int .u64 x] w fun e w' => e = .returned (.string ⟨(wVal f x).toArray⟩) ∧ Below w.heap.size w w' := by
  obtain ⟨v, mi, pl, bl, ze, al, wd, pr⟩ := f
  have hl := wVal0_len ⟨v, mi, pl, bl, ze, al, wd, pr⟩ x0 x1 hp1
  simp only at hv hp0 hp1
  unfold wVal Spc.v
  simp only
  by_cases hp : pr < 0
  · have hq := wPr_neg hp
    rcases hv with rfl | rfl | rfl | rfl
    · have BD := Lib.hid (fun w' h1 h2 => sci_any x 7 0 x0 x1 w' h1 h2)
      unfold RetSBE at BD
      have e : wVal0 ⟨101, mi, pl, bl, ze, al, wd, pr⟩ x = scS x 7 0 := by unfold wVal0; simp [hq]
      rw [e] at hl ⊢
      exact wvx_ea mi pl bl ze al wd pr hp (by omega) (by omega) x _ _ rfl (by omega) _ _ w hT hT10 BD
    · have BD := Lib.hid (fun w' h1 h2 => fixed_any x 6 0 x0 x1 w' h1 h2)
      unfold RetSBE at BD
      have e : wVal0 ⟨102, mi, pl, bl, ze, al, wd, pr⟩ x = fxS x 6 0 := by unfold wVal0; simp [hq]
      rw [e] at hl ⊢
      exact wvx_fa mi pl bl ze al wd pr hp (by omega) (by omega) x _ _ rfl (by omega) _ _ w hT hT10 BD
    · have BD := Lib.hid (fun w' h1 h2 => wgen_any 103 mi pl bl ze al wd pr x x0 x1 6 (by omega) w' h1 h2)
      have e : wVal0 ⟨103, mi, pl, bl, ze, al, wd, pr⟩ x = wGen al x (max 6 1) := by unfold wVal0; simp [hq]
      rw [e] at hl ⊢
      exact wvx_ga mi pl bl ze al wd pr hp (by omega) (by omega) x _ _ rfl (by omega) true 0 w hT hT10 BD
    · have BD := Lib.hid (fun w' h1 h2 => htext_any x x0 x1 w' h1 h2)
      unfold RetT at BD
      have e : wVal0 ⟨97, mi, pl, bl, ze, al, wd, pr⟩ x = hxT x := by unfold wVal0; simp [hp]
      rw [e] at hl ⊢
      exact wvx_aa mi pl bl ze al wd pr hp (by omega) (by omega) x _ _ rfl (by omega) true 0 w hT hT10 BD
  · have hq := wPr_nn (show 0 ≤ pr by omega)
    rcases hv with rfl | rfl | rfl | rfl
    · have BD := Lib.hid (fun w' h1 h2 => sci_any x (pr + 1) 0 x0 x1 w' h1 h2)
      unfold RetSBE at BD
      have e : wVal0 ⟨101, mi, pl, bl, ze, al, wd, pr⟩ x = scS x (pr + 1) 0 := by unfold wVal0; simp [hq]
      rw [e] at hl ⊢
      exact wvx_eb mi pl bl ze al wd pr (by omega) (by omega) (by omega) x _ _ rfl (by omega) _ _ w hT hT10 BD
    · have BD := Lib.hid (fun w' h1 h2 => fixed_any x pr 0 x0 x1 w' h1 h2)
      unfold RetSBE at BD
      have e : wVal0 ⟨102, mi, pl, bl, ze, al, wd, pr⟩ x = fxS x pr 0 := by unfold wVal0; simp [hq]
      rw [e] at hl ⊢
      exact wvx_fb mi pl bl ze al wd pr (by omega) (by omega) (by omega) x _ _ rfl (by omega) _ _ w hT hT10 BD
    · have BD := Lib.hid (fun w' h1 h2 => wgen_any 103 mi pl bl ze al wd pr x x0 x1 (wPr pr) (by omega) w' h1 h2)
      rw [hq] at BD
      have e : wVal0 ⟨103, mi, pl, bl, ze, al, wd, pr⟩ x = wGen al x (max (wPr pr) 1) := by unfold wVal0; simp
      rw [e] at hl ⊢
      exact wvx_gb mi pl bl ze al wd pr (by omega) (by omega) (by omega) x _ _ rfl (by omega) true 0 w hT hT10 BD
    · have BD := Lib.hid (fun w' h1 h2 => hfixed_any x pr 0 x0 x1 w' h1 h2)
      unfold RetSBE at BD
      have e : wVal0 ⟨97, mi, pl, bl, ze, al, wd, pr⟩ x = hfS x pr 0 := by unfold wVal0; simp [hp]
      rw [e] at hl ⊢
      exact wvx_ab mi pl bl ze al wd pr (by omega) (by omega) (by omega) x _ _ rfl (by omega) _ _ w hT hT10 BD
end Go.Proofs.YtofdjfdnckmmmaaGreatDoor
