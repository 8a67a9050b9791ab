/-
  SOME OF MY TEXTS in one: Pf1 Pf2 Pf3 Pe. Each says what it proves.
-/
import Derived.Test.YthlocmhfjandlaaGreatDoorBp
set_option linter.unusedVariables false
set_option linter.unusedSimpArgs false
/-
  THE WALK of prod.Fma, part 1: both are numbers.
-/
namespace Go.Proofs.YthlocmhfjandlaaGreatDoor
open Go.RowKit Nt Fm Fl

set_option maxRecDepth 100000 in
set_option maxHeartbeats 8000000 in
theorem pfma_1 (x y z mode : Int) (x0 : 0 ≤ x) (x1 : x ≤ 18446744073709551615) (y0 : 0 ≤ y) (y1 : y ≤ 18446744073709551615) (z0 : 0 ≤ z) (z1 : z ≤ 18446744073709551615) (hk : knownB mode = true) (k5 : (fcls z == 5) = false) (k4 : (fcls z == 4) = false) (hsb : spB x y = false) (h1 : (fsD x y z).m ≠ 0) (w : World) (hT : Tab w) :
    Calls Tryz.prog 18 #[.int .u64 x, .int .u64 y, .int .u64 z, .int .i64 mode] w fun e w' => e = .returned (.tuple #[.int .u64 (numR (fsD x y z) mode), .bool (numC (fsD x y z)), .int .i64 0]) ∧ Below w.heap.size w w' := by
  have e3 : adE mode = 0 := (@fmV_yes x y z mode hk).2.2
  have hm : 0 ≤ mode ∧ mode ≤ 4 := by unfold knownB at hk; simpa using hk
  have gb := sgn_bd x y
  have hsp := fun w' => special_any x y x0 x1 y0 y1 w'
  rw [hsb] at hsp
  have hex := fun w' h => exactp_any x y x0 x1 y0 y1 w' h
  have hsg := fun w' => psign_any x y x0 x1 y0 y1 w'
  have hcl := fun w' => class_any z z0 z1 w'
  have hval := fun w' h => value_any z z0 z1 w' h
  have had2 := fun w' h => sadd_any (sgn x y) z mode gb.1 (by omega) z0 z1 w' h
  rw [e3, (adV_yes hk).1, (adV_yes hk).2] at had2
  obtain ⟨p1, p2, p3⟩ := prD_bd x y x0 x1 y0 y1
  obtain ⟨f1, f2, f3, f4, -⟩ := valD_facts z z0 z1
  have hpl := fun v1 v2 w' h0 h1 h2 => dplus_any v1 v2 (prD x y) (valD z) 106 w' h0 h1 h2 p1 (lt_pow f2 (by omega)) (by omega) (by omega) (by omega) (by omega) (by omega)
  obtain ⟨q, hq, s1, s2, s3⟩ := fsD_bd x y z x0 x1 y0 y1 z0 z1
  have hz := nf_e (plus_Nf (prD x y) (valD z))
  have hnum := fun v w' h => number_any v (fsD x y z) q mode w' h s1 (by omega) (by omega) (by omega) hz hm.1 hm.2
  have hfs : fsD x y z = plus (prD x y) (valD z) := rfl
  rw [← hfs] at hpl
  clear hfs e3 gb p1 p2 p3 f1 f2 f3 f4 s1 s2 s3 hz hq hm hsb
  generalize allV [sgn x y, z] mode = A2 at *
  generalize allC [sgn x y, z] = C2 at *
  generalize spV x y = sv at *
  generalize sgn x y = sg at *
  generalize numR (fsD x y z) mode = nR at *
  generalize numC (fsD x y z) = nC at *
  generalize fsD x y z = S at *
  generalize prD x y = P at *
  generalize valD z = vz at *
  generalize fcls z = cz at *
  have HSP := Lib.hid hsp
  have HEX := Lib.hid hex
  have HSG := Lib.hid hsg
  have HNUM := Lib.hid hnum
  have HCL := Lib.hid hcl
  have HVAL := Lib.hid hval
  have HA2 := Lib.hid had2
  have HPL := Lib.hid hpl
  have HT := Lib.hid hT
  have HK : Hid (knownB mode = true) := Lib.hid hk
  clear hsp hex hsg hnum hcl hval had2 hpl hT
  have H1 := Lib.hid h1
  clear h1
  go_enter Tryz.func18, Tryz.ntmps18
  go_wp2_with (first | (go_at_call 54; refine (known_any _ _).mono ?_; rintro e w' ⟨rfl, rfl⟩) | (go_at_call 55; (with_reducible refine (HSP.out _).mono ?_); rintro e w' ⟨rfl, rfl⟩) | (go_at_call 24; (with_reducible refine (HCL.out _).mono ?_); rintro e w' ⟨rfl, rfl⟩))
  refine (HEX.out _ HT.out).mono ?_
  rintro r w1 ⟨v1, rfl, ⟨s1, rfl, h1⟩, hb⟩
  obtain ⟨a1, n1, c1, rfl, l1, l2, lz⟩ := nv_len h1
  have LZ := Lib.hid lz
  have V1 := Lib.hid h1
  have B1 : Hid (Below w.heap.size w w1) := Lib.hid hb
  clear h1 hb lz
  go_wp2_with fail
  obtain ⟨V, hV⟩ : ∃ V, V = w1.alloc (.cells #[.bool P.neg, .slice a1 n1 c1, .int .i64 P.e] 40) := ⟨_, rfl⟩
  have BV := Lib.hid (B1.out.alloc B1.out.size (.cells #[.bool P.neg, .slice a1 n1 c1, .int .i64 P.e] 40))
  have XV := Lib.hid (Box.new w1 (.bool P.neg) (.slice a1 n1 c1) (.int .i64 P.e) 40)
  have VV := Lib.hid (V1.out.alloc (.cells #[.bool P.neg, .slice a1 n1 c1, .int .i64 P.e] 40))
  rw [← hV] at BV XV VV ⊢
  have hXlt := XV.out.lt
  clear hV
  obtain ⟨q0, q1, q2, f0, f1, f2⟩ := XV.out.cells
  go_region_with (first
    | (go_at_call 59; refine (HVAL.out _ (HT.out.below (by have := BV.out; have := BV.out.size; go_grown))).mono ?_; rintro r w2 ⟨v2, rfl, ⟨s2, rfl, hv⟩, hb⟩; obtain ⟨a2, n2, c2, rfl⟩ := hv.shape; have VO2 := Lib.hid hv; have R2 := Lib.hid (show Below V.heap.size V w2 from bl_thru (by go_grown) (Nat.le_refl _) hb)
       try have Z2 := Lib.hid (Box.below (Box.drew (Box.new V (.bool false) (.slice none 0 0) (.int .i64 0) 40)) hb)
       have R2s : V.heap.size ≤ w2.heap.size := R2.out.size
       have X2 := XV.out.below R2.out; have X2l := X2.lt
       obtain ⟨q0, q1, q2, f0, f1, f2⟩ := X2.cells; clear hv hb X2)
    | (go_at_call 58; refine (HPL.out _ _ _ (HT.out.below (by have hBB := BV.out.trans (R2.out.mono BV.out.size); have := hBB.size; go_grown)) ⟨_, rfl, (VV.out.below (by have := R2.out; go_grown))⟩ ⟨_, rfl, (VO2.out.below (by go_grown))⟩).mono ?_; rintro r w3 ⟨v3, rfl, ⟨s3, rfl, hv⟩, hb⟩; obtain ⟨a3, n3, c3, rfl, m1, m2, mz⟩ := nv_len hv; have VZ3 := Lib.hid hv; have MZ := Lib.hid mz; have R3 := Lib.hid (show Below V.heap.size V w3 from bl_thru (by have := R2.out; go_grown) (Nat.le_refl _) hb)
       first
         | (have Z3 := Lib.hid (Box.below (Box.new w2 (.bool false) (.slice none 0 0) (.int .i64 0) 40) hb)
            have Z3l := Z3.out.lt
            obtain ⟨p0, p1, p2, g0, g1, g2⟩ := Z3.out.cells)
         | (have Z3 := Lib.hid (Box.below Z2.out hb)
            have Z3l := Z3.out.lt
            obtain ⟨p0, p1, p2, g0, g1, g2⟩ := Z3.out.cells)
         | skip
       clear hv hb mz))
  all_goals
    have R3s : V.heap.size ≤ w3.heap.size := R3.out.size
    have X3 := Lib.hid (XV.out.below R3.out)
    obtain ⟨y0, y1, y2, y3, y4, y5⟩ := X3.out.cells
    have hXl := X3.out.lt
    have B3 := Lib.hid (BV.out.trans (R3.out.mono BV.out.size))
    have hn3 : 1 ≤ n3 := by have := MZ.out; have := H1.out; omega
    go_wp2_with fail
    first
      | ((with_reducible refine (HNUM.out _ (w3.alloc _) ?_).mono ?_)
         · exact ⟨_, rfl, VZ3.out.alloc _⟩
         rintro r w4 ⟨rfl, hb⟩
         have B4 : Hid (Below w.heap.size w w4) := Lib.hid (bl_thru (B3.out.alloc B3.out.size _) (Nat.le_refl _) hb))
      | ((with_reducible refine (HNUM.out _ (((w3.setCell _ _).setCell _ _).setCell _ _) ?_).mono ?_)
         · exact ⟨_, rfl, VZ3.out.setD Z3.out⟩
         rintro r w4 ⟨rfl, hb⟩
         have B4 : Hid (Below w.heap.size w w4) := Lib.hid (bl_thru (bl_set3 B3.out (by have := BV.out.size; omega) _ _ _) (Nat.le_refl _) hb))
    clear hb
    go_wp2
    go_ret3
    exact ⟨rfl, B4.out⟩
end Go.Proofs.YthlocmhfjandlaaGreatDoor

/-
  THE WALK of prod.Fma, part 2: both are numbers.
-/
namespace Go.Proofs.YthlocmhfjandlaaGreatDoor
open Go.RowKit Nt Fm Fl

set_option maxRecDepth 100000 in
set_option maxHeartbeats 8000000 in
theorem pfma_2 (x y z mode : Int) (x0 : 0 ≤ x) (x1 : x ≤ 18446744073709551615) (y0 : 0 ≤ y) (y1 : y ≤ 18446744073709551615) (z0 : 0 ≤ z) (z1 : z ≤ 18446744073709551615) (hk : knownB mode = true) (k5 : (fcls z == 5) = false) (k4 : (fcls z == 4) = false) (hsb : spB x y = false) (h1 : (fsD x y z).m = 0) (h2 : (prD x y).m = 0) (w : World) (hT : Tab w) :
    Calls Tryz.prog 18 #[.int .u64 x, .int .u64 y, .int .u64 z, .int .i64 mode] w fun e w' => e = .returned (.tuple #[.int .u64 (allV [sgn x y, z] mode), .bool (allC [sgn x y, z]), .int .i64 0]) ∧ Below w.heap.size w w' := by
  have e3 : adE mode = 0 := (@fmV_yes x y z mode hk).2.2
  have hm : 0 ≤ mode ∧ mode ≤ 4 := by unfold knownB at hk; simpa using hk
  have gb := sgn_bd x y
  have hsp := fun w' => special_any x y x0 x1 y0 y1 w'
  rw [hsb] at hsp
  have hex := fun w' h => exactp_any x y x0 x1 y0 y1 w' h
  have hsg := fun w' => psign_any x y x0 x1 y0 y1 w'
  have hcl := fun w' => class_any z z0 z1 w'
  have hval := fun w' h => value_any z z0 z1 w' h
  have had2 := fun w' h => sadd_any (sgn x y) z mode gb.1 (by omega) z0 z1 w' h
  rw [e3, (adV_yes hk).1, (adV_yes hk).2] at had2
  obtain ⟨p1, p2, p3⟩ := prD_bd x y x0 x1 y0 y1
  obtain ⟨f1, f2, f3, f4, -⟩ := valD_facts z z0 z1
  have hpl := fun v1 v2 w' h0 h1 h2 => dplus_any v1 v2 (prD x y) (valD z) 106 w' h0 h1 h2 p1 (lt_pow f2 (by omega)) (by omega) (by omega) (by omega) (by omega) (by omega)
  obtain ⟨q, hq, s1, s2, s3⟩ := fsD_bd x y z x0 x1 y0 y1 z0 z1
  have hz := nf_e (plus_Nf (prD x y) (valD z))
  have hnum := fun v w' h => number_any v (fsD x y z) q mode w' h s1 (by omega) (by omega) (by omega) hz hm.1 hm.2
  have hfs : fsD x y z = plus (prD x y) (valD z) := rfl
  rw [← hfs] at hpl
  clear hfs e3 gb p1 p2 p3 f1 f2 f3 f4 s1 s2 s3 hz hq hm hsb
  generalize allV [sgn x y, z] mode = A2 at *
  generalize allC [sgn x y, z] = C2 at *
  generalize spV x y = sv at *
  generalize sgn x y = sg at *
  generalize numR (fsD x y z) mode = nR at *
  generalize numC (fsD x y z) = nC at *
  generalize fsD x y z = S at *
  generalize prD x y = P at *
  generalize valD z = vz at *
  generalize fcls z = cz at *
  have HSP := Lib.hid hsp
  have HEX := Lib.hid hex
  have HSG := Lib.hid hsg
  have HNUM := Lib.hid hnum
  have HCL := Lib.hid hcl
  have HVAL := Lib.hid hval
  have HA2 := Lib.hid had2
  have HPL := Lib.hid hpl
  have HT := Lib.hid hT
  have HK : Hid (knownB mode = true) := Lib.hid hk
  clear hsp hex hsg hnum hcl hval had2 hpl hT
  have H1 := Lib.hid h1
  clear h1
  have H2 := Lib.hid h2
  clear h2
  go_enter Tryz.func18, Tryz.ntmps18
  go_wp2_with (first | (go_at_call 54; refine (known_any _ _).mono ?_; rintro e w' ⟨rfl, rfl⟩) | (go_at_call 55; (with_reducible refine (HSP.out _).mono ?_); rintro e w' ⟨rfl, rfl⟩) | (go_at_call 24; (with_reducible refine (HCL.out _).mono ?_); rintro e w' ⟨rfl, rfl⟩))
  refine (HEX.out _ HT.out).mono ?_
  rintro r w1 ⟨v1, rfl, ⟨s1, rfl, h1⟩, hb⟩
  obtain ⟨a1, n1, c1, rfl, l1, l2, lz⟩ := nv_len h1
  have LZ := Lib.hid lz
  have V1 := Lib.hid h1
  have B1 : Hid (Below w.heap.size w w1) := Lib.hid hb
  clear h1 hb lz
  go_wp2_with fail
  obtain ⟨V, hV⟩ : ∃ V, V = w1.alloc (.cells #[.bool P.neg, .slice a1 n1 c1, .int .i64 P.e] 40) := ⟨_, rfl⟩
  have BV := Lib.hid (B1.out.alloc B1.out.size (.cells #[.bool P.neg, .slice a1 n1 c1, .int .i64 P.e] 40))
  have XV := Lib.hid (Box.new w1 (.bool P.neg) (.slice a1 n1 c1) (.int .i64 P.e) 40)
  have VV := Lib.hid (V1.out.alloc (.cells #[.bool P.neg, .slice a1 n1 c1, .int .i64 P.e] 40))
  rw [← hV] at BV XV VV ⊢
  have hXlt := XV.out.lt
  clear hV
  obtain ⟨q0, q1, q2, f0, f1, f2⟩ := XV.out.cells
  go_region_with (first
    | (go_at_call 59; refine (HVAL.out _ (HT.out.below (by have := BV.out; have := BV.out.size; go_grown))).mono ?_; rintro r w2 ⟨v2, rfl, ⟨s2, rfl, hv⟩, hb⟩; obtain ⟨a2, n2, c2, rfl⟩ := hv.shape; have VO2 := Lib.hid hv; have R2 := Lib.hid (show Below V.heap.size V w2 from bl_thru (by go_grown) (Nat.le_refl _) hb)
       try have Z2 := Lib.hid (Box.below (Box.drew (Box.new V (.bool false) (.slice none 0 0) (.int .i64 0) 40)) hb)
       have R2s : V.heap.size ≤ w2.heap.size := R2.out.size
       have X2 := XV.out.below R2.out; have X2l := X2.lt
       obtain ⟨q0, q1, q2, f0, f1, f2⟩ := X2.cells; clear hv hb X2)
    | (go_at_call 58; refine (HPL.out _ _ _ (HT.out.below (by have hBB := BV.out.trans (R2.out.mono BV.out.size); have := hBB.size; go_grown)) ⟨_, rfl, (VV.out.below (by have := R2.out; go_grown))⟩ ⟨_, rfl, (VO2.out.below (by go_grown))⟩).mono ?_; rintro r w3 ⟨v3, rfl, ⟨s3, rfl, hv⟩, hb⟩; obtain ⟨a3, n3, c3, rfl, m1, m2, mz⟩ := nv_len hv; have VZ3 := Lib.hid hv; have MZ := Lib.hid mz; have R3 := Lib.hid (show Below V.heap.size V w3 from bl_thru (by have := R2.out; go_grown) (Nat.le_refl _) hb)
       first
         | (have Z3 := Lib.hid (Box.below (Box.new w2 (.bool false) (.slice none 0 0) (.int .i64 0) 40) hb)
            have Z3l := Z3.out.lt
            obtain ⟨p0, p1, p2, g0, g1, g2⟩ := Z3.out.cells)
         | (have Z3 := Lib.hid (Box.below Z2.out hb)
            have Z3l := Z3.out.lt
            obtain ⟨p0, p1, p2, g0, g1, g2⟩ := Z3.out.cells)
         | skip
       clear hv hb mz))
  all_goals
    have R3s : V.heap.size ≤ w3.heap.size := R3.out.size
    have X3 := Lib.hid (XV.out.below R3.out)
    obtain ⟨y0, y1, y2, y3, y4, y5⟩ := X3.out.cells
    have hXl := X3.out.lt
    have B3 := Lib.hid (BV.out.trans (R3.out.mono BV.out.size))
    have hn3 : n3 = 0 := by have := MZ.out; have := H1.out; omega
    have hn1 : n1 = 0 := by have := LZ.out; have := H2.out; omega
    subst hn3
    subst hn1
    go_wp2_with (go_at_call 61; (with_reducible refine (HSG.out _).mono ?_); rintro e w' ⟨rfl, rfl⟩)
    first
      | ((with_reducible refine (HA2.out (w3.alloc _) ?_).mono ?_)
         · exact HT.out.below (B3.out.alloc B3.out.size _)
         rintro r w4 ⟨rfl, hb⟩
         have B4 : Hid (Below w.heap.size w w4) := Lib.hid (bl_thru (B3.out.alloc B3.out.size _) (Nat.le_refl _) hb))
      | ((with_reducible refine (HA2.out (((w3.setCell _ _).setCell _ _).setCell _ _) ?_).mono ?_)
         · exact HT.out.below (bl_set3 B3.out (by have := BV.out.size; omega) _ _ _)
         rintro r w4 ⟨rfl, hb⟩
         have B4 : Hid (Below w.heap.size w w4) := Lib.hid (bl_thru (bl_set3 B3.out (by have := BV.out.size; omega) _ _ _) (Nat.le_refl _) hb))
    clear hb
    go_wp2
    go_ret3
    exact ⟨rfl, B4.out⟩
end Go.Proofs.YthlocmhfjandlaaGreatDoor

/-
  THE WALK of prod.Fma, part 3: both are numbers.
-/
namespace Go.Proofs.YthlocmhfjandlaaGreatDoor
open Go.RowKit Nt Fm Fl

set_option maxRecDepth 100000 in
set_option maxHeartbeats 8000000 in
theorem pfma_3 (x y z mode : Int) (x0 : 0 ≤ x) (x1 : x ≤ 18446744073709551615) (y0 : 0 ≤ y) (y1 : y ≤ 18446744073709551615) (z0 : 0 ≤ z) (z1 : z ≤ 18446744073709551615) (hk : knownB mode = true) (k5 : (fcls z == 5) = false) (k4 : (fcls z == 4) = false) (hsb : spB x y = false) (h1 : (fsD x y z).m = 0) (h2 : (prD x y).m ≠ 0) (w : World) (hT : Tab w) :
    Calls Tryz.prog 18 #[.int .u64 x, .int .u64 y, .int .u64 z, .int .i64 mode] w fun e w' => e = .returned (.tuple #[.int .u64 (zeV (mode == 2)), .bool (false), .int .i64 0]) ∧ Below w.heap.size w w' := by
  have e3 : adE mode = 0 := (@fmV_yes x y z mode hk).2.2
  have hm : 0 ≤ mode ∧ mode ≤ 4 := by unfold knownB at hk; simpa using hk
  have gb := sgn_bd x y
  have hsp := fun w' => special_any x y x0 x1 y0 y1 w'
  rw [hsb] at hsp
  have hex := fun w' h => exactp_any x y x0 x1 y0 y1 w' h
  have hsg := fun w' => psign_any x y x0 x1 y0 y1 w'
  have hcl := fun w' => class_any z z0 z1 w'
  have hval := fun w' h => value_any z z0 z1 w' h
  have had2 := fun w' h => sadd_any (sgn x y) z mode gb.1 (by omega) z0 z1 w' h
  rw [e3, (adV_yes hk).1, (adV_yes hk).2] at had2
  obtain ⟨p1, p2, p3⟩ := prD_bd x y x0 x1 y0 y1
  obtain ⟨f1, f2, f3, f4, -⟩ := valD_facts z z0 z1
  have hpl := fun v1 v2 w' h0 h1 h2 => dplus_any v1 v2 (prD x y) (valD z) 106 w' h0 h1 h2 p1 (lt_pow f2 (by omega)) (by omega) (by omega) (by omega) (by omega) (by omega)
  obtain ⟨q, hq, s1, s2, s3⟩ := fsD_bd x y z x0 x1 y0 y1 z0 z1
  have hz := nf_e (plus_Nf (prD x y) (valD z))
  have hnum := fun v w' h => number_any v (fsD x y z) q mode w' h s1 (by omega) (by omega) (by omega) hz hm.1 hm.2
  have hfs : fsD x y z = plus (prD x y) (valD z) := rfl
  rw [← hfs] at hpl
  clear hfs e3 gb p1 p2 p3 f1 f2 f3 f4 s1 s2 s3 hz hq hm hsb
  generalize allV [sgn x y, z] mode = A2 at *
  generalize allC [sgn x y, z] = C2 at *
  generalize spV x y = sv at *
  generalize sgn x y = sg at *
  generalize numR (fsD x y z) mode = nR at *
  generalize numC (fsD x y z) = nC at *
  generalize fsD x y z = S at *
  generalize prD x y = P at *
  generalize valD z = vz at *
  generalize fcls z = cz at *
  have HSP := Lib.hid hsp
  have HEX := Lib.hid hex
  have HSG := Lib.hid hsg
  have HNUM := Lib.hid hnum
  have HCL := Lib.hid hcl
  have HVAL := Lib.hid hval
  have HA2 := Lib.hid had2
  have HPL := Lib.hid hpl
  have HT := Lib.hid hT
  have HK : Hid (knownB mode = true) := Lib.hid hk
  clear hsp hex hsg hnum hcl hval had2 hpl hT
  have H1 := Lib.hid h1
  clear h1
  have H2 := Lib.hid h2
  clear h2
  go_enter Tryz.func18, Tryz.ntmps18
  go_wp2_with (first | (go_at_call 54; refine (known_any _ _).mono ?_; rintro e w' ⟨rfl, rfl⟩) | (go_at_call 55; (with_reducible refine (HSP.out _).mono ?_); rintro e w' ⟨rfl, rfl⟩) | (go_at_call 24; (with_reducible refine (HCL.out _).mono ?_); rintro e w' ⟨rfl, rfl⟩))
  refine (HEX.out _ HT.out).mono ?_
  rintro r w1 ⟨v1, rfl, ⟨s1, rfl, h1⟩, hb⟩
  obtain ⟨a1, n1, c1, rfl, l1, l2, lz⟩ := nv_len h1
  have LZ := Lib.hid lz
  have V1 := Lib.hid h1
  have B1 : Hid (Below w.heap.size w w1) := Lib.hid hb
  clear h1 hb lz
  go_wp2_with fail
  obtain ⟨V, hV⟩ : ∃ V, V = w1.alloc (.cells #[.bool P.neg, .slice a1 n1 c1, .int .i64 P.e] 40) := ⟨_, rfl⟩
  have BV := Lib.hid (B1.out.alloc B1.out.size (.cells #[.bool P.neg, .slice a1 n1 c1, .int .i64 P.e] 40))
  have XV := Lib.hid (Box.new w1 (.bool P.neg) (.slice a1 n1 c1) (.int .i64 P.e) 40)
  have VV := Lib.hid (V1.out.alloc (.cells #[.bool P.neg, .slice a1 n1 c1, .int .i64 P.e] 40))
  rw [← hV] at BV XV VV ⊢
  have hXlt := XV.out.lt
  clear hV
  obtain ⟨q0, q1, q2, f0, f1, f2⟩ := XV.out.cells
  go_region_with (first
    | (go_at_call 59; refine (HVAL.out _ (HT.out.below (by have := BV.out; have := BV.out.size; go_grown))).mono ?_; rintro r w2 ⟨v2, rfl, ⟨s2, rfl, hv⟩, hb⟩; obtain ⟨a2, n2, c2, rfl⟩ := hv.shape; have VO2 := Lib.hid hv; have R2 := Lib.hid (show Below V.heap.size V w2 from bl_thru (by go_grown) (Nat.le_refl _) hb)
       try have Z2 := Lib.hid (Box.below (Box.drew (Box.new V (.bool false) (.slice none 0 0) (.int .i64 0) 40)) hb)
       have R2s : V.heap.size ≤ w2.heap.size := R2.out.size
       have X2 := XV.out.below R2.out; have X2l := X2.lt
       obtain ⟨q0, q1, q2, f0, f1, f2⟩ := X2.cells; clear hv hb X2)
    | (go_at_call 58; refine (HPL.out _ _ _ (HT.out.below (by have hBB := BV.out.trans (R2.out.mono BV.out.size); have := hBB.size; go_grown)) ⟨_, rfl, (VV.out.below (by have := R2.out; go_grown))⟩ ⟨_, rfl, (VO2.out.below (by go_grown))⟩).mono ?_; rintro r w3 ⟨v3, rfl, ⟨s3, rfl, hv⟩, hb⟩; obtain ⟨a3, n3, c3, rfl, m1, m2, mz⟩ := nv_len hv; have VZ3 := Lib.hid hv; have MZ := Lib.hid mz; have R3 := Lib.hid (show Below V.heap.size V w3 from bl_thru (by have := R2.out; go_grown) (Nat.le_refl _) hb)
       first
         | (have Z3 := Lib.hid (Box.below (Box.new w2 (.bool false) (.slice none 0 0) (.int .i64 0) 40) hb)
            have Z3l := Z3.out.lt
            obtain ⟨p0, p1, p2, g0, g1, g2⟩ := Z3.out.cells)
         | (have Z3 := Lib.hid (Box.below Z2.out hb)
            have Z3l := Z3.out.lt
            obtain ⟨p0, p1, p2, g0, g1, g2⟩ := Z3.out.cells)
         | skip
       clear hv hb mz))
  all_goals
    have R3s : V.heap.size ≤ w3.heap.size := R3.out.size
    have X3 := Lib.hid (XV.out.below R3.out)
    obtain ⟨y0, y1, y2, y3, y4, y5⟩ := X3.out.cells
    have hXl := X3.out.lt
    have B3 := Lib.hid (BV.out.trans (R3.out.mono BV.out.size))
    have hn3 : n3 = 0 := by have := MZ.out; have := H1.out; omega
    have hn1 : 1 ≤ n1 := by have := LZ.out; have := H2.out; omega
    have hn1b : ((n1 : Int) == 0) = false := by rw [beq_eq_false_iff_ne]; omega
    subst hn3
    go_wp2_with (go_at_call 62; refine (zero_any' _ _).mono ?_; rintro e w' ⟨rfl, rfl⟩)
    go_ret3
    first
      | exact ⟨rfl, B3.out.alloc B3.out.size _⟩
      | exact ⟨rfl, bl_set3 B3.out (by have := BV.out.size; omega) _ _ _⟩
end Go.Proofs.YthlocmhfjandlaaGreatDoor

/-
  THE WALKS of prod.Fma, float.Ulp, prodLives.
-/
namespace Go.Proofs.YthlocmhfjandlaaGreatDoor
open Go.RowKit Nt Fm Fl

set_option maxRecDepth 100000 in
set_option maxHeartbeats 8000000 in
theorem pfma_any (x y z mode : Int) (x0 : 0 ≤ x) (x1 : x ≤ 18446744073709551615) (y0 : 0 ≤ y) (y1 : y ≤ 18446744073709551615) (z0 : 0 ≤ z) (z1 : z ≤ 18446744073709551615) (w : World) (hT : Tab w) :
    Calls Tryz.prog 18 #[.int .u64 x, .int .u64 y, .int .u64 z, .int .i64 mode] w fun e w' => e = .returned (.tuple #[.int .u64 (fmV x y z mode), .bool (fmC x y z mode), .int .i64 (adE mode)]) ∧ Below w.heap.size w w' := by
  cases hk : knownB mode
  · obtain ⟨e1, e2, e3⟩ := @fmV_no x y z mode hk
    rw [e1, e2, e3]; clear e1 e2 e3 hT
    go_enter Tryz.func18, Tryz.ntmps18
    go_wp2_with (go_at_call 54; refine (known_any _ _).mono ?_; rintro e w' ⟨rfl, rfl⟩)
    go_ret3
    exact ⟨rfl, Below.refl _ _⟩
  · obtain ⟨e1, e2, e3⟩ := @fmV_yes x y z mode hk
    rw [e1, e2, e3]; clear e1 e2
    have hm : 0 ≤ mode ∧ mode ≤ 4 := by unfold knownB at hk; simpa using hk
    have sb := spV_bd x y
    have gb := sgn_bd x y
    have hsp := fun w' => special_any x y x0 x1 y0 y1 w'
    have hex := fun w' h => exactp_any x y x0 x1 y0 y1 w' h
    have hsg := fun w' => psign_any x y x0 x1 y0 y1 w'
    have hcl := fun w' => class_any z z0 z1 w'
    have hval := fun w' h => value_any z z0 z1 w' h
    have had1 := fun w' h => sadd_any (spV x y) z mode sb.1 sb.2 z0 z1 w' h
    have had2 := fun w' h => sadd_any (sgn x y) z mode gb.1 (by omega) z0 z1 w' h
    rw [e3] at had1 had2
    rw [(adV_yes hk).1, (adV_yes hk).2] at had1 had2
    obtain ⟨p1, p2, p3⟩ := prD_bd x y x0 x1 y0 y1
    obtain ⟨f1, f2, f3, f4, -⟩ := valD_facts z z0 z1
    have hpl := fun v1 v2 w' h0 h1 h2 => dplus_any v1 v2 (prD x y) (valD z) 106 w' h0 h1 h2 p1 (lt_pow f2 (by omega)) (by omega) (by omega) (by omega) (by omega) (by omega)
    obtain ⟨q, hq, s1, s2, s3⟩ := fsD_bd x y z x0 x1 y0 y1 z0 z1
    have hz := nf_e (plus_Nf (prD x y) (valD z))
    have hnum := fun v w' h => number_any v (fsD x y z) q mode w' h s1 (by omega) (by omega) (by omega) hz hm.1 hm.2
    have hfs : fsD x y z = plus (prD x y) (valD z) := rfl
    rw [← hfs] at hpl
    have hcase : ((fcls z == 5) = true ∧ fmV0 x y z mode = 9221120237041090560 ∧ fmC0 x y z = false) ∨
        ((fcls z == 5) = false ∧ spB x y = true ∧ (spV x y == 9221120237041090560) = true ∧ fmV0 x y z mode = 9221120237041090560 ∧ fmC0 x y z = false) ∨
        ((fcls z == 5) = false ∧ spB x y = true ∧ (spV x y == 9221120237041090560) = false ∧ fmV0 x y z mode = allV [spV x y, z] mode ∧ fmC0 x y z = allC [spV x y, z]) ∨
        ((fcls z == 5) = false ∧ spB x y = false ∧ (fcls z == 4) = true ∧ fmV0 x y z mode = z ∧ fmC0 x y z = false) ∨
        ((fcls z == 5) = false ∧ spB x y = false ∧ (fcls z == 4) = false ∧ (fsD x y z).m ≠ 0 ∧ fmV0 x y z mode = numR (fsD x y z) mode ∧ fmC0 x y z = numC (fsD x y z)) ∨
        ((fcls z == 5) = false ∧ spB x y = false ∧ (fcls z == 4) = false ∧ (fsD x y z).m = 0 ∧ (prD x y).m = 0 ∧ fmV0 x y z mode = allV [sgn x y, z] mode ∧ fmC0 x y z = allC [sgn x y, z]) ∨
        ((fcls z == 5) = false ∧ spB x y = false ∧ (fcls z == 4) = false ∧ (fsD x y z).m = 0 ∧ (prD x y).m ≠ 0 ∧ fmV0 x y z mode = zeV (mode == 2) ∧ fmC0 x y z = false) := by
      unfold fmV0 fmC0
      by_cases k5 : fcls z = 5
      · left; simp [k5]
      · right
        cases hsb : spB x y
        · right; right
          by_cases k4 : fcls z = 4
          · left; simp [k4]
          · right
            by_cases h1 : (fsD x y z).m = 0
            · right
              by_cases h2 : (prD x y).m = 0
              · left; simp [k5, k4, h1, h2]
              · right; simp [k5, k4, h1, h2, zeV]
            · left; simp [k5, k4, h1]
        · by_cases hv : spV x y = 9221120237041090560
          · left; simp [k5, hv]
          · right; left; simp [k5, hv]
    have P1 := fun h5 h4 hs h1 => pfma_1 x y z mode x0 x1 y0 y1 z0 z1 hk h5 h4 hs h1 w hT
    have P2 := fun h5 h4 hs h1 h2 => pfma_2 x y z mode x0 x1 y0 y1 z0 z1 hk h5 h4 hs h1 h2 w hT
    have P3 := fun h5 h4 hs h1 h2 => pfma_3 x y z mode x0 x1 y0 y1 z0 z1 hk h5 h4 hs h1 h2 w hT
    rcases hcase with hcase | hcase | hcase | hcase | ⟨k5, hsb, k4, h1, hV, hC⟩ | ⟨k5, hsb, k4, h1, h2, hV, hC⟩ | ⟨k5, hsb, k4, h1, h2, hV, hC⟩
    rotate_left 4
    · rw [hV, hC]; exact P1 k5 k4 hsb h1
    · rw [hV, hC]; exact P2 k5 k4 hsb h1 h2
    · rw [hV, hC]; exact P3 k5 k4 hsb h1 h2
    all_goals clear P1 P2 P3
    all_goals
     clear hfs e3 sb gb p1 p2 p3 f1 f2 f3 f4 s1 s2 s3 hz hq hm
     generalize fmV0 x y z mode = V at *
     generalize fmC0 x y z = C at *
     generalize allV [spV x y, z] mode = A1 at *
     generalize allC [spV x y, z] = C1 at *
     generalize allV [sgn x y, z] mode = A2 at *
     generalize allC [sgn x y, z] = C2 at *
     generalize spV x y = sv at *
     generalize spB x y = sb at *
     generalize sgn x y = sg at *
     generalize numR (fsD x y z) mode = nR at *
     generalize numC (fsD x y z) = nC at *
     generalize fsD x y z = S at *
     generalize prD x y = P at *
     generalize valD z = vz at *
     generalize fcls z = cz at *
     have HSP := Lib.hid hsp
     have HEX := Lib.hid hex
     have HSG := Lib.hid hsg
     have HNUM := Lib.hid hnum
     have HCL := Lib.hid hcl
     have HVAL := Lib.hid hval
     have HA1 := Lib.hid had1
     have HA2 := Lib.hid had2
     have HPL := Lib.hid hpl
     have HT := Lib.hid hT
     have HK : Hid (knownB mode = true) := Lib.hid hk
     clear hsp hex hsg hnum hcl hval had1 had2 hpl hT
    · obtain ⟨k5, rfl, rfl⟩ := hcase
      cases sb
      all_goals
        go_enter Tryz.func18, Tryz.ntmps18
        go_wp2_with (first | (go_at_call 54; refine (known_any _ _).mono ?_; rintro e w' ⟨rfl, rfl⟩) | (go_at_call 55; (with_reducible refine (HSP.out _).mono ?_); rintro e w' ⟨rfl, rfl⟩) | (go_at_call 24; (with_reducible refine (HCL.out _).mono ?_); rintro e w' ⟨rfl, rfl⟩))
        go_ret3
        exact ⟨rfl, Below.refl _ _⟩
    · obtain ⟨k5, rfl, hv, rfl, rfl⟩ := hcase
      go_enter Tryz.func18, Tryz.ntmps18
      go_wp2_with (first | (go_at_call 54; refine (known_any _ _).mono ?_; rintro e w' ⟨rfl, rfl⟩) | (go_at_call 55; (with_reducible refine (HSP.out _).mono ?_); rintro e w' ⟨rfl, rfl⟩) | (go_at_call 24; (with_reducible refine (HCL.out _).mono ?_); rintro e w' ⟨rfl, rfl⟩))
      go_ret3
      exact ⟨rfl, Below.refl _ _⟩
    · obtain ⟨k5, rfl, hv, rfl, rfl⟩ := hcase
      go_enter Tryz.func18, Tryz.ntmps18
      go_wp2_with (first | (go_at_call 54; refine (known_any _ _).mono ?_; rintro e w' ⟨rfl, rfl⟩) | (go_at_call 55; (with_reducible refine (HSP.out _).mono ?_); rintro e w' ⟨rfl, rfl⟩) | (go_at_call 24; (with_reducible refine (HCL.out _).mono ?_); rintro e w' ⟨rfl, rfl⟩))
      refine (HA1.out _ HT.out).mono ?_
      rintro r w1 ⟨rfl, hb⟩
      have B1 := Lib.hid hb
      clear hb
      go_wp2
      go_ret3
      exact ⟨rfl, B1.out⟩
    · obtain ⟨k5, rfl, k4, rfl, rfl⟩ := hcase
      go_enter Tryz.func18, Tryz.ntmps18
      go_wp2_with (first | (go_at_call 54; refine (known_any _ _).mono ?_; rintro e w' ⟨rfl, rfl⟩) | (go_at_call 55; (with_reducible refine (HSP.out _).mono ?_); rintro e w' ⟨rfl, rfl⟩) | (go_at_call 24; (with_reducible refine (HCL.out _).mono ?_); rintro e w' ⟨rfl, rfl⟩))
      go_ret3
      exact ⟨rfl, Below.refl _ _⟩
def ulV (x : Int) : Int := if hasV x = true then ulE x else 0
theorem ulp_any (x : Int) (x0 : 0 ≤ x) (x1 : x ≤ 18446744073709551615) (w : World) :
    Calls Tryz.prog 20 #[.int .u64 x] w fun e w' => e = .returned (.tuple #[.int .i64 (ulV x), .int .i64 (ofE x)]) ∧ w = w' := by
  have hh := hasValue_any x x0 x1
  have hp := parts_any x x0 x1
  have be := fexp_bd x
  unfold ulV ofE ulE
  generalize fexp x = e at *
  have HP := Lib.hid hp
  clear hp
  cases hv : hasV x
  · rw [hv] at hh
    have HH := Lib.hid hh
    clear hh hv
    rw [if_neg (by decide), if_neg (by decide)]
    go_enter Tryz.func20, Tryz.ntmps20
    go_wp2_with (go_at_call 65; refine (HH.out _).mono ?_; rintro e w' ⟨rfl, rfl⟩)
    go_ret2
    exact ⟨rfl, rfl⟩
  · rw [hv] at hh
    have HH := Lib.hid hh
    clear hh hv
    rw [if_pos rfl, if_pos rfl]
    by_cases he : 1 ≤ e
    · have hm : max e 1 - 1075 = e - 1075 := by omega
      have hm2 : max e 1 = e := by omega
      rw [hm]
      go_enter Tryz.func20, Tryz.ntmps20
      go_wp2_with (first | (go_at_call 65; refine (HH.out _).mono ?_; rintro e w' ⟨rfl, rfl⟩) | (go_at_call 66; refine (HP.out _).mono ?_; rintro e w' ⟨rfl, rfl⟩))
      go_ret2
      exact ⟨rfl, rfl⟩
    · have he0 : e = 0 := by omega
      subst he0
      go_enter Tryz.func20, Tryz.ntmps20
      go_wp2_with (first | (go_at_call 65; refine (HH.out _).mono ?_; rintro e w' ⟨rfl, rfl⟩) | (go_at_call 66; refine (HP.out _).mono ?_; rintro e w' ⟨rfl, rfl⟩))
      go_ret2
      exact ⟨rfl, rfl⟩
theorem plives_facts : muV 4611686018427387904 4613937818241073152 0 = 4618441417868443648 ∧ muC 4611686018427387904 4613937818241073152 0 = false ∧ fmV 4611686018427387904 4613937818241073152 4607182418800017408 0 = 4619567317775286272 ∧ adE 0 = 0 :=
  ⟨by kernel_rfl, by kernel_rfl, by kernel_rfl, by kernel_rfl⟩
end Go.Proofs.YthlocmhfjandlaaGreatDoor
