/-
  SOME OF MY TEXTS in one: Sm. Each says what it proves.
-/
import Derived.Test.YtmpdbmaokbhcjaaGreatDoorBh
import Derived.Test.YtmpdbmaokbhcjaaGreatDoorPl
import Derived.Test.YtmpdbmaokbhcjaaGreatDoorFloatB
import Derived.Deep.RegionWith
set_option linter.unusedVariables false
set_option linter.unusedSimpArgs false
/-
  THE WALKS of sum.Zero, sum.all.
-/
namespace Go.Proofs.YtmpdbmaokbhcjaaGreatDoor
open Go.RowKit Nt Fm Fl

theorem zero_any (neg : Bool) (w : World) : Calls Tryz.prog 151 #[.bool neg] w fun e w' => e = .returned (.int .u64 (if neg then 9223372036854775808 else 0)) ∧ w = w' := by
  cases neg
  all_goals
    go_enter Tryz.func151, Tryz.ntmps151
    go_wp2
    go_ret
    exact ⟨rfl, rfl⟩

/-- the slice value v reads as these uint64s -/
def LU (w : World) (v : Value) (l : List Int) : Prop :=
  (∀ d ∈ l, 0 ≤ d ∧ d ≤ 18446744073709551615) ∧ ∃ (ao : Option Addr) (cap : Nat), v = .slice ao l.length cap ∧ l.length ≤ cap ∧ cap ≤ maxLen ∧
    (l.length ≤ 0 ∨ ∃ b off, ao = some ⟨b, off, none⟩ ∧ b < w.heap.size ∧ ∀ i, i < l.length → w.cell? ⟨b, off + i, none⟩ = some (.int .u64 (l.getD i 0)))
theorem LU.below {w w' : World} {v : Value} {l : List Int} (h : LU w v l) (hb : Below w.heap.size w w') : LU w' v l := by
  obtain ⟨h1, ao, cap, h2, h3, h4, h5⟩ := h
  refine ⟨h1, ao, cap, h2, h3, h4, ?_⟩
  rcases h5 with h5 | ⟨b, off, h5, h6, h7⟩
  · exact Or.inl h5
  · exact Or.inr ⟨b, off, h5, Nat.lt_of_lt_of_le h6 hb.size, fun i hi => (hb.cell (p := ⟨b, off + i, none⟩) h6).trans (h7 i hi)⟩

/-- the state of the loop in memory: the struct at block b, seen from w -/
def Acc (w : World) (b : Nat) (d : D) (wr : World) : Prop := ∃ a n c, Box wr b 27 (.bool d.neg) (.slice a n c) (.int .i64 d.e) ∧ NV wr (.slice a n c) d.m ∧ Below w.heap.size w wr

theorem fcls_ways (x : Int) : fcls x = 1 ∨ fcls x = 2 ∨ fcls x = 3 ∨ fcls x = 4 ∨ fcls x = 5 := by
  unfold fcls; split <;> (try split) <;> (try split) <;> (try split) <;> omega
theorem stp_nan {st : St} {x : Int} (h : fcls x = 5) : stp st x = ⟨st.inf, st.clash, true, st.ng, st.ps, st.s⟩ := by unfold stp; rw [if_pos h]
theorem stp_inf {st : St} {x : Int} (h : fcls x = 4) : stp st x = ⟨x, st.clash || (decide (st.inf ≠ 0) && decide (st.inf ≠ x)), st.nan, st.ng, st.ps, st.s⟩ := by unfold stp; rw [if_neg (by omega), if_pos h]
theorem stp_ps {st : St} {x : Int} (h : fcls x = 1) (hx : x = 0) : stp st x = ⟨st.inf, st.clash, st.nan, st.ng, st.ps + 1, st.s⟩ := by unfold stp; rw [if_neg (by omega), if_neg (by omega), if_pos h, if_pos hx]
theorem stp_ng {st : St} {x : Int} (h : fcls x = 1) (hx : x ≠ 0) : stp st x = ⟨st.inf, st.clash, st.nan, st.ng + 1, st.ps, st.s⟩ := by unfold stp; rw [if_neg (by omega), if_neg (by omega), if_pos h, if_neg hx]
theorem stp_num {st : St} {x : Int} (h : fcls x = 2 ∨ fcls x = 3) : stp st x = ⟨st.inf, st.clash, st.nan, st.ng, st.ps, plus st.s (valD x)⟩ := by unfold stp; rw [if_neg (by omega), if_neg (by omega), if_neg (by omega)]

set_option maxRecDepth 100000 in
set_option maxHeartbeats 16000000 in
theorem all_any (v : Value) (l : List Int) (mode : Int) (w : World) (hT : Tab w) (hv : LU w v l) (hl : l.length ≤ 1000) (m0 : 0 ≤ mode) (m1 : mode ≤ 4) :
    Calls Tryz.prog 99 #[v, .int .i64 mode] w fun e w' => e = .returned (.tuple #[.int .u64 (allV l mode), .bool (allC l)]) ∧ Below w.heap.size w w' := by
  obtain ⟨hu, ao, cap, rfl, hcap, hmx, hc⟩ := hv
  unfold maxLen at hmx
  have hsml := stL_sml l hu
  have hinf := stL_inf l hu
  have hstep := stL_take l
  have HSML := Lib.hid hsml
  have HINF := Lib.hid hinf
  have HSTEP := Lib.hid hstep
  have HU := Lib.hid hu
  have HC := Lib.hid hc
  have HT := Lib.hid hT
  clear hsml hinf hstep hu hc hT
  go_enter Tryz.func99, Tryz.ntmps99
  go_wp2
  go_loopw [6, 7, 8, 9, 10, 16] (fun fi fc fn fg fp i wr => ∃ (k : Nat) (st : St), k ≤ l.length ∧ i = .int .i64 k ∧ fi = .int .u64 st.inf ∧ fc = .bool st.clash ∧ fn = .bool st.nan ∧ fg = .int .i64 st.ng ∧ fp = .int .i64 st.ps ∧ Hid (st = stL (l.take k)) ∧ Hid (Acc w w.heap.size st.s wr))
    (fun _ _ _ _ _ i _ => l.length - (intOf i).toNat)
  case atStart => exact ⟨0, st0, Nat.zero_le _, rfl, rfl, rfl, rfl, rfl, rfl, Lib.hid (by simp [stL]), Lib.hid ⟨none, 0, 0, Box.new w _ _ _ _, NV.nil _, (Below.refl _ _).alloc (Nat.le_refl _) _⟩⟩
  case round =>
    obtain ⟨k, st, hk, rfl, rfl, rfl, rfl, rfl, rfl, HST, HAC⟩ := hrel
    have hb1 := HINF.out k hk
    rw [← HST.out] at hb1
    obtain ⟨i0, i1, i2, i3⟩ := hb1
    have hs1 := HSML.out k hk
    rw [← HST.out] at hs1
    have HS1 := Lib.hid hs1
    clear hs1
    obtain ⟨inf, clash, nan, ng, ps, s⟩ := st
    simp only at *
    by_cases hlt : k < l.length
    · obtain ⟨x, hx⟩ : ∃ x, x = l.getD k 0 := ⟨_, rfl⟩
      have hst2 := HSTEP.out k hlt
      rw [← HST.out, ← hx] at hst2
      have hxm : 0 ≤ x ∧ x ≤ 18446744073709551615 := by
        have e : l.getD k 0 = l[k] := by simp [List.getD, hlt]
        rw [hx, e]; exact HU.out _ (List.getElem_mem hlt)
      obtain ⟨x0, x1⟩ := hxm
      obtain ⟨A, N, C, hbox, hnv, hbel⟩ := HAC.out
      have hcx : ∃ b off, ao = some ⟨b, off, none⟩ ∧ wr.cell? ⟨b, off + k, none⟩ = some (.int .u64 x) := by
        rcases HC.out with h | ⟨b, off, h1, h2, h3⟩
        · omega
        · exact ⟨b, off, h1, by rw [hx]; exact (hbel.cell (p := ⟨b, off + k, none⟩) h2).trans (h3 k hlt)⟩
      obtain ⟨b, off, rfl, hcx⟩ := hcx
      have HBX := Lib.hid hbox
      have HNV := Lib.hid hnv
      have HBL := Lib.hid hbel
      have ST2 := Lib.hid hst2
      clear hbox hnv hbel hst2 hx
      have kb : (k : Int) < (l.length : Int) := by omega
      have hcls := fcls_ways x
      have hclass := fun w' => class_any x x0 x1 w'
      generalize hK : fcls x = K at *
      have HK := Lib.hid hK
      have HCL := Lib.hid hclass
      clear hK hclass
      rcases hcls with rfl | rfl | rfl | rfl | rfl
      · by_cases hz : x = 0
        · have e := stp_ps (st := ⟨inf, clash, nan, ng, ps, s⟩) HK.out hz
          have E := Lib.hid (ST2.out.trans e)
          have hzb : (x == 0) = true := by rw [beq_iff_eq]; exact hz
          clear e hz
          go_wp2_with (go_at_call 24; refine (HCL.out _).mono ?_; rintro e w' ⟨rfl, rfl⟩)
          go_roundw
          case rel => exact ⟨k + 1, ⟨inf, clash, nan, ng, ps + 1, s⟩, by omega, by go_num, rfl, rfl, rfl, rfl, by go_num, Lib.hid E.out.symm, HAC⟩
          case measure => simp [intOf]; omega
        · have e := stp_ng (st := ⟨inf, clash, nan, ng, ps, s⟩) HK.out hz
          have E := Lib.hid (ST2.out.trans e)
          have hzb : (x == 0) = false := by rw [beq_eq_false_iff_ne]; exact hz
          clear e hz
          go_wp2_with (go_at_call 24; refine (HCL.out _).mono ?_; rintro e w' ⟨rfl, rfl⟩)
          go_roundw
          case rel => exact ⟨k + 1, ⟨inf, clash, nan, ng + 1, ps, s⟩, by omega, by go_num, rfl, rfl, rfl, by go_num, rfl, Lib.hid E.out.symm, HAC⟩
          case measure => simp [intOf]; omega
      · have e := stp_num (st := ⟨inf, clash, nan, ng, ps, s⟩) (x := x) (by have := HK.out; omega)
        have E := Lib.hid (ST2.out.trans e)
        obtain ⟨⟨q, hq, hm⟩, e0, e1⟩ := HS1.out.bds (by omega)
        obtain ⟨f1, f2, f3, f4, -⟩ := valD_facts x x0 x1
        have hpl := fun vo w' h0 h1 h2 => dplus_any (.agg #[.bool s.neg, .slice A N C, .int .i64 s.e]) vo s (valD x) (q + 53) w' h0 h1 h2 (lt_pow hm (by omega)) (lt_pow f2 (by omega)) (by omega) (by omega) (by omega) (by omega) (by omega)
        have hval := fun w' h => value_any x x0 x1 w' h
        simp only at E
        generalize plus s (valD x) = S2 at *
        generalize valD x = vx at *
        have HPL := Lib.hid hpl
        have HVA := Lib.hid hval
        have B0 := Lib.hid HBL.out.drew
        obtain ⟨q0, q1, q2, g0, g1, g2⟩ := HBX.out.cells
        clear e hm hpl hval f1 f2 f3 f4 e0 e1
        go_wp2_with (go_at_call 24; refine (HCL.out _).mono ?_; rintro e w' ⟨rfl, rfl⟩)
        go_region_with (first
          | (go_at_call 55; refine (HVA.out _ (HT.out.below B0.out)).mono ?_; rintro r w2 ⟨v2, rfl, ⟨s2, rfl, hv⟩, hb⟩; obtain ⟨a2, n2, c2, rfl⟩ := hv.shape; have HV2 := Lib.hid hv; have B2 := Lib.hid (bl_thru B0.out (Nat.le_refl _) hb); have X2 := Lib.hid (HBX.out.drew.below hb); have NV2 := Lib.hid (HNV.out.drew.below hb); obtain ⟨q0, q1, q2, g0, g1, g2⟩ := X2.out.cells; clear hv hb)
          | (go_at_call 50; refine (HPL.out _ _ (HT.out.below B2.out) ⟨_, rfl, NV2.out⟩ ⟨_, rfl, HV2.out⟩).mono ?_; rintro r w3 ⟨v3, rfl, ⟨s3, rfl, hv⟩, hb⟩; obtain ⟨a3, n3, c3, rfl⟩ := hv.shape; have HV3 := Lib.hid hv; have B3 := Lib.hid (bl_thru B2.out (Nat.le_refl _) hb); have X3 := Lib.hid (X2.out.below hb); obtain ⟨p0, p1, p2, h0', h1', h2'⟩ := X3.out.cells; clear hv hb))
        all_goals
          go_wp2
          go_roundw
          case rel => exact ⟨k + 1, ⟨inf, clash, nan, ng, ps, S2⟩, by omega, by go_num, rfl, rfl, rfl, rfl, rfl, Lib.hid E.out.symm, Lib.hid ⟨a3, n3, c3, X3.out.set3 _ _ _, HV3.out.setD X3.out, bl_set3 B3.out (Nat.le_refl _) _ _ _⟩⟩
          case measure => simp [intOf]; omega
      · have e := stp_num (st := ⟨inf, clash, nan, ng, ps, s⟩) (x := x) (by have := HK.out; omega)
        have E := Lib.hid (ST2.out.trans e)
        obtain ⟨⟨q, hq, hm⟩, e0, e1⟩ := HS1.out.bds (by omega)
        obtain ⟨f1, f2, f3, f4, -⟩ := valD_facts x x0 x1
        have hpl := fun vo w' h0 h1 h2 => dplus_any (.agg #[.bool s.neg, .slice A N C, .int .i64 s.e]) vo s (valD x) (q + 53) w' h0 h1 h2 (lt_pow hm (by omega)) (lt_pow f2 (by omega)) (by omega) (by omega) (by omega) (by omega) (by omega)
        have hval := fun w' h => value_any x x0 x1 w' h
        simp only at E
        generalize plus s (valD x) = S2 at *
        generalize valD x = vx at *
        have HPL := Lib.hid hpl
        have HVA := Lib.hid hval
        have B0 := Lib.hid HBL.out.drew
        obtain ⟨q0, q1, q2, g0, g1, g2⟩ := HBX.out.cells
        clear e hm hpl hval f1 f2 f3 f4 e0 e1
        go_wp2_with (go_at_call 24; refine (HCL.out _).mono ?_; rintro e w' ⟨rfl, rfl⟩)
        go_region_with (first
          | (go_at_call 55; refine (HVA.out _ (HT.out.below B0.out)).mono ?_; rintro r w2 ⟨v2, rfl, ⟨s2, rfl, hv⟩, hb⟩; obtain ⟨a2, n2, c2, rfl⟩ := hv.shape; have HV2 := Lib.hid hv; have B2 := Lib.hid (bl_thru B0.out (Nat.le_refl _) hb); have X2 := Lib.hid (HBX.out.drew.below hb); have NV2 := Lib.hid (HNV.out.drew.below hb); obtain ⟨q0, q1, q2, g0, g1, g2⟩ := X2.out.cells; clear hv hb)
          | (go_at_call 50; refine (HPL.out _ _ (HT.out.below B2.out) ⟨_, rfl, NV2.out⟩ ⟨_, rfl, HV2.out⟩).mono ?_; rintro r w3 ⟨v3, rfl, ⟨s3, rfl, hv⟩, hb⟩; obtain ⟨a3, n3, c3, rfl⟩ := hv.shape; have HV3 := Lib.hid hv; have B3 := Lib.hid (bl_thru B2.out (Nat.le_refl _) hb); have X3 := Lib.hid (X2.out.below hb); obtain ⟨p0, p1, p2, h0', h1', h2'⟩ := X3.out.cells; clear hv hb))
        all_goals
          go_wp2
          go_roundw
          case rel => exact ⟨k + 1, ⟨inf, clash, nan, ng, ps, S2⟩, by omega, by go_num, rfl, rfl, rfl, rfl, rfl, Lib.hid E.out.symm, Lib.hid ⟨a3, n3, c3, X3.out.set3 _ _ _, HV3.out.setD X3.out, bl_set3 B3.out (Nat.le_refl _) _ _ _⟩⟩
          case measure => simp [intOf]; omega
      · have e := stp_inf (st := ⟨inf, clash, nan, ng, ps, s⟩) HK.out
        have E := Lib.hid (ST2.out.trans e)
        clear e
        have hcase : (clash = true ∧ (clash || (decide (inf ≠ 0) && decide (inf ≠ x))) = true) ∨ (clash = false ∧ (inf != 0) = false ∧ (clash || (decide (inf ≠ 0) && decide (inf ≠ x))) = false) ∨
            (clash = false ∧ (inf != 0) = true ∧ (inf != x) = false ∧ (clash || (decide (inf ≠ 0) && decide (inf ≠ x))) = false) ∨ (clash = false ∧ (inf != 0) = true ∧ (inf != x) = true ∧ (clash || (decide (inf ≠ 0) && decide (inf ≠ x))) = true) := by
          cases clash <;> by_cases h1 : inf = 0 <;> by_cases h2 : inf = x <;> simp [h1, h2] <;> exact Decidable.em _
        simp only at E
        generalize (clash || (decide (inf ≠ 0) && decide (inf ≠ x))) = cl at *
        rcases hcase with ⟨rfl, rfl⟩ | ⟨rfl, h1, rfl⟩ | ⟨rfl, h1, h2, rfl⟩ | ⟨rfl, h1, h2, rfl⟩
        all_goals
          go_wp2_with (go_at_call 24; refine (HCL.out _).mono ?_; rintro e w' ⟨rfl, rfl⟩)
          go_roundw
          case rel => exact ⟨k + 1, ⟨x, _, nan, ng, ps, s⟩, by omega, by go_num, rfl, rfl, rfl, rfl, rfl, Lib.hid E.out.symm, HAC⟩
          case measure => simp [intOf]; omega
      · have e := stp_nan (st := ⟨inf, clash, nan, ng, ps, s⟩) HK.out
        have E := Lib.hid (ST2.out.trans e)
        clear e
        go_wp2_with (go_at_call 24; refine (HCL.out _).mono ?_; rintro e w' ⟨rfl, rfl⟩)
        go_roundw
        case rel => exact ⟨k + 1, ⟨inf, clash, true, ng, ps, s⟩, by omega, by go_num, rfl, rfl, rfl, rfl, rfl, Lib.hid E.out.symm, HAC⟩
        case measure => simp [intOf]; omega
    · have hke : k = l.length := by omega
      have hst : (⟨inf, clash, nan, ng, ps, s⟩ : St) = stL l := by have := HST.out; rw [hke, List.take_length] at this; exact this
      obtain ⟨A, N, C, hbox, hnv, hbel⟩ := HAC.out
      obtain ⟨⟨q, hq, hm⟩, e0, e1⟩ := HS1.out.bds (by omega)
      obtain ⟨A', N', C', hsl, l1, l2, lz⟩ := nv_len hnv
      obtain ⟨rfl, rfl, rfl⟩ : A = A' ∧ N = N' ∧ C = C' := by simpa using hsl
      have hzz : s.m = 0 → s.e ≤ 1000 := fun hz => by
        rcases HS1.out.1 with h | h
        · rw [h]; decide
        · omega
      have hnum := fun w' h => number_any (.agg #[.bool s.neg, .slice A N C, .int .i64 s.e]) s q mode w' h hm (by omega) (by omega) (by omega) hzz m0 m1
      have hcase : (nan = true ∧ allV l mode = 9221120237041090560 ∧ allC l = false) ∨ (nan = false ∧ clash = true ∧ allV l mode = 9221120237041090560 ∧ allC l = false) ∨
          (nan = false ∧ clash = false ∧ (inf != 0) = true ∧ allV l mode = inf ∧ allC l = false) ∨
          (nan = false ∧ clash = false ∧ (inf != 0) = false ∧ 1 ≤ N ∧ allV l mode = numR s mode ∧ allC l = numC s) ∨
          (nan = false ∧ clash = false ∧ (inf != 0) = false ∧ N = 0 ∧ ((ps : Int) == (l.length : Int)) = true ∧ allV l mode = 0 ∧ allC l = false) ∨
          (nan = false ∧ clash = false ∧ (inf != 0) = false ∧ N = 0 ∧ ((ps : Int) == (l.length : Int)) = false ∧ ((ng : Int) == (l.length : Int)) = true ∧ allV l mode = 9223372036854775808 ∧ allC l = false) ∨
          (nan = false ∧ clash = false ∧ (inf != 0) = false ∧ N = 0 ∧ ((ps : Int) == (l.length : Int)) = false ∧ ((ng : Int) == (l.length : Int)) = false ∧ allV l mode = (if (mode == 2) = true then 9223372036854775808 else 0) ∧ allC l = false) := by
        unfold allV allC
        rw [← hst]
        simp only
        cases nan
        · cases clash
          · by_cases hi : inf = 0
            · rcases lz with ⟨z1, z2⟩ | ⟨z1, z2⟩
              · by_cases hp : ps = l.length
                · right; right; right; right; left; simp [hi, z1, z2, hp]
                · by_cases hg : ng = l.length
                  · right; right; right; right; right; left
                    simp only [hi, z1, z2, hp, hg]; simp; omega
                  · right; right; right; right; right; right
                    simp only [hi, z1, z2, hp, hg]; simp; omega
              · right; right; right; left; simp [hi, z1, z2]
            · right; right; left; simp [hi]
          · right; left; simp
        · left; simp
      have HNUM := Lib.hid hnum
      have HNV := Lib.hid hnv
      have HBL := Lib.hid hbel
      obtain ⟨q0, q1, q2, g0, g1, g2⟩ := hbox.cells
      clear hst hnum hnv hbel hbox hm hke hsl lz HST HAC hzz
      generalize numR s mode = nR at *
      generalize numC s = nC at *
      rcases hcase with ⟨rfl, hV, hCC⟩ | ⟨rfl, rfl, hV, hCC⟩ | ⟨rfl, rfl, hi, hV, hCC⟩ | ⟨rfl, rfl, hi, hN, hV, hCC⟩ | ⟨rfl, rfl, hi, rfl, hp, hV, hCC⟩ | ⟨rfl, rfl, hi, rfl, hp, hg, hV, hCC⟩ | ⟨rfl, rfl, hi, rfl, hp, hg, hV, hCC⟩
      all_goals
        have HV := Lib.hid hV
        have HCC := Lib.hid hCC
        clear hV hCC
      · go_wp2
        go_ret2
        exact ⟨by rw [HV.out, HCC.out]; rfl, HBL.out⟩
      · go_wp2
        go_ret2
        exact ⟨by rw [HV.out, HCC.out]; rfl, HBL.out⟩
      · go_wp2
        go_ret2
        exact ⟨by rw [HV.out, HCC.out]; rfl, HBL.out⟩
      · go_wp2_with fail
        refine (HNUM.out _ ⟨_, rfl, HNV.out⟩).mono ?_
        rintro r w2 ⟨rfl, hb⟩
        have B2 := Lib.hid (bl_thru HBL.out (Nat.le_refl _) hb)
        clear hb
        go_wp2
        go_ret2
        exact ⟨by rw [HV.out, HCC.out]; rfl, B2.out⟩
      · go_wp2
        go_ret2
        exact ⟨by rw [HV.out, HCC.out]; rfl, HBL.out⟩
      · go_wp2
        go_ret2
        exact ⟨by rw [HV.out, HCC.out]; rfl, HBL.out⟩
      · cases hm2 : (mode == 2)
        all_goals
          have HM2 := Lib.hid hm2
          go_wp2_with (go_at_call 151; refine (zero_any _ _).mono ?_; rintro e w' ⟨rfl, rfl⟩)
          go_ret2
          exact ⟨by rw [HV.out, HCC.out, HM2.out]; rfl, HBL.out⟩
end Go.Proofs.YtmpdbmaokbhcjaaGreatDoor
