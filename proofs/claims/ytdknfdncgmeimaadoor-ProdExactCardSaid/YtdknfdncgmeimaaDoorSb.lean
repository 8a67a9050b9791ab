/-
  SOME OF MY TEXTS in one: SmP Sm Sa Cm So St. Each says what it proves.
-/
import Derived.Test.YtdknfdncgmeimaaDoorRb
import Derived.Test.YtdknfdncgmeimaaDoorDc
import Derived.Test.YtdknfdncgmeimaaDoorDb
import Derived.Deep.RegionWith
import Derived.Test.YtdknfdncgmeimaaDoorBa
set_option linter.unusedVariables false
set_option linter.unusedSimpArgs false
/-
  PLAIN: what sum.all adds up. No Go function here.
-/
namespace Go.Proofs.YtdknfdncgmeimaaDoor
open Go.RowKit Nt Fm Fl

structure St where
  inf : Int
  clash : Bool
  nan : Bool
  ng : Nat
  ps : Nat
  s : D
def st0 : St := ⟨0, false, false, 0, 0, nz⟩
def stp (st : St) (x : Int) : St :=
  if fcls x = 5 then ⟨st.inf, st.clash, true, st.ng, st.ps, st.s⟩
  else if fcls x = 4 then ⟨x, st.clash || (decide (st.inf ≠ 0) && decide (st.inf ≠ x)), st.nan, st.ng, st.ps, st.s⟩
  else if fcls x = 1 then (if x = 0 then ⟨st.inf, st.clash, st.nan, st.ng, st.ps + 1, st.s⟩ else ⟨st.inf, st.clash, st.nan, st.ng + 1, st.ps, st.s⟩)
  else ⟨st.inf, st.clash, st.nan, st.ng, st.ps, plus st.s (valD x)⟩
def stL (l : List Int) : St := l.foldl stp st0
theorem stL_snoc (l : List Int) (x : Int) : stL (l ++ [x]) = stp (stL l) x := by unfold stL; rw [List.foldl_append]; rfl
theorem stL_take (l : List Int) (k : Nat) (h : k < l.length) : stL (l.take (k + 1)) = stp (stL (l.take k)) (l.getD k 0) := by
  rw [List.take_succ_eq_append_getElem h, stL_snoc]
  congr 1; simp [List.getD, h]
/-- a power of two that nothing works out -/
def Pw (n : Nat) : Nat := 2 ^ n
theorem Pw_pos (n : Nat) : 0 < Pw n := Nat.two_pow_pos _
theorem Pw_add (a b : Nat) : Pw (a + b) = Pw a * Pw b := Nat.pow_add _ _ _
theorem Pw_le {a b : Nat} (h : a ≤ b) : Pw a ≤ Pw b := Nat.pow_le_pow_right (by decide) h
/-- how great a sum of so many can be -/
def Sml (k : Nat) (d : D) : Prop := d.Nf ∧ -1074 ≤ d.e ∧ (d.vl 1074).natAbs ≤ k * Pw 2227
theorem Sml.zero (k : Nat) : Sml k nz := ⟨Or.inl rfl, by decide, by rw [vl_zero (d := nz) rfl]; exact Nat.zero_le _⟩
theorem Sml.mono {j k : Nat} {d : D} (h : Sml j d) (hk : j ≤ k) : Sml k d := ⟨h.1, h.2.1, Nat.le_trans h.2.2 (Nat.mul_le_mul_right _ hk)⟩
theorem valD_sml (x : Int) (h0 : 0 ≤ x) (h1 : x ≤ 18446744073709551615) : Sml 1 (valD x) := by
  obtain ⟨f1, f2, f3, f4, -⟩ := valD_facts x h0 h1
  refine ⟨f1, f3, ?_⟩
  rw [vl_natAbs, Nat.one_mul]
  have a : Pw ((valD x).e + ((1074 : Nat) : Int)).toNat ≤ Pw 2174 := Pw_le (by omega)
  have b : (valD x).m ≤ Pw 53 := Nat.le_of_lt f2
  rw [show (2227 : Nat) = 53 + 2174 from rfl, Pw_add]
  exact Nat.mul_le_mul b a
theorem Sml.plus {j k : Nat} {c d : D} (h1 : Sml j c) (h2 : Sml k d) : Sml (j + k) (plus c d) := by
  have e1 : 0 ≤ c.e + ((1074 : Nat) : Int) := by have := h1.2.1; omega
  have e2 : 0 ≤ d.e + ((1074 : Nat) : Int) := by have := h2.2.1; omega
  refine ⟨plus_Nf _ _, by have := plus_eT e1 e2; omega, ?_⟩
  rw [plus_vl _ _ _ e1 e2, Nat.add_mul]
  have a := h1.2.2; have b := h2.2.2
  omega
theorem Sml.bds {k : Nat} {d : D} (h : Sml k d) (hk : k ≤ 10000) : (∃ q, q ≤ 3000 ∧ d.m < 2 ^ q) ∧ -1074 ≤ d.e ∧ d.e ≤ 2000 := by
  obtain ⟨h1, h2, h3⟩ := h
  rw [vl_natAbs] at h3
  obtain ⟨p, hp0⟩ : ∃ p : Nat, p = 2227 := ⟨_, rfl⟩
  rw [← hp0] at h3
  obtain ⟨q, hq, hlt⟩ : ∃ q, q = p + 14 ∧ k * Pw p < 2 ^ q := by
    refine ⟨p + 14, rfl, ?_⟩
    have e : (2 : Nat) ^ (p + 14) = Pw p * 16384 := by unfold Pw; rw [Nat.pow_add]
    rw [e]
    have := Pw_pos p
    generalize Pw p = X at *
    have : k * X ≤ 10000 * X := Nat.mul_le_mul_right _ hk
    omega
  have hp := Nat.two_pow_pos (d.e + ((1074 : Nat) : Int)).toNat
  have hm : d.m * 1 ≤ d.m * 2 ^ (d.e + ((1074 : Nat) : Int)).toNat := Nat.mul_le_mul_left _ hp
  refine ⟨⟨q, by omega, by omega⟩, h2, ?_⟩
  by_cases hz : d.m = 0
  · rcases h1 with h1 | h1
    · rw [h1]; decide
    · omega
  · have : 1 * 2 ^ (d.e + ((1074 : Nat) : Int)).toNat ≤ d.m * 2 ^ (d.e + ((1074 : Nat) : Int)).toNat := Nat.mul_le_mul_right _ (by omega)
    rw [Nat.one_mul] at this
    have h5 := (Nat.pow_lt_pow_iff_right (by decide : 1 < 2)).1 (Nat.lt_of_le_of_lt (Nat.le_trans this h3) hlt)
    omega
theorem stp_sml {k : Nat} {st : St} (x : Int) (h0 : 0 ≤ x) (h1 : x ≤ 18446744073709551615) (h : Sml k st.s) : Sml (k + 1) (stp st x).s := by
  unfold stp
  split
  · exact h.mono (by omega)
  · split
    · exact h.mono (by omega)
    · split
      · split <;> exact h.mono (by omega)
      · exact h.plus (valD_sml x h0 h1)
theorem stL_sml : ∀ (l : List Int), (∀ x ∈ l, 0 ≤ x ∧ x ≤ 18446744073709551615) → ∀ k, k ≤ l.length → Sml k (stL (l.take k)).s
  | l, h, 0, _ => by simp [stL, st0]; exact Sml.zero 0
  | l, h, k + 1, hk => by
    rw [stL_take l k (by omega)]
    have e : l.getD k 0 = l[k]'(by omega) := by simp [List.getD, show k < l.length by omega]
    have hm := h _ (List.getElem_mem (show k < l.length by omega))
    rw [e]
    exact stp_sml _ hm.1 hm.2 (stL_sml l h k (by omega))
theorem stL_inf : ∀ (l : List Int), (∀ x ∈ l, 0 ≤ x ∧ x ≤ 18446744073709551615) → ∀ k, k ≤ l.length → 0 ≤ (stL (l.take k)).inf ∧ (stL (l.take k)).inf ≤ 18446744073709551615 ∧ (stL (l.take k)).ng ≤ k ∧ (stL (l.take k)).ps ≤ k
  | l, h, 0, _ => by simp [stL, st0]
  | l, h, k + 1, hk => by
    rw [stL_take l k (by omega)]
    have e : l.getD k 0 = l[k]'(by omega) := by simp [List.getD, show k < l.length by omega]
    have hm := h _ (List.getElem_mem (show k < l.length by omega))
    rw [e]
    have ih := stL_inf l h k (by omega)
    generalize stL (l.take k) = st at *
    unfold stp
    split
    · exact ⟨ih.1, ih.2.1, by simp only; omega, by simp only; omega⟩
    · split
      · exact ⟨hm.1, hm.2, by simp only; omega, by simp only; omega⟩
      · split
        · split
          · exact ⟨ih.1, ih.2.1, by simp only; omega, by simp only; omega⟩
          · exact ⟨ih.1, ih.2.1, by simp only; omega, by simp only; omega⟩
        · exact ⟨ih.1, ih.2.1, by simp only; omega, by simp only; omega⟩

/-- what is told of all -/
def allV (l : List Int) (mode : Int) : Int :=
  if ((stL l).nan || (stL l).clash) = true then 9221120237041090560 else if (stL l).inf ≠ 0 then (stL l).inf else if (stL l).s.m ≠ 0 then numR (stL l).s mode
  else if (stL l).ps = l.length then 0 else if (stL l).ng = l.length then 9223372036854775808 else if mode = 2 then 9223372036854775808 else 0
def allC (l : List Int) : Bool :=
  if ((stL l).nan || (stL l).clash) = true then false else if (stL l).inf ≠ 0 then false else if (stL l).s.m ≠ 0 then numC (stL l).s else false
end Go.Proofs.YtdknfdncgmeimaaDoor

/-
  THE WALKS of sum.Zero, sum.all.
-/
namespace Go.Proofs.YtdknfdncgmeimaaDoor
open Go.RowKit Nt Fm Fl

theorem zero_any (neg : Bool) (w : World) : Calls Tryd.prog 84 #[.bool neg] w fun e w' => e = .returned (.int .u64 (if neg then 9223372036854775808 else 0)) ∧ w = w' := by
  cases neg
  all_goals
    go_enter Tryd.func84, Tryd.ntmps84
    go_wp2
    go_ret
    exact ⟨rfl, rfl⟩

/-- the slice value v reads as these uint64s -/
def LU (w : World) (v : Value) (l : List Int) : Prop :=
  (∀ d ∈ l, 0 ≤ d ∧ d ≤ 18446744073709551615) ∧ ∃ (ao : Option Addr) (cap : Nat), v = .slice ao l.length cap ∧ l.length ≤ cap ∧ cap ≤ maxLen ∧
    (l.length ≤ 0 ∨ ∃ b off, ao = some ⟨b, off, none⟩ ∧ b < w.heap.size ∧ ∀ i, i < l.length → w.cell? ⟨b, off + i, none⟩ = some (.int .u64 (l.getD i 0)))
theorem LU.below {w w' : World} {v : Value} {l : List Int} (h : LU w v l) (hb : Below w.heap.size w w') : LU w' v l := by
  obtain ⟨h1, ao, cap, h2, h3, h4, h5⟩ := h
  refine ⟨h1, ao, cap, h2, h3, h4, ?_⟩
  rcases h5 with h5 | ⟨b, off, h5, h6, h7⟩
  · exact Or.inl h5
  · exact Or.inr ⟨b, off, h5, Nat.lt_of_lt_of_le h6 hb.size, fun i hi => (hb.cell (p := ⟨b, off + i, none⟩) h6).trans (h7 i hi)⟩

/-- the state of the loop in memory: the struct at block b, seen from w -/
def Acc (w : World) (b : Nat) (d : D) (wr : World) : Prop := ∃ a n c, Box wr b 25 (.bool d.neg) (.slice a n c) (.int .i64 d.e) ∧ NV wr (.slice a n c) d.m ∧ Below w.heap.size w wr

theorem fcls_ways (x : Int) : fcls x = 1 ∨ fcls x = 2 ∨ fcls x = 3 ∨ fcls x = 4 ∨ fcls x = 5 := by
  unfold fcls; split <;> (try split) <;> (try split) <;> (try split) <;> omega
theorem stp_nan {st : St} {x : Int} (h : fcls x = 5) : stp st x = ⟨st.inf, st.clash, true, st.ng, st.ps, st.s⟩ := by unfold stp; rw [if_pos h]
theorem stp_inf {st : St} {x : Int} (h : fcls x = 4) : stp st x = ⟨x, st.clash || (decide (st.inf ≠ 0) && decide (st.inf ≠ x)), st.nan, st.ng, st.ps, st.s⟩ := by unfold stp; rw [if_neg (by omega), if_pos h]
theorem stp_ps {st : St} {x : Int} (h : fcls x = 1) (hx : x = 0) : stp st x = ⟨st.inf, st.clash, st.nan, st.ng, st.ps + 1, st.s⟩ := by unfold stp; rw [if_neg (by omega), if_neg (by omega), if_pos h, if_pos hx]
theorem stp_ng {st : St} {x : Int} (h : fcls x = 1) (hx : x ≠ 0) : stp st x = ⟨st.inf, st.clash, st.nan, st.ng + 1, st.ps, st.s⟩ := by unfold stp; rw [if_neg (by omega), if_neg (by omega), if_pos h, if_neg hx]
theorem stp_num {st : St} {x : Int} (h : fcls x = 2 ∨ fcls x = 3) : stp st x = ⟨st.inf, st.clash, st.nan, st.ng, st.ps, plus st.s (valD x)⟩ := by unfold stp; rw [if_neg (by omega), if_neg (by omega), if_neg (by omega)]

set_option maxRecDepth 100000 in
set_option maxHeartbeats 16000000 in
theorem all_any (v : Value) (l : List Int) (mode : Int) (w : World) (hT : Tab w) (hv : LU w v l) (hl : l.length ≤ 1000) (m0 : 0 ≤ mode) (m1 : mode ≤ 4) :
    Calls Tryd.prog 80 #[v, .int .i64 mode] w fun e w' => e = .returned (.tuple #[.int .u64 (allV l mode), .bool (allC l)]) ∧ Below w.heap.size w w' := by
  obtain ⟨hu, ao, cap, rfl, hcap, hmx, hc⟩ := hv
  unfold maxLen at hmx
  have hsml := stL_sml l hu
  have hinf := stL_inf l hu
  have hstep := stL_take l
  have HSML := Lib.hid hsml
  have HINF := Lib.hid hinf
  have HSTEP := Lib.hid hstep
  have HU := Lib.hid hu
  have HC := Lib.hid hc
  have HT := Lib.hid hT
  clear hsml hinf hstep hu hc hT
  go_enter Tryd.func80, Tryd.ntmps80
  go_wp2
  go_loopw [6, 7, 8, 9, 10, 16] (fun fi fc fn fg fp i wr => ∃ (k : Nat) (st : St), k ≤ l.length ∧ i = .int .i64 k ∧ fi = .int .u64 st.inf ∧ fc = .bool st.clash ∧ fn = .bool st.nan ∧ fg = .int .i64 st.ng ∧ fp = .int .i64 st.ps ∧ Hid (st = stL (l.take k)) ∧ Hid (Acc w w.heap.size st.s wr))
    (fun _ _ _ _ _ i _ => l.length - (intOf i).toNat)
  case atStart => exact ⟨0, st0, Nat.zero_le _, rfl, rfl, rfl, rfl, rfl, rfl, Lib.hid (by simp [stL]), Lib.hid ⟨none, 0, 0, Box.new w _ _ _ _, NV.nil _, (Below.refl _ _).alloc (Nat.le_refl _) _⟩⟩
  case round =>
    obtain ⟨k, st, hk, rfl, rfl, rfl, rfl, rfl, rfl, HST, HAC⟩ := hrel
    have hb1 := HINF.out k hk
    rw [← HST.out] at hb1
    obtain ⟨i0, i1, i2, i3⟩ := hb1
    have hs1 := HSML.out k hk
    rw [← HST.out] at hs1
    have HS1 := Lib.hid hs1
    clear hs1
    obtain ⟨inf, clash, nan, ng, ps, s⟩ := st
    simp only at *
    by_cases hlt : k < l.length
    · obtain ⟨x, hx⟩ : ∃ x, x = l.getD k 0 := ⟨_, rfl⟩
      have hst2 := HSTEP.out k hlt
      rw [← HST.out, ← hx] at hst2
      have hxm : 0 ≤ x ∧ x ≤ 18446744073709551615 := by
        have e : l.getD k 0 = l[k] := by simp [List.getD, hlt]
        rw [hx, e]; exact HU.out _ (List.getElem_mem hlt)
      obtain ⟨x0, x1⟩ := hxm
      obtain ⟨A, N, C, hbox, hnv, hbel⟩ := HAC.out
      have hcx : ∃ b off, ao = some ⟨b, off, none⟩ ∧ wr.cell? ⟨b, off + k, none⟩ = some (.int .u64 x) := by
        rcases HC.out with h | ⟨b, off, h1, h2, h3⟩
        · omega
        · exact ⟨b, off, h1, by rw [hx]; exact (hbel.cell (p := ⟨b, off + k, none⟩) h2).trans (h3 k hlt)⟩
      obtain ⟨b, off, rfl, hcx⟩ := hcx
      have HBX := Lib.hid hbox
      have HNV := Lib.hid hnv
      have HBL := Lib.hid hbel
      have ST2 := Lib.hid hst2
      clear hbox hnv hbel hst2 hx
      have kb : (k : Int) < (l.length : Int) := by omega
      have hcls := fcls_ways x
      have hclass := fun w' => class_any x x0 x1 w'
      generalize hK : fcls x = K at *
      have HK := Lib.hid hK
      have HCL := Lib.hid hclass
      clear hK hclass
      rcases hcls with rfl | rfl | rfl | rfl | rfl
      · by_cases hz : x = 0
        · have e := stp_ps (st := ⟨inf, clash, nan, ng, ps, s⟩) HK.out hz
          have E := Lib.hid (ST2.out.trans e)
          have hzb : (x == 0) = true := by rw [beq_iff_eq]; exact hz
          clear e hz
          go_wp2_with (go_at_call 44; refine (HCL.out _).mono ?_; rintro e w' ⟨rfl, rfl⟩)
          go_roundw
          case rel => exact ⟨k + 1, ⟨inf, clash, nan, ng, ps + 1, s⟩, by omega, by go_num, rfl, rfl, rfl, rfl, by go_num, Lib.hid E.out.symm, HAC⟩
          case measure => simp [intOf]; omega
        · have e := stp_ng (st := ⟨inf, clash, nan, ng, ps, s⟩) HK.out hz
          have E := Lib.hid (ST2.out.trans e)
          have hzb : (x == 0) = false := by rw [beq_eq_false_iff_ne]; exact hz
          clear e hz
          go_wp2_with (go_at_call 44; refine (HCL.out _).mono ?_; rintro e w' ⟨rfl, rfl⟩)
          go_roundw
          case rel => exact ⟨k + 1, ⟨inf, clash, nan, ng + 1, ps, s⟩, by omega, by go_num, rfl, rfl, rfl, by go_num, rfl, Lib.hid E.out.symm, HAC⟩
          case measure => simp [intOf]; omega
      · have e := stp_num (st := ⟨inf, clash, nan, ng, ps, s⟩) (x := x) (by have := HK.out; omega)
        have E := Lib.hid (ST2.out.trans e)
        obtain ⟨⟨q, hq, hm⟩, e0, e1⟩ := HS1.out.bds (by omega)
        obtain ⟨f1, f2, f3, f4, -⟩ := valD_facts x x0 x1
        have hpl := fun vo w' h0 h1 h2 => dplus_any (.agg #[.bool s.neg, .slice A N C, .int .i64 s.e]) vo s (valD x) (q + 53) w' h0 h1 h2 (lt_pow hm (by omega)) (lt_pow f2 (by omega)) (by omega) (by omega) (by omega) (by omega) (by omega)
        have hval := fun w' h => value_any x x0 x1 w' h
        simp only at E
        generalize plus s (valD x) = S2 at *
        generalize valD x = vx at *
        have HPL := Lib.hid hpl
        have HVA := Lib.hid hval
        have B0 := Lib.hid HBL.out.drew
        obtain ⟨q0, q1, q2, g0, g1, g2⟩ := HBX.out.cells
        clear e hm hpl hval f1 f2 f3 f4 e0 e1
        go_wp2_with (go_at_call 44; refine (HCL.out _).mono ?_; rintro e w' ⟨rfl, rfl⟩)
        go_region_with (first
          | (go_at_call 63; refine (HVA.out _ (HT.out.below B0.out)).mono ?_; rintro r w2 ⟨v2, rfl, ⟨s2, rfl, hv⟩, hb⟩; obtain ⟨a2, n2, c2, rfl⟩ := hv.shape; have HV2 := Lib.hid hv; have B2 := Lib.hid (bl_thru B0.out (Nat.le_refl _) hb); have X2 := Lib.hid (HBX.out.drew.below hb); have NV2 := Lib.hid (HNV.out.drew.below hb); obtain ⟨q0, q1, q2, g0, g1, g2⟩ := X2.out.cells; clear hv hb)
          | (go_at_call 68; refine (HPL.out _ _ (HT.out.below B2.out) ⟨_, rfl, NV2.out⟩ ⟨_, rfl, HV2.out⟩).mono ?_; rintro r w3 ⟨v3, rfl, ⟨s3, rfl, hv⟩, hb⟩; obtain ⟨a3, n3, c3, rfl⟩ := hv.shape; have HV3 := Lib.hid hv; have B3 := Lib.hid (bl_thru B2.out (Nat.le_refl _) hb); have X3 := Lib.hid (X2.out.below hb); obtain ⟨p0, p1, p2, h0', h1', h2'⟩ := X3.out.cells; clear hv hb))
        all_goals
          go_wp2
          go_roundw
          case rel => exact ⟨k + 1, ⟨inf, clash, nan, ng, ps, S2⟩, by omega, by go_num, rfl, rfl, rfl, rfl, rfl, Lib.hid E.out.symm, Lib.hid ⟨a3, n3, c3, X3.out.set3 _ _ _, HV3.out.setD X3.out, bl_set3 B3.out (Nat.le_refl _) _ _ _⟩⟩
          case measure => simp [intOf]; omega
      · have e := stp_num (st := ⟨inf, clash, nan, ng, ps, s⟩) (x := x) (by have := HK.out; omega)
        have E := Lib.hid (ST2.out.trans e)
        obtain ⟨⟨q, hq, hm⟩, e0, e1⟩ := HS1.out.bds (by omega)
        obtain ⟨f1, f2, f3, f4, -⟩ := valD_facts x x0 x1
        have hpl := fun vo w' h0 h1 h2 => dplus_any (.agg #[.bool s.neg, .slice A N C, .int .i64 s.e]) vo s (valD x) (q + 53) w' h0 h1 h2 (lt_pow hm (by omega)) (lt_pow f2 (by omega)) (by omega) (by omega) (by omega) (by omega) (by omega)
        have hval := fun w' h => value_any x x0 x1 w' h
        simp only at E
        generalize plus s (valD x) = S2 at *
        generalize valD x = vx at *
        have HPL := Lib.hid hpl
        have HVA := Lib.hid hval
        have B0 := Lib.hid HBL.out.drew
        obtain ⟨q0, q1, q2, g0, g1, g2⟩ := HBX.out.cells
        clear e hm hpl hval f1 f2 f3 f4 e0 e1
        go_wp2_with (go_at_call 44; refine (HCL.out _).mono ?_; rintro e w' ⟨rfl, rfl⟩)
        go_region_with (first
          | (go_at_call 63; refine (HVA.out _ (HT.out.below B0.out)).mono ?_; rintro r w2 ⟨v2, rfl, ⟨s2, rfl, hv⟩, hb⟩; obtain ⟨a2, n2, c2, rfl⟩ := hv.shape; have HV2 := Lib.hid hv; have B2 := Lib.hid (bl_thru B0.out (Nat.le_refl _) hb); have X2 := Lib.hid (HBX.out.drew.below hb); have NV2 := Lib.hid (HNV.out.drew.below hb); obtain ⟨q0, q1, q2, g0, g1, g2⟩ := X2.out.cells; clear hv hb)
          | (go_at_call 68; refine (HPL.out _ _ (HT.out.below B2.out) ⟨_, rfl, NV2.out⟩ ⟨_, rfl, HV2.out⟩).mono ?_; rintro r w3 ⟨v3, rfl, ⟨s3, rfl, hv⟩, hb⟩; obtain ⟨a3, n3, c3, rfl⟩ := hv.shape; have HV3 := Lib.hid hv; have B3 := Lib.hid (bl_thru B2.out (Nat.le_refl _) hb); have X3 := Lib.hid (X2.out.below hb); obtain ⟨p0, p1, p2, h0', h1', h2'⟩ := X3.out.cells; clear hv hb))
        all_goals
          go_wp2
          go_roundw
          case rel => exact ⟨k + 1, ⟨inf, clash, nan, ng, ps, S2⟩, by omega, by go_num, rfl, rfl, rfl, rfl, rfl, Lib.hid E.out.symm, Lib.hid ⟨a3, n3, c3, X3.out.set3 _ _ _, HV3.out.setD X3.out, bl_set3 B3.out (Nat.le_refl _) _ _ _⟩⟩
          case measure => simp [intOf]; omega
      · have e := stp_inf (st := ⟨inf, clash, nan, ng, ps, s⟩) HK.out
        have E := Lib.hid (ST2.out.trans e)
        clear e
        have hcase : (clash = true ∧ (clash || (decide (inf ≠ 0) && decide (inf ≠ x))) = true) ∨ (clash = false ∧ (inf != 0) = false ∧ (clash || (decide (inf ≠ 0) && decide (inf ≠ x))) = false) ∨
            (clash = false ∧ (inf != 0) = true ∧ (inf != x) = false ∧ (clash || (decide (inf ≠ 0) && decide (inf ≠ x))) = false) ∨ (clash = false ∧ (inf != 0) = true ∧ (inf != x) = true ∧ (clash || (decide (inf ≠ 0) && decide (inf ≠ x))) = true) := by
          cases clash <;> by_cases h1 : inf = 0 <;> by_cases h2 : inf = x <;> simp [h1, h2] <;> exact Decidable.em _
        simp only at E
        generalize (clash || (decide (inf ≠ 0) && decide (inf ≠ x))) = cl at *
        rcases hcase with ⟨rfl, rfl⟩ | ⟨rfl, h1, rfl⟩ | ⟨rfl, h1, h2, rfl⟩ | ⟨rfl, h1, h2, rfl⟩
        all_goals
          go_wp2_with (go_at_call 44; refine (HCL.out _).mono ?_; rintro e w' ⟨rfl, rfl⟩)
          go_roundw
          case rel => exact ⟨k + 1, ⟨x, _, nan, ng, ps, s⟩, by omega, by go_num, rfl, rfl, rfl, rfl, rfl, Lib.hid E.out.symm, HAC⟩
          case measure => simp [intOf]; omega
      · have e := stp_nan (st := ⟨inf, clash, nan, ng, ps, s⟩) HK.out
        have E := Lib.hid (ST2.out.trans e)
        clear e
        go_wp2_with (go_at_call 44; refine (HCL.out _).mono ?_; rintro e w' ⟨rfl, rfl⟩)
        go_roundw
        case rel => exact ⟨k + 1, ⟨inf, clash, true, ng, ps, s⟩, by omega, by go_num, rfl, rfl, rfl, rfl, rfl, Lib.hid E.out.symm, HAC⟩
        case measure => simp [intOf]; omega
    · have hke : k = l.length := by omega
      have hst : (⟨inf, clash, nan, ng, ps, s⟩ : St) = stL l := by have := HST.out; rw [hke, List.take_length] at this; exact this
      obtain ⟨A, N, C, hbox, hnv, hbel⟩ := HAC.out
      obtain ⟨⟨q, hq, hm⟩, e0, e1⟩ := HS1.out.bds (by omega)
      obtain ⟨A', N', C', hsl, l1, l2, lz⟩ := nv_len hnv
      obtain ⟨rfl, rfl, rfl⟩ : A = A' ∧ N = N' ∧ C = C' := by simpa using hsl
      have hzz : s.m = 0 → s.e ≤ 1000 := fun hz => by
        rcases HS1.out.1 with h | h
        · rw [h]; decide
        · omega
      have hnum := fun w' h => number_any (.agg #[.bool s.neg, .slice A N C, .int .i64 s.e]) s q mode w' h hm (by omega) (by omega) (by omega) hzz m0 m1
      have hcase : (nan = true ∧ allV l mode = 9221120237041090560 ∧ allC l = false) ∨ (nan = false ∧ clash = true ∧ allV l mode = 9221120237041090560 ∧ allC l = false) ∨
          (nan = false ∧ clash = false ∧ (inf != 0) = true ∧ allV l mode = inf ∧ allC l = false) ∨
          (nan = false ∧ clash = false ∧ (inf != 0) = false ∧ 1 ≤ N ∧ allV l mode = numR s mode ∧ allC l = numC s) ∨
          (nan = false ∧ clash = false ∧ (inf != 0) = false ∧ N = 0 ∧ ((ps : Int) == (l.length : Int)) = true ∧ allV l mode = 0 ∧ allC l = false) ∨
          (nan = false ∧ clash = false ∧ (inf != 0) = false ∧ N = 0 ∧ ((ps : Int) == (l.length : Int)) = false ∧ ((ng : Int) == (l.length : Int)) = true ∧ allV l mode = 9223372036854775808 ∧ allC l = false) ∨
          (nan = false ∧ clash = false ∧ (inf != 0) = false ∧ N = 0 ∧ ((ps : Int) == (l.length : Int)) = false ∧ ((ng : Int) == (l.length : Int)) = false ∧ allV l mode = (if (mode == 2) = true then 9223372036854775808 else 0) ∧ allC l = false) := by
        unfold allV allC
        rw [← hst]
        simp only
        cases nan
        · cases clash
          · by_cases hi : inf = 0
            · rcases lz with ⟨z1, z2⟩ | ⟨z1, z2⟩
              · by_cases hp : ps = l.length
                · right; right; right; right; left; simp [hi, z1, z2, hp]
                · by_cases hg : ng = l.length
                  · right; right; right; right; right; left
                    simp only [hi, z1, z2, hp, hg]; simp; omega
                  · right; right; right; right; right; right
                    simp only [hi, z1, z2, hp, hg]; simp; omega
              · right; right; right; left; simp [hi, z1, z2]
            · right; right; left; simp [hi]
          · right; left; simp
        · left; simp
      have HNUM := Lib.hid hnum
      have HNV := Lib.hid hnv
      have HBL := Lib.hid hbel
      obtain ⟨q0, q1, q2, g0, g1, g2⟩ := hbox.cells
      clear hst hnum hnv hbel hbox hm hke hsl lz HST HAC hzz
      generalize numR s mode = nR at *
      generalize numC s = nC at *
      rcases hcase with ⟨rfl, hV, hCC⟩ | ⟨rfl, rfl, hV, hCC⟩ | ⟨rfl, rfl, hi, hV, hCC⟩ | ⟨rfl, rfl, hi, hN, hV, hCC⟩ | ⟨rfl, rfl, hi, rfl, hp, hV, hCC⟩ | ⟨rfl, rfl, hi, rfl, hp, hg, hV, hCC⟩ | ⟨rfl, rfl, hi, rfl, hp, hg, hV, hCC⟩
      all_goals
        have HV := Lib.hid hV
        have HCC := Lib.hid hCC
        clear hV hCC
      · go_wp2
        go_ret2
        exact ⟨by rw [HV.out, HCC.out]; rfl, HBL.out⟩
      · go_wp2
        go_ret2
        exact ⟨by rw [HV.out, HCC.out]; rfl, HBL.out⟩
      · go_wp2
        go_ret2
        exact ⟨by rw [HV.out, HCC.out]; rfl, HBL.out⟩
      · go_wp2_with fail
        refine (HNUM.out _ ⟨_, rfl, HNV.out⟩).mono ?_
        rintro r w2 ⟨rfl, hb⟩
        have B2 := Lib.hid (bl_thru HBL.out (Nat.le_refl _) hb)
        clear hb
        go_wp2
        go_ret2
        exact ⟨by rw [HV.out, HCC.out]; rfl, B2.out⟩
      · go_wp2
        go_ret2
        exact ⟨by rw [HV.out, HCC.out]; rfl, HBL.out⟩
      · go_wp2
        go_ret2
        exact ⟨by rw [HV.out, HCC.out]; rfl, HBL.out⟩
      · cases hm2 : (mode == 2)
        all_goals
          have HM2 := Lib.hid hm2
          go_wp2_with (go_at_call 84; refine (zero_any _ _).mono ?_; rintro e w' ⟨rfl, rfl⟩)
          go_ret2
          exact ⟨by rw [HV.out, HCC.out, HM2.out]; rfl, HBL.out⟩
end Go.Proofs.YtdknfdncgmeimaaDoor

/-
  THE WALKS of sum.Add, sum.Sub, sumLives.
-/
namespace Go.Proofs.YtdknfdncgmeimaaDoor
open Go.RowKit Nt Fm Fl

def adE (mode : Int) : Int := if knownB mode then 0 else 1
def adV (x y mode : Int) : Int := if knownB mode then allV [x, y] mode else 0
def adC (x y mode : Int) : Bool := if knownB mode then allC [x, y] else false
theorem two_lu (w : World) (x y : Int) (T : TypeId) (x0 : 0 ≤ x) (x1 : x ≤ 18446744073709551615) (y0 : 0 ≤ y) (y1 : y ≤ 18446744073709551615) : LU (w.alloc (.cells #[.int .u64 x, .int .u64 y] T)) (.slice (some ⟨w.heap.size, 0, none⟩) 2 2) [x, y] := by
  refine ⟨?_, some ⟨w.heap.size, 0, none⟩, 2, rfl, Nat.le_refl 2, by unfold maxLen; omega, Or.inr ⟨w.heap.size, 0, rfl, by simp, ?_⟩⟩
  · intro d hd
    simp at hd
    rcases hd with rfl | rfl
    · exact ⟨x0, x1⟩
    · exact ⟨y0, y1⟩
  · intro i hi
    match i, hi with
    | 0, _ => simp [go_sem]
    | 1, _ => simp [go_sem]

set_option maxHeartbeats 2000000 in
theorem sadd_any (x y mode : Int) (x0 : 0 ≤ x) (x1 : x ≤ 18446744073709551615) (y0 : 0 ≤ y) (y1 : y ≤ 18446744073709551615) (w : World) (hT : Tab w) :
    Calls Tryd.prog 42 #[.int .u64 x, .int .u64 y, .int .i64 mode] w fun e w' => e = .returned (.tuple #[.int .u64 (adV x y mode), .bool (adC x y mode), .int .i64 (adE mode)]) ∧ Below w.heap.size w w' := by
  cases hk : knownB mode
  · have e1 : adV x y mode = 0 := by unfold adV; rw [hk]; rfl
    have e2 : adC x y mode = false := by unfold adC; rw [hk]; rfl
    have e3 : adE mode = 1 := by unfold adE; rw [hk]; rfl
    rw [e1, e2, e3]; clear e1 e2 e3 hT
    go_enter Tryd.func42, Tryd.ntmps42
    go_wp2_with (go_at_call 64; refine (known_any _ _).mono ?_; rintro e w' ⟨rfl, rfl⟩)
    go_ret3
    exact ⟨rfl, Below.refl _ _⟩
  · have e1 : adV x y mode = allV [x, y] mode := by unfold adV; rw [hk]; rfl
    have e2 : adC x y mode = allC [x, y] := by unfold adC; rw [hk]; rfl
    have e3 : adE mode = 0 := by unfold adE; rw [hk]; rfl
    have hm : 0 ≤ mode ∧ mode ≤ 4 := by unfold knownB at hk; simpa using hk
    rw [e1, e2, e3]
    have hall := fun v w' h0 h1 => all_any v [x, y] mode w' h0 h1 (by simp) hm.1 hm.2
    have hlu := fun w T => two_lu w x y T x0 x1 y0 y1
    generalize allV [x, y] mode = V at *
    generalize allC [x, y] = C at *
    have HALL := Lib.hid hall
    have HLU := Lib.hid hlu
    have HT := Lib.hid hT
    clear e1 e2 e3 hT hall hlu hm
    go_enter Tryd.func42, Tryd.ntmps42
    go_wp2_with (go_at_call 64; refine (known_any _ _).mono ?_; rintro e w' ⟨rfl, rfl⟩)
    refine (HALL.out _ _ (HT.out.alloc _) (HLU.out _ _)).mono ?_
    rintro r w1 ⟨rfl, hb⟩
    have B1 := Lib.hid (bl_thru ((Below.refl w.heap.size w).alloc (Nat.le_refl _) _) (Nat.le_refl _) hb)
    clear hb
    go_wp2
    go_ret3
    exact ⟨rfl, B1.out⟩
theorem fneg_in {x : Int} (x0 : 0 ≤ x) (x1 : x ≤ 18446744073709551615) : 0 ≤ fneg x ∧ fneg x ≤ 18446744073709551615 := by unfold fneg; split <;> omega
set_option maxHeartbeats 2000000 in
theorem ssub_any (x y mode : Int) (x0 : 0 ≤ x) (x1 : x ≤ 18446744073709551615) (y0 : 0 ≤ y) (y1 : y ≤ 18446744073709551615) (w : World) (hT : Tab w) :
    Calls Tryd.prog 45 #[.int .u64 x, .int .u64 y, .int .i64 mode] w fun e w' => e = .returned (.tuple #[.int .u64 (adV x (fneg y) mode), .bool (adC x (fneg y) mode), .int .i64 (adE mode)]) ∧ Below w.heap.size w w' := by
  have hn := fneg_in y0 y1
  have hadd := fun w' h => sadd_any x (fneg y) mode x0 x1 hn.1 hn.2 w' h
  generalize adV x (fneg y) mode = V at *
  generalize adC x (fneg y) mode = C at *
  generalize adE mode = E at *
  have HADD := Lib.hid hadd
  have HT := Lib.hid hT
  clear hadd hT hn
  go_enter Tryd.func45, Tryd.ntmps45
  go_wp2_with (go_at_call 46; refine (neg_any _ (by omega) (by omega) _).mono ?_; rintro e w' ⟨rfl, rfl⟩)
  refine (HADD.out _ HT.out).mono ?_
  rintro r w1 ⟨rfl, hb⟩
  have B1 := Lib.hid hb
  clear hb
  go_wp2
  go_ret3
  exact ⟨rfl, B1.out⟩

theorem slives_facts : adV 4607182418800017408 4607182418800017408 0 = 4611686018427387904 ∧ adC 4607182418800017408 4607182418800017408 0 = false ∧ adV 4607182418800017408 1 1 = 4607182418800017409 ∧ adC 4607182418800017408 1 1 = true ∧ adE 0 = 0 ∧ adE 1 = 0 :=
  ⟨by kernel_rfl, by kernel_rfl, by kernel_rfl, by kernel_rfl, by kernel_rfl, by kernel_rfl⟩
set_option maxHeartbeats 2000000 in
theorem sumLives_any (w : World) (hT : Tab w) :
    Calls Tryd.prog 43 #[] w fun e w' => e = .returned (.bool true) ∧ Below w.heap.size w w' := by
  obtain ⟨e1, e2, e3, e4, e5, e6⟩ := slives_facts
  have h1 := fun w' h => sadd_any 4607182418800017408 4607182418800017408 0 (by decide) (by decide) (by decide) (by decide) w' h
  have h2 := fun w' h => sadd_any 4607182418800017408 1 1 (by decide) (by decide) (by decide) (by decide) w' h
  rw [e1, e2, e5] at h1
  rw [e3, e4, e6] at h2
  have H1 := Lib.hid h1
  have H2 := Lib.hid h2
  have HT := Lib.hid hT
  have k2 := ok2_mk
  clear h1 h2 hT e1 e2 e3 e4 e5 e6
  go_enter Tryd.func43, Tryd.ntmps43
  go_wp2_with fail
  refine (H1.out _ HT.out).mono ?_
  rintro r w1 ⟨rfl, hb⟩
  have B1 := Lib.hid hb
  clear hb
  go_wp2_with fail
  refine (H2.out _ (HT.out.below B1.out)).mono ?_
  rintro r w2 ⟨rfl, hb⟩
  have B2 := Lib.hid (bl_thru B1.out (Nat.le_refl _) hb)
  clear hb
  go_wp2_with (go_at_call 31; refine (ok_new2 _ _ _ _ rfl).mono ?_; rintro e w' ⟨rfl, rfl⟩)
  go_ret
  exact ⟨rfl, B2.out.alloc B2.out.size _⟩
end Go.Proofs.YtdknfdncgmeimaaDoor

/-
  PLAIN: the sum of two numbers, in either order, and turned. No Go function here.
-/
namespace Go.Proofs.YtdknfdncgmeimaaDoor
open Go.RowKit Nt Fm Fl

def swapM (mode : Int) : Int := if mode = 1 then 2 else if mode = 2 then 1 else mode
theorem numR_turned (neg : Bool) (m : Nat) (e mode : Int) : numR ⟨!neg, m, e⟩ (swapM mode) = fneg (numR ⟨neg, m, e⟩ mode) := by
  have hk := kd_not neg mode
  have := numk_le_MR (kd neg mode) m e
  have hMR : MR = 9218868437227405312 := rfl
  unfold numR swapM fneg
  simp only
  rw [hk]
  cases neg <;> simp <;> omega
theorem plus_nz_left {d : D} (h : d.Nf) : plus nz d = d := by
  have h1 : 0 ≤ d.e + (((-d.e).toNat : Nat) : Int) := by omega
  generalize (-d.e).toNat = T at *
  have h0 : 0 ≤ nz.e + (T : Int) := by unfold nz; simp only; omega
  exact (plus_of h h0 h1 h1 (by rw [vl_zero (d := nz) rfl]; omega)).symm
theorem valD_nf (x : Int) : (valD x).Nf := by unfold valD; exact norm_nf _ _ _
theorem fneg_two {x : Int} (x0 : 0 ≤ x) (x1 : x ≤ 18446744073709551615) : fneg (fneg x) = x := by
  unfold fneg; split <;> split <;> omega
theorem fabs_fneg (x : Int) : fabs (fneg x) = fabs x := by
  unfold fabs fneg; split <;> omega
theorem fcls_fneg (x : Int) : fcls (fneg x) = fcls x := by
  unfold fcls; rw [fabs_fneg]
theorem fcls_inf {x : Int} (h : fcls x = 4) : fabs x = 9218868437227405312 := by
  unfold fcls at h; split at h; · omega
  split at h; · omega
  split at h; · omega
  split at h; · assumption
  omega
theorem fcls_zero {x : Int} (h : fcls x = 1) : fabs x = 0 := by
  unfold fcls at h; split at h; · assumption
  split at h; · omega
  split at h; · omega
  split at h; · omega
  omega
theorem opp_nf {d : D} (h : d.Nf) : (opp d).Nf := by
  rcases h with h | h
  · rw [h]; exact Or.inl rfl
  · exact Or.inr h
theorem opp_plus (a b : D) : opp (plus a b) = plus (opp a) (opp b) := by
  obtain ⟨T, h1, h2⟩ := exT a.e b.e
  have k1 : 0 ≤ (opp a).e + (T : Int) := h1
  have k2 : 0 ≤ (opp b).e + (T : Int) := h2
  have k3 : 0 ≤ (opp (plus a b)).e + (T : Int) := plus_eT h1 h2
  exact plus_of (opp_nf (plus_Nf _ _)) k1 k2 k3 (by rw [opp_vl, plus_vl _ _ _ h1 h2, opp_vl, opp_vl, Int.neg_add])
theorem norm_turned (neg : Bool) (m : Nat) (e : Int) : norm (!neg) m e = opp (norm neg m e) := by
  unfold norm
  by_cases h : m = 0
  · rw [if_pos h, if_pos h]; rfl
  · rw [if_neg h, if_neg h]
    obtain ⟨q, h1, h2⟩ := ctz_spec h
    have hp := Nat.two_pow_pos (ctz m)
    have : m / 2 ^ ctz m = q := by
      conv => lhs; arg 1; rw [h1]
      exact Nat.mul_div_cancel _ hp
    rw [this]
    unfold opp
    simp only
    rw [decide_eq_true (show q ≠ 0 by omega), Bool.and_true]
theorem valD_fneg {x : Int} (x0 : 0 ≤ x) (x1 : x ≤ 18446744073709551615) : valD (fneg x) = opp (valD x) := by
  have h1 : fexp (fneg x) = fexp x := by unfold fexp fneg; split <;> omega
  have h2 : ffr (fneg x) = ffr x := by unfold ffr fneg; split <;> omega
  have h3 : fng (fneg x) = !fng x := by
    unfold fng
    by_cases h : 9223372036854775808 ≤ x
    · have : ¬ 9223372036854775808 ≤ fneg x := by unfold fneg; rw [if_pos h]; omega
      simp [h, this]
    · have : 9223372036854775808 ≤ fneg x := by unfold fneg; rw [if_neg h]; omega
      simp [h, this]
  unfold valD
  rw [h1, h2, h3, norm_turned]

theorem stL_two (x y : Int) : stL [x, y] = stp (stp st0 x) y := rfl
theorem kst_nan {x : Int} (st : St) (h : fcls x = 5) : stp st x = ⟨st.inf, st.clash, true, st.ng, st.ps, st.s⟩ := by
  unfold stp; rw [if_pos h]
theorem kst_inf {x : Int} (st : St) (h : fcls x = 4) : stp st x = ⟨x, st.clash || (decide (st.inf ≠ 0) && decide (st.inf ≠ x)), st.nan, st.ng, st.ps, st.s⟩ := by
  unfold stp; rw [if_neg (by omega), if_pos h]
theorem kst_pz (st : St) : stp st 0 = ⟨st.inf, st.clash, st.nan, st.ng, st.ps + 1, st.s⟩ := by
  unfold stp; rw [if_neg (by decide), if_neg (by decide), if_pos (by decide), if_pos rfl]
theorem kst_mz {x : Int} (st : St) (h : fcls x = 1) (hx : x ≠ 0) : stp st x = ⟨st.inf, st.clash, st.nan, st.ng + 1, st.ps, st.s⟩ := by
  unfold stp; rw [if_neg (by omega), if_neg (by omega), if_pos h, if_neg hx]
theorem kst_fin {x : Int} (st : St) (h5 : fcls x ≠ 5) (h4 : fcls x ≠ 4) (h1 : fcls x ≠ 1) : stp st x = ⟨st.inf, st.clash, st.nan, st.ng, st.ps, plus st.s (valD x)⟩ := by
  unfold stp; rw [if_neg h5, if_neg h4, if_neg h1]
/-- which kind -/
theorem kinds (x : Int) : fcls x = 5 ∨ fcls x = 4 ∨ x = 0 ∨ (fcls x = 1 ∧ x ≠ 0) ∨ (fcls x ≠ 5 ∧ fcls x ≠ 4 ∧ fcls x ≠ 1) := by
  by_cases h5 : fcls x = 5
  · exact Or.inl h5
  · by_cases h4 : fcls x = 4
    · exact Or.inr (Or.inl h4)
    · by_cases h1 : fcls x = 1
      · by_cases h0 : x = 0
        · exact Or.inr (Or.inr (Or.inl h0))
        · exact Or.inr (Or.inr (Or.inr (Or.inl ⟨h1, h0⟩)))
      · exact Or.inr (Or.inr (Or.inr (Or.inr ⟨h5, h4, h1⟩)))
theorem stp_swap (st : St) (x y : Int) (hn : st.s.Nf) : (fcls x = 4 ∧ fcls y = 4) ∨ stp (stp st x) y = stp (stp st y) x := by
  rcases kinds x with h | h | h | ⟨h, h'⟩ | ⟨h5, h4, h1⟩ <;> rcases kinds y with k | k | k | ⟨k, k'⟩ | ⟨k5, k4, k1⟩
  all_goals try (exact Or.inl ⟨h, k⟩)
  all_goals right
  all_goals try subst h
  all_goals try subst k
  all_goals try rfl
  all_goals simp only [kst_nan, kst_inf, kst_pz, kst_mz, kst_fin, ne_eq, not_false_eq_true, *]
  all_goals try rfl
  rw [plus_assoc, plus_assoc, plus_comm (valD x)]
theorem two_swap (x y mode : Int) : allV [x, y] mode = allV [y, x] mode ∧ allC [x, y] = allC [y, x] := by
  unfold allV allC
  rw [stL_two, stL_two]
  rcases stp_swap st0 x y (Or.inl rfl) with ⟨h, k⟩ | h
  · rw [kst_inf _ h, kst_inf _ k, kst_inf _ h, kst_inf _ k]
    by_cases e : x = y
    · subst e; exact ⟨rfl, rfl⟩
    · have x0 : x ≠ 0 := by intro z; subst z; revert h; decide
      have y0 : y ≠ 0 := by intro z; subst z; revert k; decide
      simp [st0, x0, y0, e, Ne.symm e, show ¬ y = x from fun h => e h.symm]
  · rw [h]; exact ⟨rfl, rfl⟩

/-- the one state is the other one, turned -/
def Rv (st st' : St) : Prop := st'.nan = st.nan ∧ st'.clash = st.clash ∧ st'.s = opp st.s ∧ (st.inf = 0 ∧ st'.inf = 0 ∨ st.inf ≠ 0 ∧ st'.inf ≠ 0 ∧ (0 ≤ st.inf ∧ st.inf ≤ 18446744073709551615) ∧ st'.inf = fneg st.inf)
theorem Rv.step {st st' : St} {x : Int} (x0 : 0 ≤ x) (x1 : x ≤ 18446744073709551615) (h : Rv st st') : Rv (stp st x) (stp st' (fneg x)) := by
  obtain ⟨h1, h2, h3, h4⟩ := h
  have hc := fcls_fneg x
  rcases kinds x with k | k | k | ⟨k, k'⟩ | ⟨k5, k4, k1⟩
  · rw [kst_nan _ k, kst_nan _ (hc.trans k)]
    exact ⟨rfl, h2, h3, h4⟩
  · rw [kst_inf _ k, kst_inf _ (hc.trans k)]
    have z : x ≠ 0 := by intro z; subst z; revert k; decide
    have z' : fneg x ≠ 0 := by
      intro z'
      rw [z'] at hc; rw [k] at hc; revert hc; decide
    refine ⟨h1, ?_, h3, Or.inr ⟨z, z', ⟨x0, x1⟩, rfl⟩⟩
    simp only
    rw [h2]
    rcases h4 with ⟨a, b⟩ | ⟨a, b, c, d⟩
    · rw [a, b]; rfl
    · have e : (fneg st.inf = fneg x) ↔ (st.inf = x) := by
        constructor
        · intro e
          have := congrArg fneg e
          rw [fneg_two c.1 c.2, fneg_two x0 x1] at this
          exact this
        · intro e; rw [e]
      rw [d] at b
      simp only [d, a, b, e, ne_eq, not_false_eq_true]
  · have k1 : fcls x = 1 := by subst k; rfl
    subst k
    rw [kst_pz, kst_mz _ (hc.trans k1) (by decide)]
    exact ⟨h1, h2, h3, h4⟩
  · have e : x = 9223372036854775808 := by
      have := fcls_zero k; unfold fabs at this; omega
    have e2 : fneg x = 0 := by subst e; rfl
    rw [e2, kst_pz, kst_mz _ k k']
    exact ⟨h1, h2, h3, h4⟩
  · rw [kst_fin _ k5 k4 k1, kst_fin _ (by rw [hc]; exact k5) (by rw [hc]; exact k4) (by rw [hc]; exact k1), h3, valD_fneg x0 x1, ← opp_plus]
    exact ⟨h1, h2, rfl, h4⟩
theorem two_turned (x y mode : Int) (x0 : 0 ≤ x) (x1 : x ≤ 18446744073709551615) (y0 : 0 ≤ y) (y1 : y ≤ 18446744073709551615) :
    (fcls (allV [x, y] mode) = 5 ∧ fcls (allV [fneg x, fneg y] (swapM mode)) = 5) ∨ (fcls (allV [x, y] mode) = 1 ∧ fcls (allV [fneg x, fneg y] (swapM mode)) = 1) ∨
    allV [fneg x, fneg y] (swapM mode) = fneg (allV [x, y] mode) := by
  have h : Rv (stL [x, y]) (stL [fneg x, fneg y]) := by
    rw [stL_two, stL_two]
    exact Rv.step y0 y1 (Rv.step x0 x1 ⟨rfl, rfl, rfl, Or.inl ⟨rfl, rfl⟩⟩)
  obtain ⟨h1, h2, h3, h4⟩ := h
  unfold allV
  rw [h1, h2, h3]
  generalize stL [x, y] = st at *
  generalize stL [fneg x, fneg y] = st' at *
  by_cases hn : (st.nan || st.clash) = true
  · rw [if_pos hn, if_pos hn]; left; decide
  · rw [if_neg hn, if_neg hn]
    rcases h4 with ⟨a, b⟩ | ⟨a, b, c, d⟩
    · rw [if_neg (not_not_intro a), if_neg (not_not_intro b)]
      have hm : (opp st.s).m = st.s.m := rfl
      rw [hm]
      by_cases hz : st.s.m ≠ 0
      · rw [if_pos hz, if_pos hz]
        right; right
        have : opp st.s = ⟨!st.s.neg, st.s.m, st.s.e⟩ := by unfold opp; rw [decide_eq_true hz, Bool.and_true]
        rw [this, numR_turned]
      · rw [if_neg hz, if_neg hz]
        right; left
        constructor
        · split; · rfl
          split; · rfl
          split <;> rfl
        · split; · rfl
          split; · rfl
          split <;> rfl
    · rw [if_pos a, if_pos b]
      right; right; exact d
/-- THE LAW: the differences -/
theorem diff_turned (x y mode : Int) (x0 : 0 ≤ x) (x1 : x ≤ 18446744073709551615) (y0 : 0 ≤ y) (y1 : y ≤ 18446744073709551615) :
    (fcls (allV [x, fneg y] mode) = 5 ∧ fcls (allV [y, fneg x] (swapM mode)) = 5) ∨ (fcls (allV [x, fneg y] mode) = 1 ∧ fcls (allV [y, fneg x] (swapM mode)) = 1) ∨
    allV [y, fneg x] (swapM mode) = fneg (allV [x, fneg y] mode) := by
  have hb := fneg_bd y0 y1
  have h := two_turned x (fneg y) mode x0 x1 hb.1 hb.2
  rw [fneg_two y0 y1, (two_swap (fneg x) y (swapM mode)).1] at h
  exact h
theorem allV_bd (l : List Int) (h : ∀ x ∈ l, 0 ≤ x ∧ x ≤ 18446744073709551615) (mode : Int) : 0 ≤ allV l mode ∧ allV l mode ≤ 18446744073709551615 := by
  have hi := stL_inf l h l.length (Nat.le_refl _)
  rw [List.take_length] at hi
  unfold allV
  split; · omega
  split; · omega
  split
  · have := numk_le_MR (kd (stL l).s.neg mode) (stL l).s.m (stL l).s.e
    have hMR : MR = 9218868437227405312 := rfl
    unfold numR; split <;> omega
  split; · omega
  split; · omega
  split <;> omega
end Go.Proofs.YtdknfdncgmeimaaDoor

/-
  PLAIN: sums of numbers that have a value; what is told with infinite ones; the order of sums. No Go function here.
-/
namespace Go.Proofs.YtdknfdncgmeimaaDoor
open Go.RowKit Nt Fm Fl

theorem plus_nz_right {d : D} (h : d.Nf) : plus d nz = d := by rw [plus_comm]; exact plus_nz_left h
theorem valD_z {x : Int} (h : fcls x = 1) : valD x = nz := by
  have hz := fcls_zero h
  have e1 : fexp x = 0 := by unfold fabs at hz; unfold fexp; omega
  have e2 : ffr x = 0 := by unfold fabs at hz; unfold ffr; omega
  unfold valD norm; rw [e1, e2]; rfl
theorem fcls_fin {x : Int} (h : fabs x < 9218868437227405312) : fcls x ≠ 5 ∧ fcls x ≠ 4 := by
  unfold fcls; split; · decide
  split; · decide
  first | decide | (rw [if_pos h]; decide)
theorem fcls_4 {x : Int} (h : fabs x = 9218868437227405312) : fcls x = 4 := by
  unfold fcls; rw [if_neg (by omega), if_neg (by omega), if_neg (by omega), if_pos h]
theorem fcls_5 {x : Int} (h : 9218868437227405312 < fabs x) : fcls x = 5 := by
  unfold fcls; rw [if_neg (by omega), if_neg (by omega), if_neg (by omega), if_neg (by omega)]
def sumD (l : List Int) : D := l.foldl (fun s x => plus s (valD x)) nz
theorem step_fin {x : Int} (st : St) (hn : st.s.Nf) (hx : fabs x < 9218868437227405312) :
    (stp st x).nan = st.nan ∧ (stp st x).clash = st.clash ∧ (stp st x).inf = st.inf ∧ (stp st x).s = plus st.s (valD x) := by
  have hc := fcls_fin hx
  rcases kinds x with k | k | k | ⟨k, k'⟩ | ⟨k5, k4, k1⟩
  · exact absurd k hc.1
  · exact absurd k hc.2
  · subst k; rw [kst_pz, valD_z (by rfl), plus_nz_right hn]; exact ⟨rfl, rfl, rfl, rfl⟩
  · rw [kst_mz _ k k', valD_z k, plus_nz_right hn]; exact ⟨rfl, rfl, rfl, rfl⟩
  · rw [kst_fin _ k5 k4 k1]; exact ⟨rfl, rfl, rfl, rfl⟩
theorem fold_fin : ∀ (l : List Int) (st : St), st.s.Nf → (∀ x ∈ l, fabs x < 9218868437227405312) →
    (l.foldl stp st).nan = st.nan ∧ (l.foldl stp st).clash = st.clash ∧ (l.foldl stp st).inf = st.inf ∧ (l.foldl stp st).s = l.foldl (fun s x => plus s (valD x)) st.s
  | [], st, _, _ => ⟨rfl, rfl, rfl, rfl⟩
  | x :: l, st, hn, h => by
    obtain ⟨s1, s2, s3, s4⟩ := step_fin st hn (h x (by simp))
    have hnf : (stp st x).s.Nf := by rw [s4]; exact plus_Nf _ _
    obtain ⟨a, b, c, d⟩ := fold_fin l (stp st x) hnf (fun y hy => h y (by simp [hy]))
    simp only [List.foldl_cons]
    rw [a, b, c, d, s1, s2, s3, s4]
    exact ⟨rfl, rfl, rfl, rfl⟩
theorem sumD_nf (l : List Int) : (sumD l).Nf := by
  unfold sumD
  rcases List.eq_nil_or_concat l with h | ⟨k, x, h⟩
  · rw [h]; exact Or.inl rfl
  · rw [h, List.concat_eq_append, List.foldl_append]; exact plus_Nf _ _
theorem allV_of {l : List Int} (mode : Int) (a : (stL l).nan = false) (b : (stL l).clash = false) (c : (stL l).inf = 0) :
    allV l mode = (if (stL l).s.m ≠ 0 then numR (stL l).s mode else if (stL l).ps = l.length then 0 else if (stL l).ng = l.length then 9223372036854775808 else if mode = 2 then 9223372036854775808 else 0) ∧
    allC l = (if (stL l).s.m ≠ 0 then numC (stL l).s else false) := by
  unfold allV allC
  simp only [a, b, c, Bool.or_self, Bool.false_eq_true, if_false, ne_eq, not_true_eq_false, and_self]
theorem allV_fin (l : List Int) (h : ∀ x ∈ l, fabs x < 9218868437227405312) (mode : Int) :
    frank (allV l mode) = rg (sumD l).neg mode (sumD l).m (sumD l).e ∧ fabs (allV l mode) ≤ 9218868437227405312 ∧ allC l = numC (sumD l) ∧
    ((sumD l).m ≠ 0 → allV l mode = numR (sumD l) mode) ∧ ((sumD l).m = 0 → fabs (allV l mode) = 0) := by
  obtain ⟨a, b, c, d⟩ := fold_fin l st0 (Or.inl rfl) h
  have a' : (stL l).nan = false := a
  have b' : (stL l).clash = false := b
  have c' : (stL l).inf = 0 := c
  have d' : (stL l).s = sumD l := d
  obtain ⟨f1, f2⟩ := allV_of mode a' b' c'
  rw [f1, f2, d']
  by_cases hz : (sumD l).m = 0
  · have r0 : rg (sumD l).neg mode (sumD l).m (sumD l).e = 0 := by unfold rg numk; rw [hz]; simp
    have c0 : numC (sumD l) = false := by unfold numC chg; simp [hz]
    rw [r0, c0, if_neg (not_not_intro hz), if_neg (not_not_intro hz)]
    have key : ∀ v : Int, v = 0 ∨ v = 9223372036854775808 → frank v = 0 ∧ fabs v ≤ 9218868437227405312 ∧ fabs v = 0 := by
      intro v hv; rcases hv with rfl | rfl <;> decide
    generalize hv : (if (stL l).ps = l.length then (0 : Int) else if (stL l).ng = l.length then 9223372036854775808 else if mode = 2 then 9223372036854775808 else 0) = v
    have hv2 : v = 0 ∨ v = 9223372036854775808 := by
      rw [← hv]; split; · exact Or.inl rfl
      split; · exact Or.inr rfl
      split; · exact Or.inr rfl
      exact Or.inl rfl
    obtain ⟨k1, k2, k3⟩ := key v hv2
    exact ⟨k1, k2, rfl, fun h => absurd hz h, fun _ => k3⟩
  · rw [if_pos hz, if_pos hz]
    obtain ⟨r1, r2⟩ := rank_numR (sumD l) mode
    refine ⟨r1, ?_, rfl, fun _ => rfl, fun h => absurd h hz⟩
    unfold frerr at r2
    split at r2
    · omega
    · omega
theorem two_inf {x z : Int} (mode : Int) (hx : fabs x = 9218868437227405312) (hz : fabs z < 9218868437227405312 ∨ z = x) : allV [x, z] mode = x ∧ allC [x, z] = false := by
  have x0 : x ≠ 0 := by intro h; subst h; revert hx; decide
  have e1 : stp st0 x = ⟨x, false, false, 0, 0, nz⟩ := by rw [kst_inf _ (fcls_4 hx)]; rfl
  have h : (stL [x, z]).nan = false ∧ (stL [x, z]).clash = false ∧ (stL [x, z]).inf = x := by
    rw [stL_two, e1]
    rcases hz with hz | hz
    · obtain ⟨s1, s2, s3, s4⟩ := step_fin ⟨x, false, false, 0, 0, nz⟩ (Or.inl rfl) hz
      rw [s1, s2, s3]; exact ⟨rfl, rfl, rfl⟩
    · subst hz; rw [kst_inf _ (fcls_4 hx)]; simp
  unfold allV allC
  rw [h.1, h.2.1, h.2.2]
  have e : ¬ (false || false) = true := by decide
  rw [if_neg e, if_neg e, if_pos x0, if_pos x0]
  exact ⟨rfl, rfl⟩
theorem two_inf' {x z : Int} (mode : Int) (hx : fabs x < 9218868437227405312) (hz : fabs z = 9218868437227405312) : allV [x, z] mode = z ∧ allC [x, z] = false := by
  rw [(two_swap x z mode).1, (two_swap x z mode).2]
  exact two_inf mode hz (Or.inl hx)
theorem nan_stays (st : St) (x : Int) (h : (st.nan || st.clash) = true) : ((stp st x).nan || (stp st x).clash) = true := by
  rcases kinds x with k | k | k | ⟨k, k'⟩ | ⟨k5, k4, k1⟩
  · rw [kst_nan _ k]; rfl
  · rw [kst_inf _ k]; simp only [Bool.or_eq_true] at h ⊢; rcases h with h | h
    · exact Or.inl h
    · exact Or.inr (Or.inl h)
  · subst k; rw [kst_pz]; exact h
  · rw [kst_mz _ k k']; exact h
  · rw [kst_fin _ k5 k4 k1]; exact h
theorem two_nan {x z : Int} (mode : Int) (h : 9218868437227405312 < fabs x ∨ 9218868437227405312 < fabs z ∨ (fabs x = 9218868437227405312 ∧ fabs z = 9218868437227405312 ∧ x ≠ z)) :
    allV [x, z] mode = 9221120237041090560 ∧ allC [x, z] = false := by
  have h : ((stL [x, z]).nan || (stL [x, z]).clash) = true := by
    rw [stL_two]
    rcases h with h | h | ⟨h1, h2, h3⟩
    · exact nan_stays _ _ (by rw [kst_nan _ (fcls_5 h)]; rfl)
    · rw [kst_nan _ (fcls_5 h)]; rfl
    · have x0 : x ≠ 0 := by intro h; subst h; revert h1; decide
      rw [kst_inf _ (fcls_4 h1), kst_inf _ (fcls_4 h2)]; simp [x0, h3]
  unfold allV allC
  rw [if_pos h, if_pos h]
  exact ⟨rfl, rfl⟩

/-- the magnitude of a number with its sign -/
def smag (x : Int) : Int := if fng x then -((mag (fabs x).toNat : Nat) : Int) else ((mag (fabs x).toNat : Nat) : Int)
theorem valD_sm {x : Int} (x0 : 0 ≤ x) (x1 : x ≤ 18446744073709551615) (hv : fabs x < 9218868437227405312) : (valD x).vl 1074 = smag x := by
  have := valD_vl x x0 x1 hv 0
  simpa [smag] using this
theorem valD_e {x : Int} (x0 : 0 ≤ x) (x1 : x ≤ 18446744073709551615) : 0 ≤ (valD x).e + ((1074 : Nat) : Int) := by
  have := (valD_facts x x0 x1).2.2.1; omega
theorem smag_mono {x y : Int} (hx : fabs x < 9218868437227405312) (hy : fabs y < 9218868437227405312) (h : frank x ≤ frank y) : smag x ≤ smag y := by
  have bx := fabs_bd x
  have bY := fabs_bd y
  have f : ∀ v : Int, fabs v < 9218868437227405312 → frank v = if 9223372036854775808 ≤ v then -fabs v else fabs v := fun v hv => by unfold frank; rw [if_neg (by omega)]
  rw [f x hx, f y hy] at h
  clear f
  unfold smag fng
  simp only [decide_eq_true_eq]
  split at h <;> split at h
  · rename_i a b; rw [if_pos a, if_pos b]
    have := @mag_mono (fabs y).toNat (fabs x).toNat (by omega); omega
  · rename_i a b; rw [if_pos a, if_neg b]; omega
  · rename_i a b; rw [if_neg a, if_pos b]
    rw [show (fabs x).toNat = 0 by omega, show (fabs y).toNat = 0 by omega, mag_zero]; decide
  · rename_i a b; rw [if_neg a, if_neg b]
    have := @mag_mono (fabs x).toNat (fabs y).toNat (by omega); omega
theorem rg_vl {c d : D} (mode : Int) (h1 : 0 ≤ c.e + ((1074 : Nat) : Int)) (h2 : 0 ≤ d.e + ((1074 : Nat) : Int)) (h : c.vl 1074 ≤ d.vl 1074) : rg c.neg mode c.m c.e ≤ rg d.neg mode d.m d.e := by
  refine rg_mono (t := 0) (by omega) (by omega) mode ?_
  rw [sg_vl c 0, sg_vl d 0]; exact h
theorem sumD_two (x z : Int) : sumD [x, z] = plus (valD x) (valD z) := by
  show plus (plus nz (valD x)) (valD z) = _
  rw [plus_nz_left (valD_nf x)]
theorem sumD_two_vl {x z : Int} (x0 : 0 ≤ x) (x1 : x ≤ 18446744073709551615) (z0 : 0 ≤ z) (z1 : z ≤ 18446744073709551615) (hx : fabs x < 9218868437227405312) (hz : fabs z < 9218868437227405312) :
    (sumD [x, z]).vl 1074 = smag x + smag z ∧ 0 ≤ (sumD [x, z]).e + ((1074 : Nat) : Int) := by
  have e1 := valD_e x0 x1
  have e2 := valD_e z0 z1
  rw [sumD_two, plus_vl _ _ _ e1 e2, valD_sm x0 x1 hx, valD_sm z0 z1 hz]
  exact ⟨rfl, plus_eT e1 e2⟩
theorem sum_mono {x y z : Int} (mode : Int) (x0 : 0 ≤ x) (x1 : x ≤ 18446744073709551615) (y0 : 0 ≤ y) (y1 : y ≤ 18446744073709551615) (z0 : 0 ≤ z) (z1 : z ≤ 18446744073709551615)
    (hx : fabs x < 9218868437227405312) (hy : fabs y < 9218868437227405312) (hz : fabs z < 9218868437227405312) (h : frank x ≤ frank y) : frank (allV [x, z] mode) ≤ frank (allV [y, z] mode) := by
  rw [(allV_fin [x, z] (by simp [hx, hz]) mode).1, (allV_fin [y, z] (by simp [hy, hz]) mode).1]
  obtain ⟨a1, a2⟩ := sumD_two_vl x0 x1 z0 z1 hx hz
  obtain ⟨b1, b2⟩ := sumD_two_vl y0 y1 z0 z1 hy hz
  refine rg_vl mode a2 b2 ?_
  have := smag_mono hx hy h
  omega
theorem frank_numR_valD {x : Int} (x0 : 0 ≤ x) (x1 : x ≤ 18446744073709551615) (hx : fabs x < 9218868437227405312) (mode : Int) : frank x = rg (valD x).neg mode (valD x).m (valD x).e := by
  rw [← (rank_numR (valD x) mode).1]
  rcases (valD_num x x0 x1 hx mode).2 with h | ⟨h, h'⟩
  · rw [h]
  · rw [h', h]; decide
theorem smag_nonneg {z : Int} (hz : fabs z < 9218868437227405312) (h : 0 ≤ frank z) : 0 ≤ smag z := by
  have := smag_mono (x := 0) (y := z) (by decide) hz h
  have e : smag 0 = 0 := by unfold smag; simp [fng, fabs, mag_zero]
  omega
theorem sum_more {x z : Int} (mode : Int) (x0 : 0 ≤ x) (x1 : x ≤ 18446744073709551615) (z0 : 0 ≤ z) (z1 : z ≤ 18446744073709551615)
    (hx : fabs x < 9218868437227405312) (hz : fabs z < 9218868437227405312) (h : 0 ≤ frank z) : frank x ≤ frank (allV [x, z] mode) := by
  rw [(allV_fin [x, z] (by simp [hx, hz]) mode).1, frank_numR_valD x0 x1 hx mode]
  obtain ⟨a1, a2⟩ := sumD_two_vl x0 x1 z0 z1 hx hz
  refine rg_vl mode (valD_e x0 x1) a2 ?_
  rw [a1, valD_sm x0 x1 hx]
  have := smag_nonneg hz h
  omega
theorem frank_le_fabs (x : Int) : frank x ≤ fabs x ∧ -fabs x ≤ frank x := by
  have := fabs_bd x
  unfold frank; split; · omega
  split <;> omega
theorem frerr_0 {x : Int} (h : frerr x = 0) : fabs x ≤ 9218868437227405312 := by
  unfold frerr at h; split at h; · omega
  omega
theorem frank_inf {x : Int} (h : fabs x = 9218868437227405312) : frank x = 9218868437227405312 ∨ frank x = -9218868437227405312 := by
  unfold frank; rw [if_neg (by omega)]; split <;> omega
/-- THE LAW of the order of sums -/
theorem sumOrder_law {x y z : Int} (mode : Int) (x0 : 0 ≤ x) (x1 : x ≤ 18446744073709551615) (y0 : 0 ≤ y) (y1 : y ≤ 18446744073709551615) (z0 : 0 ≤ z) (z1 : z ≤ 18446744073709551615)
    (e : frerr x = 0) (f : frerr y = 0) (h : frank x ≤ frank y) :
    (frerr (allV [x, z] mode) = 0 → frerr (allV [y, z] mode) = 0 → frank (allV [x, z] mode) ≤ frank (allV [y, z] mode)) ∧
    (frerr (allV [x, z] mode) = 0 → frerr z = 0 → 0 ≤ frank z → frank x ≤ frank (allV [x, z] mode)) := by
  have hx := frerr_0 e
  have hy := frerr_0 f
  have nn : frerr 9221120237041090560 ≠ 0 := by decide
  have bd := fun v => frank_bd v
  by_cases hzn : 9218868437227405312 < fabs z
  · rw [(two_nan mode (Or.inr (Or.inl hzn))).1]
    exact ⟨fun k => absurd k nn, fun k => absurd k nn⟩
  have hz : fabs z ≤ 9218868437227405312 := by omega
  clear hzn
  by_cases zi : fabs z = 9218868437227405312
  · have key : ∀ v : Int, fabs v ≤ 9218868437227405312 → frerr (allV [v, z] mode) = 0 → allV [v, z] mode = z := by
      intro v hv hk
      by_cases vi : fabs v = 9218868437227405312
      · by_cases vz : v = z
        · rw [(two_inf mode vi (Or.inr vz.symm)).1, vz]
        · rw [(two_nan mode (Or.inr (Or.inr ⟨vi, zi, vz⟩))).1] at hk; exact absurd hk nn
      · exact (two_inf' mode (by omega) zi).1
    refine ⟨fun k1 k2 => ?_, fun k1 k2 k3 => ?_⟩
    · rw [key x hx k1, key y hy k2]; exact Int.le_refl _
    · rw [key x hx k1]
      rcases frank_inf zi with k | k
      · rw [k]; exact (bd x).2
      · omega
  · have hz : fabs z < 9218868437227405312 := by omega
    clear zi
    by_cases xi : fabs x = 9218868437227405312
    · have ex := (two_inf (z := z) mode xi (Or.inl hz)).1
      rw [ex]
      refine ⟨fun k1 k2 => ?_, fun k1 k2 k3 => Int.le_refl _⟩
      by_cases yi : fabs y = 9218868437227405312
      · rw [(two_inf (z := z) mode yi (Or.inl hz)).1]; exact h
      · rcases frank_inf xi with k | k
        · have := (frank_le_fabs y).1; omega
        · rw [k]; exact (bd _).1
    · have hx : fabs x < 9218868437227405312 := by omega
      refine ⟨fun k1 k2 => ?_, fun k1 k2 k3 => sum_more mode x0 x1 z0 z1 hx hz k3⟩
      by_cases yi : fabs y = 9218868437227405312
      · rw [(two_inf (z := z) mode yi (Or.inl hz)).1]
        rcases frank_inf yi with k | k
        · rw [k]; exact (bd _).2
        · have := (frank_le_fabs x).2; omega
      · exact sum_mono mode x0 x1 y0 y1 z0 z1 hx (by omega) hz h
end Go.Proofs.YtdknfdncgmeimaaDoor

/-
  PLAIN: which exact numbers are floats; the difference of two numbers that are near each other (Sterbenz). No Go function here.
-/
namespace Go.Proofs.YtdknfdncgmeimaaDoor
open Go.RowKit Nt Fm Fl

/-- what is rounded with nothing lost is the number itself -/
theorem valD_numR {d : D} (hn : d.Nf) (mode : Int) (hc : numC d = false) : valD (numR d mode) = d ∧ hasV (numR d mode) = true := by
  have hMR : MR = 9218868437227405312 := rfl
  have hb := numk_le_MR (kd d.neg mode) d.m d.e
  have xb : 0 ≤ numR d mode ∧ numR d mode ≤ 18446744073709551615 := by unfold numR; split <;> omega
  obtain ⟨f1, f2⟩ := fng_numR d mode
  obtain ⟨t, ht⟩ : ∃ t : Nat, 0 ≤ d.e + 1074 + t := ⟨(-(d.e + 1074)).toNat, by omega⟩
  obtain ⟨c1, c2⟩ := chg_exact ht (kd d.neg mode) hc
  have hv : fabs (numR d mode) < 9218868437227405312 := by
    have := fabs_bd (numR d mode); omega
  have e1 := (valD_facts _ xb.1 xb.2).2.2.1
  refine ⟨nf_inj (T := 1074 + t) (valD_nf _) hn (by omega) (by omega) ?_, by unfold hasV; simpa using hv⟩
  rw [valD_vl _ xb.1 xb.2 hv, f1, f2, ← sg_vl d t]
  unfold sg
  rw [c2]
theorem hasV_z {x : Int} (h : fabs x = 0) : hasV x = true ∧ valD x = nz := by
  refine ⟨by unfold hasV; rw [h]; decide, valD_z ?_⟩
  unfold fcls; rw [if_pos h]
theorem nf_z {d : D} (hn : d.Nf) (h : d.m = 0) : d = nz := by
  rcases hn with h1 | h1
  · exact h1
  · omega
/-- a sum with nothing lost is the sum -/
theorem allV_exact {l : List Int} (h : ∀ x ∈ l, fabs x < 9218868437227405312) (mode : Int) (hc : allC l = false) : hasV (allV l mode) = true ∧ valD (allV l mode) = sumD l := by
  obtain ⟨-, -, a3, a4, a5⟩ := allV_fin l h mode
  have hn := sumD_nf l
  by_cases hz : (sumD l).m = 0
  · rw [nf_z hn hz]; exact hasV_z (a5 hz)
  · rw [a4 hz]
    have := valD_numR hn mode (a3 ▸ hc)
    exact ⟨this.2, this.1⟩

theorem mag_rep : ∀ (j q : Nat), q ≤ 9007199254740992 → ∃ r, mag r = q * 2 ^ j
  | 0, q, h => ⟨_, mag_of q 0 (Or.inr rfl) h⟩
  | j + 1, q, h => by
    by_cases hq : 4503599627370496 ≤ q
    · exact ⟨_, mag_of q (j + 1) (Or.inl hq) h⟩
    · obtain ⟨r, hr⟩ := mag_rep j (2 * q) (by omega)
      exact ⟨r, by rw [hr, Nat.pow_succ, Nat.mul_comm 2 q, Nat.mul_assoc, Nat.mul_comm 2]⟩
theorem mag_parts (r : Nat) : ∃ q, q < 9007199254740992 ∧ mag r = q * ulp r := by
  unfold mag ulp
  by_cases h : r < 4503599627370496
  · refine ⟨r, by omega, ?_⟩
    rw [if_pos h, show r / 4503599627370496 - 1 = 0 by omega]; simp
  · exact ⟨4503599627370496 + r % 4503599627370496, by omega, by rw [if_neg h]⟩
theorem ulp_dvd {r s : Nat} (h : r ≤ s) : ∃ q, mag s = q * ulp r := by
  obtain ⟨q, -, hq⟩ := mag_parts s
  have : ulp s = 2 ^ (s / 4503599627370496 - 1 - (r / 4503599627370496 - 1)) * ulp r := by
    unfold ulp
    have : r / 4503599627370496 ≤ s / 4503599627370496 := Nat.div_le_div_right h
    rw [← Nat.pow_add]; congr 1; omega
  exact ⟨q * 2 ^ (s / 4503599627370496 - 1 - (r / 4503599627370496 - 1)), by rw [hq, this, Nat.mul_assoc]⟩
theorem sterb {r s : Nat} (h : r ≤ s) (h2 : mag s ≤ 2 * mag r) : ∃ k, k ≤ r ∧ mag k = mag s - mag r := by
  obtain ⟨p, hp, ep⟩ := mag_parts r
  obtain ⟨q, eq⟩ := ulp_dvd h
  have hu := ulp_pos r
  have hq : q ≤ 2 * p := by
    rw [ep, eq, ← Nat.mul_assoc] at h2
    exact Nat.le_of_mul_le_mul_right h2 hu
  obtain ⟨k, hk⟩ := mag_rep (r / 4503599627370496 - 1) (q - p) (by omega)
  have e : mag k = mag s - mag r := by
    rw [hk, ep, eq, ← Nat.sub_mul]; rfl
  refine ⟨k, ?_, e⟩
  rw [← mag_le_iff, e]; omega
theorem sterb' {r s : Nat} (h1 : mag r ≤ 2 * mag s) (h2 : mag s ≤ 2 * mag r) : ∃ k, (k ≤ r ∧ k ≤ s) ∧ mag k = ((mag s : Int) - (mag r : Int)).natAbs := by
  rcases Nat.le_total r s with h | h
  · obtain ⟨k, h3, h4⟩ := sterb h h2
    have := mag_mono h
    exact ⟨k, ⟨h3, by omega⟩, by omega⟩
  · obtain ⟨k, h3, h4⟩ := sterb h h1
    have := mag_mono h
    exact ⟨k, ⟨by omega, h3⟩, by omega⟩
/-- a number is a float -/
theorem chg_of {d : D} (he : 0 ≤ d.e + ((1074 : Nat) : Int)) {r : Nat} (hr : r < MR) (h : (d.vl 1074).natAbs = mag r) : numC d = false := by
  unfold numC
  have ht : 0 ≤ d.e + 1074 + ((0 : Nat) : Int) := by omega
  rw [chg_iff ht]
  exact ⟨r, hr, by rw [tt_vl, h]; simp⟩

theorem shift_vl (d : D) (n : Int) {T : Nat} (hT : 0 ≤ d.e + n + T) : (norm d.neg d.m (d.e + n)).vl T = d.sm * 2 ^ (d.e + n + T).toNat := by
  rw [norm_vl _ _ _ _ hT]; rfl
theorem sterb_law {x y : Int} (x0 : 0 ≤ x) (x1 : x ≤ 18446744073709551615) (y0 : 0 ≤ y) (y1 : y ≤ 18446744073709551615) (hx : fabs x < 9218868437227405312) (hy : fabs y < 9218868437227405312)
    (lo hi : D) (h : lo = norm (valD y).neg (valD y).m ((valD y).e + -1) ∧ hi = norm (valD y).neg (valD y).m ((valD y).e + 1) ∧ (valD y).neg = false ∨
      lo = norm (valD y).neg (valD y).m ((valD y).e + 1) ∧ hi = norm (valD y).neg (valD y).m ((valD y).e + -1) ∧ (valD y).neg = true)
    (h1 : cmp lo (valD x) ≤ 0) (h2 : cmp (valD x) hi ≤ 0) : numC (plus (valD x) (opp (valD y))) = false := by
  have e1 := valD_e x0 x1
  have e2 := valD_e y0 y1
  have e3 : 0 ≤ (opp (valD y)).e + ((1074 : Nat) : Int) := e2
  have hsx := valD_sm x0 x1 hx
  have hsy := valD_sm y0 y1 hy
  have hS : (plus (valD x) (opp (valD y))).vl 1074 = smag x - smag y := by
    rw [plus_vl _ _ _ e1 e3, opp_vl, hsx, hsy, Int.sub_eq_add_neg]
  have l1 : (norm (valD y).neg (valD y).m ((valD y).e + -1)).vl 1075 = smag y := by
    rw [shift_vl _ _ (by omega), ← hsy]; unfold D.vl; congr 2; omega
  have l2 : (norm (valD y).neg (valD y).m ((valD y).e + 1)).vl 1075 = 4 * smag y := by
    rw [shift_vl _ _ (by omega), ← hsy]; unfold D.vl
    rw [show ((valD y).e + 1 + ((1075 : Nat) : Int)).toNat = 2 + ((valD y).e + ((1074 : Nat) : Int)).toNat by omega, Int.pow_add, Int.mul_left_comm]; rfl
  have l3 : (valD x).vl 1075 = 2 * smag x := by
    rw [← hsx]; unfold D.vl
    rw [show ((valD x).e + ((1075 : Nat) : Int)).toNat = 1 + ((valD x).e + ((1074 : Nat) : Int)).toNat by omega, Int.pow_add, Int.mul_left_comm]; rfl
  have el : 0 ≤ lo.e + ((1075 : Nat) : Int) := by
    rcases h with ⟨h, -⟩ | ⟨h, -⟩ <;> rw [h] <;> exact norm_eT (by omega)
  have eh : 0 ≤ hi.e + ((1075 : Nat) : Int) := by
    rcases h with ⟨-, h, -⟩ | ⟨-, h, -⟩ <;> rw [h] <;> exact norm_eT (by omega)
  rw [cmp_le (T := 1075) el (by omega)] at h1
  rw [cmp_le (T := 1075) (by omega) eh] at h2
  have key : (0 ≤ smag y ∧ smag y ≤ 2 * smag x ∧ 2 * smag x ≤ 4 * smag y) ∨ (smag y ≤ 0 ∧ 4 * smag y ≤ 2 * smag x ∧ 2 * smag x ≤ smag y) := by
    have hsm : smag y = (valD y).sm * 2 ^ ((valD y).e + ((1074 : Nat) : Int)).toNat := hsy.symm
    have hp : (0 : Int) ≤ 2 ^ ((valD y).e + ((1074 : Nat) : Int)).toNat := Int.le_of_lt (Int.pow_pos (by decide))
    rcases h with ⟨a, b, c⟩ | ⟨a, b, c⟩
    · left
      rw [a, l1, l3] at h1; rw [b, l2, l3] at h2
      refine ⟨?_, h1, h2⟩
      rw [hsm]; refine Int.mul_nonneg ?_ hp
      unfold D.sm; rw [c]; simp
    · right
      rw [a, l2, l3] at h1; rw [b, l1, l3] at h2
      refine ⟨?_, h1, h2⟩
      rw [hsm]; refine Int.mul_nonpos_of_nonpos_of_nonneg ?_ hp
      unfold D.sm; rw [c]; simp
  have hMR : MR = 9218868437227405312 := rfl
  have bx := fabs_bd x
  have bY := fabs_bd y
  have ax : (smag x).natAbs = mag (fabs x).toNat := by unfold smag; split <;> simp
  have ay : (smag y).natAbs = mag (fabs y).toNat := by unfold smag; split <;> simp
  obtain ⟨k, ⟨k1, k2⟩, k3⟩ := sterb' (r := (fabs y).toNat) (s := (fabs x).toNat) (by omega) (by omega)
  refine chg_of (plus_eT e1 e3) (r := k) (by omega) ?_
  rw [hS, k3]
  omega
end Go.Proofs.YtdknfdncgmeimaaDoor
