/-
  THE WALKS of nat.Add, Mul, Sub, Cmp, Div.
-/
import Derived.Test.YthlocmhfjandlaaDoorNy
import Derived.Test.YthlocmhfjandlaaDoorNa
import Derived.Test.YthlocmhfjandlaaDoorOv
set_option linter.unusedVariables false
set_option linter.unusedSimpArgs false
namespace Go.Proofs.YthlocmhfjandlaaDoor
open Go.RowKit Nt

theorem ne_zero_b {x : Int} (h : x ≠ 0) : (x != 0) = true := by rw [bne_iff_ne]; exact h
theorem eq_zero_b {x : Int} (h : x = 0) : (x != 0) = false := by rw [bne_eq_false_iff_eq]; exact h
theorem bl2 {w w' : World} (o : Obj) (h : Below (w.alloc o).heap.size (w.alloc o) w') : Below w.heap.size w w' := ((Below.refl _ w).alloc (Nat.le_refl _) o).trans (h.mono (by simp))
/-- a number, or nothing, and an error -/
def RetNE (w : World) (n : Nat) (x : Int) (e : Ending) (w' : World) : Prop := ∃ v, e = .returned (.tuple #[v, .int .i64 x]) ∧ NV w' v n ∧ Below w.heap.size w w'
def or0 (x : Int) (n : Nat) : Nat := if x = 0 then n else 0
theorem or0_zero {n : Nat} : or0 0 n = n := rfl
theorem or0_ne {x : Int} (h : x ≠ 0) {n : Nat} : or0 x n = 0 := if_neg h
theorem lt_of_blen {n k : Nat} (h : blen n ≤ k) : n < 2 ^ k := Nat.lt_of_lt_of_le (lt_blen n) (Nat.pow_le_pow_right (by omega) h)
set_option maxHeartbeats 4000000 in
theorem nadd_any (va vb : Value) (ca cb : Int) (a b : Nat) (w : World) (hA : NA w va ca a) (hB : NA w vb cb b) :
    Calls Tryd.prog 13 #[va, vb] w (RetNE w (or0 (e2 ca cb) (a + b)) (e2 ca cb)) := by
  have CH := Lib.hid (fun blk hb => ncheck_two va vb ca cb a b blk w hA hB hb)
  obtain ⟨aa, ka, kca, rfl⟩ := hA.shape
  obtain ⟨ab, kb, kcb, rfl⟩ := hB.shape
  obtain ⟨E, hE⟩ : ∃ E, E = e2 ca cb := ⟨_, rfl⟩
  rw [← hE]
  by_cases h0 : E = 0
  · rw [← hE, h0] at CH
    obtain ⟨hca, hcb⟩ := e2_zero.1 (hE.symm.trans h0)
    obtain ⟨ha, ha2⟩ := hA.nv hca
    obtain ⟨hb, hb2⟩ := hB.nv hcb
    rw [h0, or0_zero]
    obtain ⟨K0, hK0, hK1⟩ : ∃ K0, 12800 ≤ K0 ∧ K0 ≤ 12800 := ⟨12800, by omega, by omega⟩
    have PL := Lib.hid (plus_any _ _ a b K0 (w.alloc (.cells #[.slice aa ka kca, .slice ab kb kcb] 22)) (ha.alloc _) (hb.alloc _) (lt_of_blen (Nat.le_trans ha2 hK0)) (lt_of_blen (Nat.le_trans hb2 hK0)) (by omega))
    clear hA hB hE h0 hca hcb ha hb ha2 hb2 hK0 hK1
    go_enter Tryd.func13, Tryd.ntmps13
    go_wp2_with (first
      | (go_at_call 41; refine (CH.out _ rfl).mono ?_; rintro e w1 ⟨rfl, rfl⟩)
      | (go_at_call 42; refine PL.out.mono ?_; rintro e w3 ⟨v3, rfl, hn3, hb3⟩; obtain ⟨a3, k3, c3, rfl⟩ := hn3.shape; have N3 := Lib.hid hn3; have B3 := Lib.hid hb3; clear hn3 hb3))
    go_ret2
    exact ⟨_, rfl, N3.out, bl2 _ B3.out⟩
  · rw [or0_ne h0]
    rw [← hE] at CH
    have h1 := ne_zero_b h0
    clear hA hB hE h0
    go_enter Tryd.func13, Tryd.ntmps13
    go_wp2_with (go_at_call 41; refine (CH.out _ rfl).mono ?_; rintro e w1 ⟨rfl, rfl⟩)
    go_ret2
    exact ⟨_, rfl, NV.nil _, (Below.refl _ w).alloc (Nat.le_refl _) _⟩
set_option maxHeartbeats 4000000 in
theorem nmul_any (va vb : Value) (ca cb : Int) (a b : Nat) (w : World) (hA : NA w va ca a) (hB : NA w vb cb b) :
    Calls Tryd.prog 17 #[va, vb] w (RetNE w (or0 (e2 ca cb) (a * b)) (e2 ca cb)) := by
  have CH := Lib.hid (fun blk hb => ncheck_two va vb ca cb a b blk w hA hB hb)
  obtain ⟨aa, ka, kca, rfl⟩ := hA.shape
  obtain ⟨ab, kb, kcb, rfl⟩ := hB.shape
  obtain ⟨E, hE⟩ : ∃ E, E = e2 ca cb := ⟨_, rfl⟩
  rw [← hE]
  by_cases h0 : E = 0
  · rw [← hE, h0] at CH
    obtain ⟨hca, hcb⟩ := e2_zero.1 (hE.symm.trans h0)
    obtain ⟨ha, ha2⟩ := hA.nv hca
    obtain ⟨hb, hb2⟩ := hB.nv hcb
    rw [h0, or0_zero]
    obtain ⟨K0, hK0, hK1⟩ : ∃ K0, 12800 ≤ K0 ∧ K0 ≤ 12800 := ⟨12800, by omega, by omega⟩
    have PL := Lib.hid (times_any _ _ a b K0 (w.alloc (.cells #[.slice aa ka kca, .slice ab kb kcb] 22)) (ha.alloc _) (hb.alloc _) (lt_of_blen (Nat.le_trans ha2 hK0)) (lt_of_blen (Nat.le_trans hb2 hK0)) (by omega))
    clear hA hB hE h0 hca hcb ha hb ha2 hb2 hK0 hK1
    go_enter Tryd.func17, Tryd.ntmps17
    go_wp2_with (first
      | (go_at_call 41; refine (CH.out _ rfl).mono ?_; rintro e w1 ⟨rfl, rfl⟩)
      | (go_at_call 44; refine PL.out.mono ?_; rintro e w3 ⟨v3, rfl, hn3, hb3⟩; obtain ⟨a3, k3, c3, rfl⟩ := hn3.shape; have N3 := Lib.hid hn3; have B3 := Lib.hid hb3; clear hn3 hb3))
    go_ret2
    exact ⟨_, rfl, N3.out, bl2 _ B3.out⟩
  · rw [or0_ne h0]
    rw [← hE] at CH
    have h1 := ne_zero_b h0
    clear hA hB hE h0
    go_enter Tryd.func17, Tryd.ntmps17
    go_wp2_with (go_at_call 41; refine (CH.out _ rfl).mono ?_; rintro e w1 ⟨rfl, rfl⟩)
    go_ret2
    exact ⟨_, rfl, NV.nil _, (Below.refl _ w).alloc (Nat.le_refl _) _⟩
/-- the error of Sub -/
def subE (ca cb : Int) (a b : Nat) : Int := if e2 ca cb = 0 then (if a < b then 1 else 0) else e2 ca cb
set_option maxHeartbeats 4000000 in
theorem nsub_any (va vb : Value) (ca cb : Int) (a b : Nat) (w : World) (hA : NA w va ca a) (hB : NA w vb cb b) :
    Calls Tryd.prog 23 #[va, vb] w (RetNE w (or0 (subE ca cb a b) (a - b)) (subE ca cb a b)) := by
  have CH := Lib.hid (fun blk hb => ncheck_two va vb ca cb a b blk w hA hB hb)
  obtain ⟨aa, ka, kca, rfl⟩ := hA.shape
  obtain ⟨ab, kb, kcb, rfl⟩ := hB.shape
  obtain ⟨E, hE⟩ : ∃ E, E = e2 ca cb := ⟨_, rfl⟩
  by_cases h0 : E = 0
  · rw [← hE, h0] at CH
    obtain ⟨hca, hcb⟩ := e2_zero.1 (hE.symm.trans h0)
    obtain ⟨ha, ha2⟩ := hA.nv hca
    obtain ⟨hb, hb2⟩ := hB.nv hcb
    have HA := Lib.hid (ha.alloc (.cells #[.slice aa ka kca, .slice ab kb kcb] 22))
    have HB := Lib.hid (hb.alloc (.cells #[.slice aa ka kca, .slice ab kb kcb] 22))
    have hka := lt_of_blen ha2
    have CM := Lib.hid (compare_any _ _ a b (w.alloc (.cells #[.slice aa ka kca, .slice ab kb kcb] 22)) HA.out HB.out)
    by_cases hlt : a < b
    · have e1 : subE ca cb a b = 1 := by unfold subE; rw [if_pos (hE.symm.trans h0), if_pos hlt]
      have e3 : sgn2 (a : Int) (b : Int) = -1 := by unfold sgn2; rw [if_pos (by omega)]
      rw [e1, or0_ne (by decide)]
      rw [e3] at CM
      clear hA hB hE h0 hca hcb ha hb ha2 hb2 hka e1 e3 hlt
      go_enter Tryd.func23, Tryd.ntmps23
      go_wp2_with (first
        | (go_at_call 41; refine (CH.out _ rfl).mono ?_; rintro e w1 ⟨rfl, rfl⟩)
        | (go_at_call 50; refine CM.out.mono ?_; rintro e w2 ⟨rfl, n2, rfl⟩))
      go_ret2
      exact ⟨_, rfl, NV.nil _, below_to_drewN ((Below.refl _ w).alloc (Nat.le_refl _) _)⟩
    · have e1 : subE ca cb a b = 0 := by unfold subE; rw [if_pos (hE.symm.trans h0), if_neg hlt]
      have e3 : 0 ≤ sgn2 (a : Int) (b : Int) := by unfold sgn2; rw [if_neg (by omega)]; split <;> omega
      rw [e1, or0_zero]
      generalize sgn2 (a : Int) (b : Int) = S at *
      have MN := Lib.hid (fun n2 => minus_any _ _ a b 12800 ((w.alloc (.cells #[.slice aa ka kca, .slice ab kb kcb] 22)).drewN n2) (HA.out.drewN n2) (HB.out.drewN n2) (by omega) hka (by omega))
      clear hA hB hE h0 hca hcb ha hb ha2 hb2 hka e1 hlt
      go_enter Tryd.func23, Tryd.ntmps23
      go_wp2_with (first
        | (go_at_call 41; refine (CH.out _ rfl).mono ?_; rintro e w1 ⟨rfl, rfl⟩)
        | (go_at_call 50; refine CM.out.mono ?_; rintro e w2 ⟨rfl, n2, rfl⟩)
        | (go_at_call 52; refine (MN.out _).mono ?_; rintro e w3 ⟨v3, rfl, hn3, hb3⟩; obtain ⟨a3, k3, c3, rfl⟩ := hn3.shape; have N3 := Lib.hid hn3; have B3 := Lib.hid hb3; clear hn3 hb3))
      go_ret2
      exact ⟨_, rfl, N3.out, bl2 _ ((below_to_drewN (Below.refl _ _)).trans (B3.out.mono (by simp)))⟩
  · have e1 : subE ca cb a b = E := by unfold subE; rw [if_neg (fun h => h0 (hE.trans h)), hE]
    rw [e1, or0_ne h0]
    rw [← hE] at CH
    have h1 := ne_zero_b h0
    clear hA hB hE h0 e1
    go_enter Tryd.func23, Tryd.ntmps23
    go_wp2_with (go_at_call 41; refine (CH.out _ rfl).mono ?_; rintro e w1 ⟨rfl, rfl⟩)
    go_ret2
    exact ⟨_, rfl, NV.nil _, (Below.refl _ w).alloc (Nat.le_refl _) _⟩
set_option maxHeartbeats 4000000 in
theorem ncmp_any (va vb : Value) (ca cb : Int) (a b : Nat) (w : World) (hA : NA w va ca a) (hB : NA w vb cb b) :
    Calls Tryd.prog 22 #[va, vb] w fun e w' => e = .returned (.tuple #[.int .i64 (if e2 ca cb = 0 then sgn2 (a : Int) (b : Int) else 0), .int .i64 (e2 ca cb)]) ∧ Below w.heap.size w w' := by
  have CH := Lib.hid (fun blk hb => ncheck_two va vb ca cb a b blk w hA hB hb)
  obtain ⟨aa, ka, kca, rfl⟩ := hA.shape
  obtain ⟨ab, kb, kcb, rfl⟩ := hB.shape
  obtain ⟨E, hE⟩ : ∃ E, E = e2 ca cb := ⟨_, rfl⟩
  rw [← hE]
  by_cases h0 : E = 0
  · rw [← hE, h0] at CH
    obtain ⟨hca, hcb⟩ := e2_zero.1 (hE.symm.trans h0)
    rw [if_pos h0, h0]
    have CM := Lib.hid (compare_any _ _ a b (w.alloc (.cells #[.slice aa ka kca, .slice ab kb kcb] 22)) ((hA.nv hca).1.alloc _) ((hB.nv hcb).1.alloc _))
    generalize sgn2 (a : Int) (b : Int) = S at *
    clear hA hB hE h0 hca hcb
    go_enter Tryd.func22, Tryd.ntmps22
    go_wp2_with (first
      | (go_at_call 41; refine (CH.out _ rfl).mono ?_; rintro e w1 ⟨rfl, rfl⟩)
      | (go_at_call 50; refine CM.out.mono ?_; rintro e w2 ⟨rfl, n2, rfl⟩))
    go_ret2
    exact ⟨rfl, below_to_drewN ((Below.refl _ w).alloc (Nat.le_refl _) _)⟩
  · rw [if_neg h0]
    rw [← hE] at CH
    have h1 := ne_zero_b h0
    clear hA hB hE h0
    go_enter Tryd.func22, Tryd.ntmps22
    go_wp2_with (go_at_call 41; refine (CH.out _ rfl).mono ?_; rintro e w1 ⟨rfl, rfl⟩)
    go_ret2
    exact ⟨rfl, (Below.refl _ w).alloc (Nat.le_refl _) _⟩
/-- the error of Div -/
def divE (ca cb : Int) (b : Nat) : Int := if e2 ca cb = 0 then (if b = 0 then 1 else 0) else e2 ca cb
def RetNNE (w : World) (q r : Nat) (x : Int) (e : Ending) (w' : World) : Prop := ∃ vq vr, e = .returned (.tuple #[vq, vr, .int .i64 x]) ∧ NV w' vq q ∧ NV w' vr r ∧ Below w.heap.size w w'
set_option maxHeartbeats 4000000 in
theorem ndiv_any (va vb : Value) (ca cb : Int) (a b : Nat) (w : World) (hA : NA w va ca a) (hB : NA w vb cb b) :
    Calls Tryd.prog 21 #[va, vb] w (RetNNE w (or0 (divE ca cb b) (a / b)) (or0 (divE ca cb b) (a % b)) (divE ca cb b)) := by
  have CH := Lib.hid (fun blk hb => ncheck_two va vb ca cb a b blk w hA hB hb)
  obtain ⟨aa, ka, kca, rfl⟩ := hA.shape
  obtain ⟨E, hE⟩ : ∃ E, E = e2 ca cb := ⟨_, rfl⟩
  by_cases h0 : E = 0
  · rw [← hE, h0] at CH
    obtain ⟨hca, hcb⟩ := e2_zero.1 (hE.symm.trans h0)
    obtain ⟨ha, ha2⟩ := hA.nv hca
    obtain ⟨hb, hb2⟩ := hB.nv hcb
    obtain ⟨ab, kb, kcb, rfl, hkc, hkc2, hcase⟩ := nv_len hb
    have HA := Lib.hid (ha.alloc (.cells #[.slice aa ka kca, .slice ab kb kcb] 22))
    have HB := Lib.hid (hb.alloc (.cells #[.slice aa ka kca, .slice ab kb kcb] 22))
    have hka := lt_of_blen ha2
    rcases hcase with ⟨hb0, rfl⟩ | ⟨hb0, hk1⟩
    · have e1 : divE ca cb b = 1 := by unfold divE; rw [if_pos (hE.symm.trans h0), if_pos hb0]
      rw [e1, or0_ne (by decide), or0_ne (by decide)]
      clear hA hB hE h0 hca hcb ha hb ha2 hb2 hka e1 hb0
      go_enter Tryd.func21, Tryd.ntmps21
      go_wp2_with (first
        | (go_at_call 41; refine (CH.out _ rfl).mono ?_; rintro e w1 ⟨rfl, rfl⟩))
      go_ret3
      exact ⟨_, _, rfl, NV.nil _, NV.nil _, (Below.refl _ w).alloc (Nat.le_refl _) _⟩
    · have e1 : divE ca cb b = 0 := by unfold divE; rw [if_pos (hE.symm.trans h0), if_neg hb0]
      rw [e1, or0_zero, or0_zero]
      have OV := Lib.hid (over_any _ _ a b 12800 (w.alloc (.cells #[.slice aa ka kca, .slice ab kb kcb] 22)) HA.out HB.out (by omega) hka (by omega))
      have hk2 : ((kb : Int) == 0) = false := by rw [beq_eq_false_iff_ne]; omega
      clear hA hB hE h0 hca hcb ha hb ha2 hb2 hka e1 hb0
      go_enter Tryd.func21, Tryd.ntmps21
      go_wp2_with (first
        | (go_at_call 41; refine (CH.out _ rfl).mono ?_; rintro e w1 ⟨rfl, rfl⟩)
        | (go_at_call 51; refine OV.out.mono ?_; rintro e w3 ⟨v3, v4, rfl, hn3, hn4, hb3⟩; obtain ⟨a3, k3, c3, rfl⟩ := hn3.shape; obtain ⟨a4, k4, c4, rfl⟩ := hn4.shape; have N3 := Lib.hid hn3; have N4 := Lib.hid hn4; have B3 := Lib.hid hb3; clear hn3 hn4 hb3))
      go_ret3
      exact ⟨_, _, rfl, N3.out, N4.out, bl2 _ B3.out⟩
  · obtain ⟨ab, kb, kcb, rfl⟩ := hB.shape
    have e1 : divE ca cb b = E := by unfold divE; rw [if_neg (fun h => h0 (hE.trans h)), hE]
    rw [e1, or0_ne h0, or0_ne h0]
    rw [← hE] at CH
    have h1 := ne_zero_b h0
    clear hA hB hE h0 e1
    go_enter Tryd.func21, Tryd.ntmps21
    go_wp2_with (go_at_call 41; refine (CH.out _ rfl).mono ?_; rintro e w1 ⟨rfl, rfl⟩)
    go_ret3
    exact ⟨_, _, rfl, NV.nil _, NV.nil _, (Below.refl _ w).alloc (Nat.le_refl _) _⟩
end Go.Proofs.YthlocmhfjandlaaDoor
