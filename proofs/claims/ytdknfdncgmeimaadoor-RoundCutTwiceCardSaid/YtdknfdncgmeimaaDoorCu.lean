/-
  THE WALK of round.Cut.
-/
import Derived.Test.YtdknfdncgmeimaaDoorMu
import Derived.Test.YtdknfdncgmeimaaDoorEx
set_option linter.unusedVariables false
set_option linter.unusedSimpArgs false
namespace Go.Proofs.YtdknfdncgmeimaaDoor
open Go.RowKit Nt Fm

def cutE (c pl mode : Int) (d : D) : Int := if c = 0 then (if knownB mode = true then (if pl < -20000 ∨ 20000 < pl then 1 else fitE (mulD d pl mode)) else 1) else c
def cutR (c pl mode : Int) (d : D) : D := if cutE c pl mode d = 0 then mulD d pl mode else nz
def cutB (c pl mode : Int) (d : D) : Bool := if cutE c pl mode d = 0 then mulC d pl else false
def RetCut (w : World) (E : Int) (R : D) (C : Bool) (r : Ending) (w' : World) : Prop := ∃ ao n c, r = .returned (.tuple #[.agg #[.bool R.neg, .slice ao n c, .int .i64 R.e], .bool C, .int .i64 E]) ∧ NV w' (.slice ao n c) R.m ∧ Below w.heap.size w w'
theorem mulD_k {d : D} {k : Nat} {pl mode : Int} (hm : d.m < 2 ^ k) : (mulD d pl mode).m < 2 ^ (k + 1) := by
  unfold mulD
  split
  · have := norm_m_le d.neg d.m d.e; rw [Nat.pow_succ]; omega
  · have h := cutM_lt (neg := d.neg) (mode := mode) hm (show 0 < pl - d.e by omega)
    exact Nat.lt_of_le_of_lt (norm_m_le _ _ _) h
theorem mulD_nf2 (d : D) (pl mode : Int) : (mulD d pl mode).Nf := by unfold mulD; split <;> exact norm_nf _ _ _
theorem cutR_fit (c pl mode : Int) (d : D) : Fit (cutR c pl mode d) := by
  unfold cutR
  split
  · rename_i h
    have h' := h
    unfold cutE at h'
    split at h'
    · split at h'
      · split at h'
        · exact absurd h' (by decide)
        · exact fitE_fit (mulD_nf2 d pl mode) h'
      · exact absurd h' (by decide)
    · contradiction
  · exact Fit.nz
set_option maxRecDepth 100000 in
set_option maxHeartbeats 4000000 in
theorem rcut_any (v : Value) (c : Int) (d : D) (pl mode : Int) (w : World) (hT : Tab w) (h1 : RD w v c d) (p0 : -9223372036854775808 ≤ pl) (p1 : pl ≤ 9223372036854775807) :
    Calls Tryd.prog 48 #[v, .int .i64 pl, .int .i64 mode] w (RetCut w (cutE c pl mode d) (cutR c pl mode d) (cutB c pl mode d)) := by
  have hck := fun w' hb => (RD.below h1 (w' := w') hb).check
  obtain ⟨g1, a1, n1, q1, x1, rfl, l1, l2, -, hd, -⟩ := h1
  have CK := Lib.hid hck
  have HT := Lib.hid hT
  clear hck hT
  by_cases hc : c = 0
  · subst hc
    obtain ⟨hv, rfl, rfl, hf⟩ := hd rfl
    clear hd
    cases hk : knownB mode
    · have e : cutE 0 pl mode d = 1 := by unfold cutE; rw [if_pos rfl, hk]; rfl
      have e2 : cutR 0 pl mode d = nz := by unfold cutR; rw [e]; rfl
      have e3 : cutB 0 pl mode d = false := by unfold cutB; rw [e]; rfl
      rw [e, e2, e3]
      clear e e2 e3 hv hf
      go_enter Tryd.func48, Tryd.ntmps48
      go_wp2_with fail
      refine (CK.out _ (bl_alloc2 _ _ _)).mono ?_
      rintro r w1 ⟨rfl, hb⟩
      have B1 := Lib.hid (bl_thru (bl_alloc2 w _ _) (Nat.le_refl _) hb)
      have Z1 := Lib.hid ((Box.new2 w _ _ _ _ _).below hb)
      obtain ⟨s0, s1, s2, t0, t1, t2⟩ := Z1.out.cells
      clear hb
      go_wp2_with (go_at_call 64; refine (known_any _ _).mono ?_; rintro e w' ⟨rfl, rfl⟩)
      refine bodyPost_ret (v := .tuple #[.agg #[.bool false, .slice none 0 0, .int .i64 0], .bool false, .int .i64 1]) (by simp [results, Tryd.results48, go_sem, s0, s1, s2]) rfl ?_
      exact ⟨none, 0, 0, rfl, NV.nil _, bl_set3 B1.out (by omega) _ _ _⟩
    · have HK : Hid (knownB mode = true) := Lib.hid hk
      have hm : 0 ≤ mode ∧ mode ≤ 4 := by unfold knownB at hk; simpa using hk
      by_cases hp : pl < -20000 ∨ 20000 < pl
      · have e : cutE 0 pl mode d = 1 := by unfold cutE; rw [if_pos rfl, hk, if_pos rfl, if_pos hp]
        have e2 : cutR 0 pl mode d = nz := by unfold cutR; rw [e]; rfl
        have e3 : cutB 0 pl mode d = false := by unfold cutB; rw [e]; rfl
        rw [e, e2, e3]
        clear e e2 e3 hv hf hm
        rcases Int.lt_or_le pl (-20000) with h | h
        all_goals
          first
            | have h2 : 20000 < pl := by omega
            | skip
          clear hp
          go_enter Tryd.func48, Tryd.ntmps48
          go_wp2_with fail
          refine (CK.out _ (bl_alloc2 _ _ _)).mono ?_
          rintro r w1 ⟨rfl, hb⟩
          have B1 := Lib.hid (bl_thru (bl_alloc2 w _ _) (Nat.le_refl _) hb)
          have Z1 := Lib.hid ((Box.new2 w _ _ _ _ _).below hb)
          obtain ⟨s0, s1, s2, t0, t1, t2⟩ := Z1.out.cells
          clear hb
          go_wp2_with (go_at_call 64; refine (known_any _ _).mono ?_; rintro e w' ⟨rfl, rfl⟩)
          refine bodyPost_ret (v := .tuple #[.agg #[.bool false, .slice none 0 0, .int .i64 0], .bool false, .int .i64 1]) (by simp [results, Tryd.results48, go_sem, s0, s1, s2]) rfl ?_
          exact ⟨none, 0, 0, rfl, NV.nil _, bl_set3 B1.out (by omega) _ _ _⟩
      · obtain ⟨k1, hk1, hm1⟩ := fit_k hf
        have qb := hf.2.2
        have hmul := fun w' h0 h2 => multiple_any (.agg #[.bool d.neg, .slice a1 n1 q1, .int .i64 d.e]) d k1 pl mode w' h0 h2 hm1 (by omega) (by omega) (by omega) (by omega) (by omega) hm.1 hm.2
        have e : cutE 0 pl mode d = fitE (mulD d pl mode) := by unfold cutE; rw [if_pos rfl, hk, if_pos rfl, if_neg hp]
        have e2 : cutR 0 pl mode d = if fitE (mulD d pl mode) = 0 then mulD d pl mode else nz := by unfold cutR; rw [e]
        have e3 : cutB 0 pl mode d = if fitE (mulD d pl mode) = 0 then mulC d pl else false := by unfold cutB; rw [e]
        rw [e, e2, e3]
        have hp0 : -20000 ≤ pl := by omega
        have hp1 : pl ≤ 20000 := by omega
        generalize mulC d pl = mC at *
        generalize mulD d pl mode = S at *
        have x0 : -10000 ≤ d.e := by omega
        have x1' : d.e ≤ 10000 := by omega
        have HV := Lib.hid hv
        have HMUL := Lib.hid hmul
        obtain ⟨E, hE⟩ : ∃ E, E = fitE S := ⟨_, rfl⟩
        rw [← hE]
        generalize hR : (if E = 0 then S else nz) = R
        generalize hC : (if E = 0 then mC else false) = C
        have HE := Lib.hid hE
        have HR := Lib.hid hR
        have HCC := Lib.hid hC
        clear hv hmul hf hm1 e e2 e3 hE hR hC hp hm qb hk
        go_enter Tryd.func48, Tryd.ntmps48
        go_wp2_with fail
        refine (CK.out _ (bl_alloc2 _ _ _)).mono ?_
        rintro r w1 ⟨rfl, hb⟩
        have B1 := Lib.hid (bl_thru (bl_alloc2 w _ _) (Nat.le_refl _) hb)
        have X1 := Lib.hid (((Box.new w _ _ _ _).alloc _).below hb)
        have Z1 := Lib.hid ((Box.new2 w _ _ _ _ _).below hb)
        obtain ⟨q0, q1, q2, f0, f1, f2⟩ := X1.out.cells
        clear hb
        go_wp2_with (go_at_call 64; refine (known_any _ _).mono ?_; rintro e w' ⟨rfl, rfl⟩)
        clear q0 q1 q2 f0 f1 f2
        refine (HMUL.out _ (HT.out.below B1.out) ⟨_, rfl, HV.out.below B1.out⟩).mono ?_
        rintro r w2 ⟨a3, n3, c3, rfl, hv, hb⟩
        have B2 : Hid (Below w.heap.size w w2) := Lib.hid (bl_thru B1.out (Nat.le_refl _) hb)
        have Z2 := Lib.hid (Z1.out.below hb)
        have V2 := Lib.hid hv
        obtain ⟨l, hl, el, ⟨-, ao, cap, hsl, hcap, hmx, -⟩⟩ := hv
        obtain ⟨rfl, rfl, rfl⟩ : a3 = ao ∧ n3 = l.length ∧ c3 = cap := by simpa using hsl
        unfold maxLen at hmx
        have hq : chkB l S.e = E := by rw [chkB_fitE hl el, ← HE.out]
        have hcase : (400 < l.length ∧ E = 2) ∨ (l.length ≤ 400 ∧ S.e < -10000 ∧ E = 2) ∨ (l.length ≤ 400 ∧ -10000 ≤ S.e ∧ 10000 < S.e ∧ E = 2) ∨ (l.length ≤ 400 ∧ -10000 ≤ S.e ∧ S.e ≤ 10000 ∧ E = 0) := by
          unfold chkB at hq
          by_cases h : 400 < l.length ∨ S.e < -10000 ∨ 10000 < S.e
          · rw [if_pos h] at hq; omega
          · rw [if_neg h] at hq; omega
        have Y2 := Lib.hid (Box.new w2 (.bool S.neg) (.slice a3 l.length c3) (.int .i64 S.e) 25)
        have hzl := Z2.out.lt
        have hne : w.heap.size + 1 ≠ w2.heap.size := by omega
        obtain ⟨q0, q1, q2, f0, f1, f2⟩ := Y2.out.cells
        obtain ⟨y0, y1, y2, y3, y4, y5⟩ := Z2.out.cells
        have HL := Lib.hid hl
        have EL := Lib.hid el
        clear hq hl el hb hsl
        rcases hcase with ⟨k1, rfl⟩ | ⟨k1, k2, rfl⟩ | ⟨k1, k2, k3, rfl⟩ | ⟨k1, k2, k3, rfl⟩
        · obtain rfl : nz = R := HR.out
          obtain rfl : false = C := HCC.out
          have Z4 := Lib.hid ((Z2.out.set3 (.bool false) (.slice none 0 0) (.int .i64 0)).alloc (.cells #[.bool S.neg, .slice a3 l.length c3, .int .i64 S.e] 25))
          have B4 := Lib.hid ((bl_set3 B2.out (show w.heap.size ≤ w.heap.size + 1 by omega) (.bool false) (.slice none 0 0) (.int .i64 0)).alloc (by have := B2.out.size; simp [World.setCell]; exact this) (.cells #[.bool S.neg, .slice a3 l.length c3, .int .i64 S.e] 25))
          go_wp2
          obtain ⟨r0, r1, r2, r3, r4, r5⟩ := Z4.out.cells
          refine bodyPost_ret (v := .tuple #[.agg #[.bool false, .slice none 0 0, .int .i64 0], .bool false, .int .i64 2]) (by simp [results, Tryd.results48, go_sem, r0, r1, r2]) rfl ?_
          exact ⟨none, 0, 0, rfl, NV.nil _, B4.out⟩
        · obtain rfl : nz = R := HR.out
          obtain rfl : false = C := HCC.out
          have Z4 := Lib.hid ((Z2.out.set3 (.bool false) (.slice none 0 0) (.int .i64 0)).alloc (.cells #[.bool S.neg, .slice a3 l.length c3, .int .i64 S.e] 25))
          have B4 := Lib.hid ((bl_set3 B2.out (show w.heap.size ≤ w.heap.size + 1 by omega) (.bool false) (.slice none 0 0) (.int .i64 0)).alloc (by have := B2.out.size; simp [World.setCell]; exact this) (.cells #[.bool S.neg, .slice a3 l.length c3, .int .i64 S.e] 25))
          go_wp2
          obtain ⟨r0, r1, r2, r3, r4, r5⟩ := Z4.out.cells
          refine bodyPost_ret (v := .tuple #[.agg #[.bool false, .slice none 0 0, .int .i64 0], .bool false, .int .i64 2]) (by simp [results, Tryd.results48, go_sem, r0, r1, r2]) rfl ?_
          exact ⟨none, 0, 0, rfl, NV.nil _, B4.out⟩
        · obtain rfl : nz = R := HR.out
          obtain rfl : false = C := HCC.out
          have Z4 := Lib.hid ((Z2.out.set3 (.bool false) (.slice none 0 0) (.int .i64 0)).alloc (.cells #[.bool S.neg, .slice a3 l.length c3, .int .i64 S.e] 25))
          have B4 := Lib.hid ((bl_set3 B2.out (show w.heap.size ≤ w.heap.size + 1 by omega) (.bool false) (.slice none 0 0) (.int .i64 0)).alloc (by have := B2.out.size; simp [World.setCell]; exact this) (.cells #[.bool S.neg, .slice a3 l.length c3, .int .i64 S.e] 25))
          go_wp2
          obtain ⟨r0, r1, r2, r3, r4, r5⟩ := Z4.out.cells
          refine bodyPost_ret (v := .tuple #[.agg #[.bool false, .slice none 0 0, .int .i64 0], .bool false, .int .i64 2]) (by simp [results, Tryd.results48, go_sem, r0, r1, r2]) rfl ?_
          exact ⟨none, 0, 0, rfl, NV.nil _, B4.out⟩
        · obtain rfl : S = R := HR.out
          obtain rfl : mC = C := HCC.out
          have Z4 := Lib.hid ((Z2.out.set3 (.bool S.neg) (.slice a3 l.length c3) (.int .i64 S.e)).alloc (.cells #[.bool S.neg, .slice a3 l.length c3, .int .i64 S.e] 25))
          have V4 := Lib.hid ((V2.out.setD (g' := S.neg) (ao' := a3) (n' := l.length) (c' := c3) (e' := S.e) Z2.out).alloc (.cells #[.bool S.neg, .slice a3 l.length c3, .int .i64 S.e] 25))
          have B4 := Lib.hid ((bl_set3 B2.out (show w.heap.size ≤ w.heap.size + 1 by omega) (.bool S.neg) (.slice a3 l.length c3) (.int .i64 S.e)).alloc (by have := B2.out.size; simp [World.setCell]; exact this) (.cells #[.bool S.neg, .slice a3 l.length c3, .int .i64 S.e] 25))
          go_wp2
          obtain ⟨r0, r1, r2, r3, r4, r5⟩ := Z4.out.cells
          refine bodyPost_ret (v := .tuple #[.agg #[.bool S.neg, .slice a3 l.length c3, .int .i64 S.e], .bool mC, .int .i64 0]) (by simp [results, Tryd.results48, go_sem, r0, r1, r2]) rfl ?_
          exact ⟨_, _, _, rfl, V4.out, B4.out⟩
  · have e : cutE c pl mode d = c := by unfold cutE; rw [if_neg hc]
    have e2 : cutR c pl mode d = nz := by unfold cutR; rw [e, if_neg hc]
    have e3 : cutB c pl mode d = false := by unfold cutB; rw [e, if_neg hc]
    rw [e, e2, e3]
    have hc2 : (c != 0) = true := by rw [bne_iff_ne]; exact hc
    clear e e2 e3 hd hc
    go_enter Tryd.func48, Tryd.ntmps48
    go_wp2_with fail
    refine (CK.out _ (bl_alloc2 _ _ _)).mono ?_
    rintro r w1 ⟨rfl, hb⟩
    have B1 := Lib.hid (bl_thru (bl_alloc2 w _ _) (Nat.le_refl _) hb)
    have Z1 := Lib.hid ((Box.new2 w _ _ _ _ _).below hb)
    obtain ⟨s0, s1, s2, t0, t1, t2⟩ := Z1.out.cells
    clear hb
    go_wp2
    refine bodyPost_ret (v := .tuple #[.agg #[.bool false, .slice none 0 0, .int .i64 0], .bool false, .int .i64 c]) (by simp [results, Tryd.results48, go_sem, s0, s1, s2]) rfl ?_
    exact ⟨none, 0, 0, rfl, NV.nil _, bl_set3 B1.out (by omega) _ _ _⟩
end Go.Proofs.YtdknfdncgmeimaaDoor
