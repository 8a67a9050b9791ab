/-
  THE WALK of the law DyadForm.
-/
import Derived.Test.YtmpdbmaokbhcjaaDoorMk
import Derived.Test.YtmpdbmaokbhcjaaDoorDyadBackW
import Derived.Laws.CopyOwn
set_option linter.unusedVariables false
set_option linter.unusedSimpArgs false
namespace Go.Proofs.YtmpdbmaokbhcjaaDoor
open Go.RowKit Nt Fm

theorem norm_up (g : Bool) (m : Nat) (x : Int) : norm g (4294967296 * m) (x - 32) = norm g m x := by
  have h1 : 0 ≤ x - 32 + ((((-x).toNat + 32 : Nat)) : Int) := by omega
  generalize ((-x).toNat + 32 : Nat) = T at *
  refine nf_inj (norm_nf _ _ _) (norm_nf _ _ _) (norm_eT h1) (norm_eT (by omega)) ?_
  rw [norm_vl _ _ _ _ h1, norm_vl _ _ _ _ (by omega)]
  unfold D.vl D.sm
  simp only
  rw [show (x + (T : Int)).toNat = 32 + (x - 32 + (T : Int)).toNat by omega, Int.pow_add, ← Int.mul_assoc]
  congr 1
  cases g <;> simp <;> omega
theorem mk_eq {g : Bool} {l : List Nat} {x : Int} (h : mkE g l x = 0) : checkN l = 0 ∧ -10000 ≤ x ∧ x ≤ 10000 ∧ mkR g l x = norm g (val l) x := by
  have e : mkR g l x = norm g (val l) x := by unfold mkR; rw [if_pos h]
  rw [e]
  clear e
  unfold mkE at h
  by_cases h1 : checkN l = 0
  · rw [if_pos h1] at h
    by_cases h2 : x < -10000 ∨ 10000 < x
    · rw [if_pos h2] at h; exact absurd h (by decide)
    · clear h
      exact ⟨h1, by omega, by omega, rfl⟩
  · rw [if_neg h1] at h; exact absurd h h1
theorem lim_row {w : World} {g : Nat} {T : TypeId} {l : List Nat} (hl : Lims l) (hlen : l.length ≤ 1000) (h : w.heap[g]? = some (.cells (lc l).toArray T (0, 0))) : Lim w (.slice (some ⟨g, 0, none⟩) l.length l.length) l := by
  refine ⟨hl, _, _, rfl, Nat.le_refl _, by unfold maxLen; omega, Or.inr ⟨g, 0, rfl, (Array.getElem?_eq_some_iff.1 h).1, fun i hi => ?_⟩⟩
  simp [World.cell?, h, lc, List.getD, hi]

theorem own_full {w : World} {base g n : Nat} {T : TypeId} {l : List Nat} (h : w.ownsRow base T 1 (.slice (some ⟨g, 0, none⟩) n n) n (lc l)) : w.heap[g]? = some (.cells (lc l).toArray T (0, 0)) := by
  rcases h.2 with ⟨h1, -⟩ | ⟨g', cap, cur, h1, h2, h3, h4, h5, h6, h7⟩
  · simp at h1
  · simp only [Value.slice.injEq, Option.some.injEq, Addr.mk.injEq, and_true] at h1
    obtain ⟨e1, -, e3⟩ := h1
    subst e1
    subst e3
    rw [List.take_of_length_le (by simp; omega)] at h7
    rw [h3, ← h7]
theorem splice_zero (l : List Nat) : splice (lc (List.replicate (l.length + 1) 0)) 1 (lc l) = lc (0 :: l) := by
  unfold splice lc
  simp
  omega
theorem lim_nil (w : World) : Lim w (.slice none 0 0) [] := ⟨Lims.nil, none, 0, rfl, Nat.zero_le _, Nat.zero_le _, Or.inl (by simp)⟩
theorem one_int (l : List Nat) : ∀ v ∈ lc l, v.oneCell' = true := by
  intro v hv
  unfold lc at hv
  rw [List.mem_map] at hv
  obtain ⟨d, -, rfl⟩ := hv
  rfl
theorem src_cells {w : World} {b off : Nat} {l : List Nat} (h : ∀ i, i < l.length → w.cell? ⟨b, off + i, none⟩ = some (.int .u32 ((l.getD i 0 : Nat) : Int))) : ∀ j v, (lc l)[j]? = some v → w.cell? ((⟨b, off, none⟩ : Addr).add j) = some v := by
  intro j v hj
  have hj2 : j < l.length := by have := (List.getElem?_eq_some_iff.1 hj).1; rw [lc_length] at this; exact this
  rw [show (⟨b, off, none⟩ : Addr).add j = ⟨b, off + j, none⟩ from by unfold Addr.add; split <;> simp_all, h j hj2, ← hj]
  simp [lc, List.getD, hj2]

set_option maxRecDepth 100000 in
set_option maxHeartbeats 8000000 in
theorem walkDyadForm (g : Bool) (v : Value) (l : List Nat) (x : Int) (x0 : -9223372036854775808 ≤ x) (x1 : x ≤ 9223372036854775807) (w : World) (hT : Tab w) (hl : Lim w v l) :
    Calls Tryd.prog 3 #[.bool g, v, .int .i64 x] w fun e w' => e = .returned (.bool true) ∧ Below w.heap.size w w' := by
  obtain ⟨E, R, hE, hR⟩ : ∃ E R, E = mkE g l x ∧ R = mkR g l x := ⟨_, _, rfl, rfl⟩
  have HC := Lib.hid (fun w' h0 h1 => by
    have := make_any g v l x w' h0 h1 x0 x1
    rw [← hE, ← hR] at this; exact this)
  have FR : Hid (Fit R) := Lib.hid (by rw [hR]; exact mkR_fit _ _ _)
  have hl' := hl
  obtain ⟨hlims, ao, cap, rfl, hcap, hmx, hcell⟩ := hl
  unfold maxLen at hmx
  generalize hnn : l.length = n at *
  have HL := Lib.hid hl'
  have HT := Lib.hid hT
  have HCE := Lib.hid hcell
  have HNN := Lib.hid hnn
  clear hT hl' hcell
  by_cases hz : E = 0
  · have hz' : mkE g l x = 0 := by rw [← hE]; exact hz
    obtain ⟨hcn, y0, y1, hRv⟩ := mk_eq hz'
    obtain ⟨hnrm, hlen⟩ := checkN_nrm hcn hlims
    rw [hnn] at hlen
    rw [← hR] at hRv
    rw [hz] at HC
    by_cases hl0 : n ≤ 0
    · have hnil : l = [] := List.length_eq_zero_iff.1 (by omega)
      have hlz : ((n : Int) == 0) = true := by rw [beq_iff_eq]; omega
      obtain ⟨F, S, hF, hS⟩ : ∃ F S, F = mkE g [] (x - 32) ∧ S = mkR g [] (x - 32) := ⟨_, _, rfl, rfl⟩
      have HC2 := Lib.hid (fun v' w' h0 h1 => by
        have := make_any g v' [] (x - 32) w' h0 h1 (by omega) (by omega)
        rw [← hF, ← hS] at this; exact this)
      have FiS : Hid (Fit S) := Lib.hid (by rw [hS]; exact mkR_fit _ _ _)
      have K : Hid ((F != 0) = true ∨ (F = 0 ∧ sameB S R = true)) := Lib.hid (by
        by_cases hf : F = 0
        · right; refine ⟨hf, ?_⟩
          rw [hF] at hf
          rw [hS, (mk_eq hf).2.2.2, hRv, hnil]; exact sameB_refl _
        · left; rw [bne_iff_ne]; exact hf)
      clear hE hR hz hz' hcn hRv hF hS hnrm hnn hnil
      obtain rfl : n = 0 := by omega
      go_enter Tryd.func3, Tryd.ntmps3
      go_wp2_with fail
      refine (HC.out _ HT.out HL.out).mono ?_
      rintro r w1 ⟨a1, n1, c1, rfl, hv, hb⟩
      have R1 := Lib.hid (rd_of (d := R) hv FR.out)
      have B1 := Lib.hid hb
      have X1 := Lib.hid (Box.new w1 (.bool R.neg) (.slice a1 n1 c1) (.int .i64 R.e) 24)
      clear hv hb
      go_wp2_with fail
      refine (dyadLives_any _ (HT.out.below (B1.out.alloc B1.out.size _))).mono ?_
      rintro r w2 ⟨rfl, hb⟩
      have B2 := Lib.hid (bl_thru (B1.out.alloc B1.out.size _) (Nat.le_refl _) hb)
      have X2 := Lib.hid (X1.out.below hb)
      have R2 := Lib.hid ((R1.out.below ((Below.refl _ _).alloc (Nat.le_refl _) _)).below hb)
      obtain ⟨q0, q1, q2, f0, f1, f2⟩ := X2.out.cells
      clear hb
      go_wp2_with fail
      refine (RD.check R2.out).mono ?_
      rintro r w3 ⟨rfl, hb⟩
      have B3 := Lib.hid (bl_thru B2.out (Nat.le_refl _) hb)
      have X3 := Lib.hid (X2.out.below hb)
      have R3 := Lib.hid (R2.out.below hb)
      clear hb
      go_wp2_with (first
        | (refine wpList_make_limbs rfl _ _ rfl _ _ 1 1 rfl rfl (by simp) (by simp) (Nat.le_refl _) (by omega) ?_; intro w4 hown hb4; have HF := Lib.hid (own_full hown); have HB4 := Lib.hid hb4; clear hown hb4)
        | (refine wpList_copy_nothing (o := ⟨some 42, _, _, _, _, _⟩) rfl (.tmp 40) (.tmp 41) 22 22 rfl 50 Tryd.underlying22 (by kernel_rfl) _ _ _ _ _ _ rfl rfl rfl ?_))
      have B5 : Hid (Below w.heap.size w w4) := Lib.hid (bl_thru B3.out (Nat.le_refl _) HB4.out)
      have X5 := Lib.hid (X3.out.below HB4.out)
      have R5 := Lib.hid (R3.out.below HB4.out)
      have LIM := Lib.hid (lim_nil w4)
      refine (HC2.out _ _ (HT.out.below B5.out) LIM.out).mono ?_
      rintro r w6 ⟨a2, n2, c2, rfl, hv, hb⟩
      have B6 : Hid (Below w.heap.size w w6) := Lib.hid (bl_thru B5.out (Nat.le_refl _) hb)
      have X6 := Lib.hid ((X5.out.below hb).alloc (.cells #[.bool S.neg, .slice a2 n2 c2, .int .i64 S.e] 24))
      have R6 := Lib.hid ((R5.out.below hb).below ((Below.refl _ _).alloc (Nat.le_refl _) (.cells #[.bool S.neg, .slice a2 n2 c2, .int .i64 S.e] 24)))
      have Y6 := Lib.hid (Box.new w6 (.bool S.neg) (.slice a2 n2 c2) (.int .i64 S.e) 24)
      have S6 := Lib.hid (rd_of (d := S) (hv.alloc (.cells #[.bool S.neg, .slice a2 n2 c2, .int .i64 S.e] 24)) FiS.out)
      have hx6 := (X5.out.below hb).lt
      have hne6 : w1.heap.size ≠ w6.heap.size := by omega
      obtain ⟨u0, u1, u2, u3, u4, u5⟩ := (X5.out.below hb).cells
      clear hb hv
      obtain ⟨q0, q1, q2, f0, f1, f2⟩ := X6.out.cells
      obtain ⟨p0, p1, p2, g0, g1, g2⟩ := Y6.out.cells
      rcases K.out with k | ⟨rfl, k⟩
      · go_wp2
        go_ret
        exact ⟨rfl, B6.out.alloc B6.out.size _⟩
      · have SM := Lib.hid (fun v1 v2 w' h1 h2 => same_true k v1 v2 w' h1 h2)
        clear k
        go_wp2_with fail
        refine (SM.out _ _ _ S6.out.dv R6.out.dv).mono ?_
        rintro r w7 ⟨rfl, hb⟩
        have B7 : Hid (Below w.heap.size w w7) := Lib.hid (bl_thru (B6.out.alloc B6.out.size _) (Nat.le_refl _) hb)
        clear hb
        go_wp2
        go_ret
        exact ⟨rfl, B7.out⟩
    · have hl1 : 1 ≤ n := by omega
      have hlz : ((n : Int) == 0) = false := by rw [beq_eq_false_iff_ne]; omega
      obtain ⟨F, S, hF, hS⟩ : ∃ F S, F = mkE g (0 :: l) (x - 32) ∧ S = mkR g (0 :: l) (x - 32) := ⟨_, _, rfl, rfl⟩
      have HC2 := Lib.hid (fun v' w' h0 h1 => by
        have := make_any g v' (0 :: l) (x - 32) w' h0 h1 (by omega) (by omega)
        rw [← hF, ← hS] at this; exact this)
      have FiS : Hid (Fit S) := Lib.hid (by rw [hS]; exact mkR_fit _ _ _)
      have K : Hid ((F != 0) = true ∨ (F = 0 ∧ sameB S R = true)) := Lib.hid (by
        by_cases hf : F = 0
        · right; refine ⟨hf, ?_⟩
          rw [hF] at hf
          rw [hS, (mk_eq hf).2.2.2, hRv, show val (0 :: l) = 4294967296 * val l from by simp [val], norm_up]; exact sameB_refl _
        · left; rw [bne_iff_ne]; exact hf)
      clear hE hR hz hz' hcn hRv hF hS hnrm hnn
      go_enter Tryd.func3, Tryd.ntmps3
      go_wp2_with fail
      refine (HC.out _ HT.out HL.out).mono ?_
      rintro r w1 ⟨a1, n1, c1, rfl, hv, hb⟩
      have R1 := Lib.hid (rd_of (d := R) hv FR.out)
      have B1 := Lib.hid hb
      have X1 := Lib.hid (Box.new w1 (.bool R.neg) (.slice a1 n1 c1) (.int .i64 R.e) 24)
      clear hv hb
      go_wp2_with fail
      refine (dyadLives_any _ (HT.out.below (B1.out.alloc B1.out.size _))).mono ?_
      rintro r w2 ⟨rfl, hb⟩
      have B2 := Lib.hid (bl_thru (B1.out.alloc B1.out.size _) (Nat.le_refl _) hb)
      have X2 := Lib.hid (X1.out.below hb)
      have R2 := Lib.hid ((R1.out.below ((Below.refl _ _).alloc (Nat.le_refl _) _)).below hb)
      obtain ⟨q0, q1, q2, f0, f1, f2⟩ := X2.out.cells
      clear hb
      go_wp2_with fail
      refine (RD.check R2.out).mono ?_
      rintro r w3 ⟨rfl, hb⟩
      have B3 := Lib.hid (bl_thru B2.out (Nat.le_refl _) hb)
      have X3 := Lib.hid (X2.out.below hb)
      have R3 := Lib.hid (R2.out.below hb)
      clear hb
      have hsrc : ∃ b off, ao = some ⟨b, off, none⟩ ∧ ∀ w', Below w3.heap.size w3 w' → ∀ j v, (lc l)[j]? = some v → w'.cell? ((⟨b, off, none⟩ : Addr).add j) = some v := by
        rcases HCE.out with h | ⟨b, off, h1, h2, h3⟩
        · omega
        · refine ⟨b, off, h1, fun w' hw' => src_cells fun i hi => ?_⟩
          have h4 := bl_thru B3.out (Nat.le_refl _) hw'
          exact (h4.cell (p := ⟨b, off + i, none⟩) h2).trans (h3 i (by have := HNN.out; omega))
      obtain ⟨b, off, rfl, hsrc⟩ := hsrc
      have HSRC := Lib.hid hsrc
      clear hsrc
      go_wp2_with (first
        | (refine wpList_make_limbs rfl _ _ rfl _ _ (n + 1) (n + 1) rfl rfl (by simp) (by simp) (Nat.le_refl _) (by omega) ?_; intro w4 hown hb4; have HF := Lib.hid (own_full hown); have HB4 := Lib.hid hb4; clear hown hb4)
        | (refine wpList_copy_splice (o := ⟨some 42, _, _, _, _, _⟩) rfl (.tmp 40) (.tmp 41) 22 22 rfl 50 Tryd.underlying22 (by kernel_rfl) _ _ _ _ _ _ rfl rfl w3.heap.size 1 (lc (List.replicate (n + 1) 0)) 50 HF.out (lc l) (by have := HNN.out; rw [lc_length]; simp [Nat.min_def]; omega) (fun _ => ⟨rfl, _, rfl, HSRC.out _ HB4.out⟩) (by have := HNN.out; rw [lc_length, lc_length]; simp; omega) (one_int l) w3.heap.size w3 HB4.out (Nat.le_refl _) ?_; intro w5 hg5 hb5; have HG5 := Lib.hid hg5.out; have HB5 := Lib.hid hb5; clear hg5 hb5))
      have B5 : Hid (Below w.heap.size w w5) := Lib.hid (bl_thru B3.out (Nat.le_refl _) HB5.out)
      have X5 := Lib.hid (X3.out.below HB5.out)
      have R5 := Lib.hid (R3.out.below HB5.out)
      have hl2 : w5.heap[w3.heap.size]? = some (.cells (lc (0 :: l)).toArray 50 (0, 0)) := by
        have := HG5.out
        rw [← HNN.out, splice_zero] at this; exact this
      have LIM : Hid (Lim w5 (.slice (some ⟨w3.heap.size, 0, none⟩) (n + 1) (n + 1)) (0 :: l)) := by
        have := lim_row (Lims.cons (by decide) HL.out.1) (by simp; have := HNN.out; omega) hl2
        rw [show (0 :: l).length = n + 1 by simp; exact HNN.out] at this
        exact Lib.hid this
      clear hl2
      refine (HC2.out _ _ (HT.out.below B5.out) LIM.out).mono ?_
      rintro r w6 ⟨a2, n2, c2, rfl, hv, hb⟩
      have B6 : Hid (Below w.heap.size w w6) := Lib.hid (bl_thru B5.out (Nat.le_refl _) hb)
      have X6 := Lib.hid ((X5.out.below hb).alloc (.cells #[.bool S.neg, .slice a2 n2 c2, .int .i64 S.e] 24))
      have R6 := Lib.hid ((R5.out.below hb).below ((Below.refl _ _).alloc (Nat.le_refl _) (.cells #[.bool S.neg, .slice a2 n2 c2, .int .i64 S.e] 24)))
      have Y6 := Lib.hid (Box.new w6 (.bool S.neg) (.slice a2 n2 c2) (.int .i64 S.e) 24)
      have S6 := Lib.hid (rd_of (d := S) (hv.alloc (.cells #[.bool S.neg, .slice a2 n2 c2, .int .i64 S.e] 24)) FiS.out)
      have hx6 := (X5.out.below hb).lt
      have hne6 : w1.heap.size ≠ w6.heap.size := by omega
      obtain ⟨u0, u1, u2, u3, u4, u5⟩ := (X5.out.below hb).cells
      clear hb hv
      obtain ⟨q0, q1, q2, f0, f1, f2⟩ := X6.out.cells
      obtain ⟨p0, p1, p2, g0, g1, g2⟩ := Y6.out.cells
      rcases K.out with k | ⟨rfl, k⟩
      · go_wp2
        go_ret
        exact ⟨rfl, B6.out.alloc B6.out.size _⟩
      · have SM := Lib.hid (fun v1 v2 w' h1 h2 => same_true k v1 v2 w' h1 h2)
        clear k
        go_wp2_with fail
        refine (SM.out _ _ _ S6.out.dv R6.out.dv).mono ?_
        rintro r w7 ⟨rfl, hb⟩
        have B7 : Hid (Below w.heap.size w w7) := Lib.hid (bl_thru (B6.out.alloc B6.out.size _) (Nat.le_refl _) hb)
        clear hb
        go_wp2
        go_ret
        exact ⟨rfl, B7.out⟩
  · have hn : R.m = 0 := by rw [hR]; unfold mkR; rw [← hE, if_neg hz]; rfl
    have HN := Lib.hid hn
    have hE0 : (E != 0) = true := by rw [bne_iff_ne]; exact hz
    clear hE hR hz hn hnn
    go_enter Tryd.func3, Tryd.ntmps3
    go_wp2_with fail
    refine (HC.out _ HT.out HL.out).mono ?_
    rintro r w1 ⟨a1, n1, c1, rfl, hv, hb⟩
    have hn1 : n1 = 0 := nv_zero hv HN.out
    subst hn1
    have B1 := Lib.hid hb
    have X1 := Lib.hid (Box.new w1 (.bool R.neg) (.slice a1 0 c1) (.int .i64 R.e) 24)
    clear hv hb
    go_wp2_with fail
    refine (dyadLives_any _ (HT.out.below (B1.out.alloc B1.out.size _))).mono ?_
    rintro r w2 ⟨rfl, hb⟩
    have B2 := Lib.hid (bl_thru (B1.out.alloc B1.out.size _) (Nat.le_refl _) hb)
    have X2 := Lib.hid (X1.out.below hb)
    clear hb
    go_wp2_with fail
    refine (dyadLives_any _ (HT.out.below B2.out)).mono ?_
    rintro r w3 ⟨rfl, hb⟩
    have B3 := Lib.hid (bl_thru B2.out (Nat.le_refl _) hb)
    have X3 := Lib.hid (X2.out.below hb)
    obtain ⟨q0, q1, q2, f0, f1, f2⟩ := X3.out.cells
    clear hb
    go_wp2
    go_ret
    exact ⟨rfl, B3.out⟩
end Go.Proofs.YtmpdbmaokbhcjaaDoor
