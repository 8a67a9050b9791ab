/-
  THE WALK of the law SumOnce.
-/
import Derived.Test.YtdknfdncgmeimaaDoorRv
import Derived.Test.YtdknfdncgmeimaaDoorOn
import Derived.Test.YtdknfdncgmeimaaDoorVl
set_option linter.unusedVariables false
set_option linter.unusedSimpArgs false
namespace Go.Proofs.YtdknfdncgmeimaaDoor
open Go.RowKit Nt Fm Fl

theorem own_below {w w' : World} {base n : Nat} {T : TypeId} {v : Value} {xs : List Value} (h : w.ownsRow base T 1 v n xs) (hb : Below w.heap.size w w') : w'.ownsRow base T 1 v n xs := by
  refine ⟨h.1, ?_⟩
  rcases h.2 with h0 | ⟨g, cap, cur, rfl, h1, hg, h2⟩
  · exact Or.inl h0
  · exact Or.inr ⟨g, cap, cur, rfl, h1, by rw [hb.block g (Array.getElem?_eq_some_iff.1 hg).1]; exact hg, h2⟩
theorem own_ge {w : World} {base n : Nat} {T : TypeId} {v : Value} {xs : List Value} (h : w.ownsRow base T 1 v n xs) (k : Nat) (hk : v.ownBlock = some k) : base ≤ k := by
  rcases h.2 with ⟨rfl, -⟩ | ⟨g, cap, cur, rfl, h1, -⟩
  · simp [Value.ownBlock] at hk
  · simp [Value.ownBlock] at hk; omega
theorem two_src (w : World) (o : Obj) (x y : Int) (T : TypeId) : ∀ (j : Nat) (u : Value), [Value.int .u64 x, Value.int .u64 y][j]? = some u → ((w.alloc o).alloc (.cells #[.int .u64 x, .int .u64 y] T)).cell? ((⟨w.heap.size + 1, 0, none⟩ : Addr).add j) = some u := by
  intro j u hj
  have e : w.heap.size + 1 = (w.alloc o).heap.size := by simp
  rw [e]
  match j, hj with
  | 0, h => simp at h; subst h; simp [Addr.add, go_sem]
  | 1, h => simp at h; subst h; simp [Addr.add, go_sem]
theorem two_one (x y : Int) : ∀ u ∈ [Value.int .u64 x, Value.int .u64 y], u.oneCell' = true := by
  intro u hu; simp at hu; rcases hu with rfl | rfl <;> rfl
theorem sl_rev (l : List Int) (mode : Int) : slV l.reverse mode = slV l mode ∧ slC l.reverse mode = slC l mode := by
  unfold slV slC
  rw [List.length_reverse, (allV_rev l mode).1, (allV_rev l mode).2]
  exact ⟨rfl, rfl⟩
theorem slV_bd {l : List Int} (h : ∀ d ∈ l, 0 ≤ d ∧ d ≤ 18446744073709551615) (mode : Int) : 0 ≤ slV l mode ∧ slV l mode ≤ 18446744073709551615 := by
  unfold slV; split
  · exact allV_bd l h mode
  · omega
theorem once_law {l : List Int} {x mode : Int} (h : ∀ d ∈ l, 0 ≤ d ∧ d ≤ 18446744073709551615) (x0 : 0 ≤ x) (x1 : x ≤ 18446744073709551615) (he : slE l.length mode = 0) (hx : hasV x = true) :
    slE (l.reverse ++ [x, fneg x]).length mode = 2 ∨ (slE (l.reverse ++ [x, fneg x]).length mode = 0 ∧ slC (l.reverse ++ [x, fneg x]) mode = slC l mode ∧ (slV (l.reverse ++ [x, fneg x]) mode = slV l mode ∨ (fcls (slV (l.reverse ++ [x, fneg x]) mode) = 1 ∧ fcls (slV l mode) = 1))) := by
  have hk : knownB mode = true := by
    unfold slE at he; cases hk : knownB mode
    · simp [hk] at he
    · rfl
  by_cases hl : 200 < (l.reverse ++ [x, fneg x]).length
  · left; unfold slE; rw [hk, if_pos rfl, if_pos hl]
  · right
    have e2 : slE (l.reverse ++ [x, fneg x]).length mode = 0 := by unfold slE; rw [hk, if_pos rfl, if_neg hl]
    have hf : fabs x < 9218868437227405312 := by unfold hasV at hx; simpa using hx
    have hn : (stL l.reverse).s.Nf := by
      have := (stL_sml l.reverse (fun d hd => h d (List.mem_reverse.1 hd)) l.reverse.length (Nat.le_refl _)).1
      rw [List.take_length] at this; exact this
    obtain ⟨a, b⟩ := allV_more l.reverse x mode x0 x1 hf hn
    refine ⟨e2, ?_, ?_⟩
    · unfold slC; rw [e2, he, if_pos rfl, if_pos rfl, a, (allV_rev l mode).2]
    · unfold slV; rw [e2, he, if_pos rfl, if_pos rfl, ← (allV_rev l mode).1]; exact b
set_option maxRecDepth 100000 in
set_option maxHeartbeats 8000000 in
theorem walkSumOnce (v : Value) (l : List Int) (x : Int) (x0 : 0 ≤ x) (x1 : x ≤ 18446744073709551615) (mode : Int) (mode0 : -9223372036854775808 ≤ mode) (mode1 : mode ≤ 9223372036854775807) (w : World) (hT : Tab w) (hv : LU w v l) (hr : l.length * 8 ≤ 140737488351232) :
    Calls Tryd.prog 16 #[v, .int .u64 x, .int .i64 mode] w fun e w' => e = .returned (.bool true) ∧ Below w.heap.size w w' := by
  have hu := hv.1
  have hn := fneg_bd x0 x1
  have hur : ∀ d ∈ l.reverse, 0 ≤ d ∧ d ≤ 18446744073709551615 := fun d hd => hu d (List.mem_reverse.1 hd)
  have hum : ∀ d ∈ l.reverse ++ [x, fneg x], 0 ≤ d ∧ d ≤ 18446744073709551615 := by
    intro d hd
    rw [List.mem_append] at hd
    rcases hd with hd | hd
    · exact hur d hd
    · simp at hd; rcases hd with rfl | rfl
      · exact ⟨x0, x1⟩
      · exact hn
  obtain ⟨a0, a1⟩ := slV_bd hu mode
  obtain ⟨g0, g1⟩ := slV_bd hum mode
  have H1 := Lib.hid (fun v w' h0 h1 => sall_any v l mode w' h0 h1)
  have H2 := Lib.hid (fun v w' h0 h1 => by
    have := sall_any v l.reverse mode w' h0 h1
    rw [(sl_rev l mode).1, (sl_rev l mode).2, List.length_reverse] at this; exact this)
  have H3 := Lib.hid (fun v w' h0 h1 => sall_any v (l.reverse ++ [x, fneg x]) mode w' h0 h1)
  have HC := Lib.hid (fun v w' h => clone64_any v l w' h hr)
  have HX := Lib.hid (fun w' h => valu_any x x0 x1 w' h)
  have HN := Lib.hid (fun w' => neg_any x x0 x1 w')
  have K : Hid (slE l.length mode ≠ 0 ∨ (slE l.length mode = 0 ∧ (hasV x = false ∨ (hasV x = true ∧ (slE (l.reverse ++ [x, fneg x]).length mode = 2 ∨ (slE (l.reverse ++ [x, fneg x]).length mode = 0 ∧ slC (l.reverse ++ [x, fneg x]) mode = slC l mode ∧ (slV (l.reverse ++ [x, fneg x]) mode = slV l mode ∨ (slV (l.reverse ++ [x, fneg x]) mode ≠ slV l mode ∧ fcls (slV (l.reverse ++ [x, fneg x]) mode) = 1 ∧ fcls (slV l mode) = 1)))))))) := Lib.hid (by
    by_cases he : slE l.length mode = 0
    · right; refine ⟨he, ?_⟩
      cases hx : hasV x
      · exact Or.inl rfl
      · right; refine ⟨rfl, ?_⟩
        rcases once_law hu x0 x1 he hx with h | ⟨h1, h2, h3⟩
        · exact Or.inl h
        · right; refine ⟨h1, h2, ?_⟩
          by_cases h4 : slV (l.reverse ++ [x, fneg x]) mode = slV l mode
          · exact Or.inl h4
          · right; rcases h3 with h3 | h3
            · exact absurd h3 h4
            · exact ⟨h4, h3⟩
    · exact Or.inl he)
  have HCG := Lib.hid (fun w' => class_any (slV (l.reverse ++ [x, fneg x]) mode) g0 g1 w')
  have HCA := Lib.hid (fun w' => class_any (slV l mode) a0 a1 w')
  have HUR := Lib.hid hur
  have HUM := Lib.hid hum
  have HV := Lib.hid hv
  have HT := Lib.hid hT
  have HR := Lib.hid hr
  obtain ⟨-, ao, cap, rfl, hcap, hmx, -⟩ := hv
  unfold maxLen at hmx
  generalize slV (l.reverse ++ [x, fneg x]) mode = G at *
  generalize slC (l.reverse ++ [x, fneg x]) mode = HG at *
  generalize slE (l.reverse ++ [x, fneg x]).length mode = E2 at *
  generalize slV l mode = A at *
  generalize slC l mode = Bb at *
  generalize slE l.length mode = E at *
  generalize hasV x = hx at *
  generalize ofD x = vx at *
  obtain ⟨n, hn'⟩ : ∃ n, l.length = n := ⟨_, rfl⟩
  have HLN := Lib.hid hn'
  obtain ⟨i0, hi, hz0, hz1, hz2⟩ := info_parts infoU64
  have HI := Lib.hid hi
  have HZ0 := Lib.hid hz0
  have HZ1 := Lib.hid hz1
  have HZ2 := Lib.hid hz2
  clear hT hu hur hum hn hr hi hz0 hz1 hz2 hn'
  have pre : ∀ (Q : Prop), Q → Q := fun _ h => h
  clear pre
  rcases K.out with he | ⟨rfl, rfl | ⟨rfl, rfl | ⟨rfl, rfl, hg⟩⟩⟩
  all_goals
    clear K
    go_enter Tryd.func16, Tryd.ntmps16
    go_wp2_with fail
    refine (H1.out _ _ HT.out HV.out).mono ?_
    rintro r w1 ⟨rfl, hb⟩
    have B1 : Hid (Below w.heap.size w w1) := Lib.hid hb
    have HV1 := Lib.hid (HV.out.below hb)
    clear hb
    go_wp2_with fail
    refine (HC.out _ _ HV1.out).mono ?_
    rintro r w2 ⟨v2, rfl, hown, hb⟩
    have B2 : Hid (Below w.heap.size w w2) := Lib.hid (bl_thru B1.out (Nat.le_refl _) hb)
    have O2 := Lib.hid hown
    have z2 : w1.heap.size ≤ w2.heap.size := hb.size
    clear hown hb
    go_wp2_with fail
    refine (rev_own v2 l w2 O2.out).mono ?_
    rintro r w3 ⟨rfl, hown, hb⟩
    have B3 : Hid (Below w.heap.size w w3) := Lib.hid (B2.out.trans (hb.mono B1.out.size))
    have O3 := Lib.hid hown
    have L3 := Lib.hid (own_lu (by have := hown; rw [← List.length_reverse] at this; exact this) HUR.out)
    have z3 : w2.heap.size ≤ w3.heap.size := hb.size
    clear hown hb O2
    go_wp2_with fail
    refine (H2.out _ _ (HT.out.below B3.out) L3.out).mono ?_
    rintro r w4 ⟨rfl, hb⟩
    have B4 : Hid (Below w.heap.size w w4) := Lib.hid (bl_thru B3.out (Nat.le_refl _) hb)
    have O4 := Lib.hid (own_below O3.out hb)
    have z4 : w3.heap.size ≤ w4.heap.size := hb.size
    clear hb O3 L3
    go_wp2_with fail
    refine (sumLives_any _ (HT.out.below B4.out)).mono ?_
    rintro r w5 ⟨rfl, hb⟩
    have B5 : Hid (Below w.heap.size w w5) := Lib.hid (bl_thru B4.out (Nat.le_refl _) hb)
    have O5 := Lib.hid (own_below O4.out hb)
    have z5 : w4.heap.size ≤ w5.heap.size := hb.size
    clear hb O4
    go_wp2_with fail
    refine (HX.out _ (HT.out.below B5.out)).mono ?_
    rintro r w6 ⟨a6, n6, c6, rfl, hvx, hb⟩
    have B6 : Hid (Below w.heap.size w w6) := Lib.hid (bl_thru B5.out (Nat.le_refl _) hb)
    have O6 := Lib.hid (own_below O5.out hb)
    have z6 : w5.heap.size ≤ w6.heap.size := hb.size
    clear hb hvx O5
  · go_wp2
    go_ret
    exact ⟨rfl, B6.out.alloc B6.out.size _⟩
  · go_wp2
    go_ret
    exact ⟨rfl, B6.out.alloc B6.out.size _⟩
  all_goals
    have hsz1 := B1.out.size
    have O7 := Lib.hid (own_below (own_below O6.out ((Below.refl w6.heap.size w6).alloc (Nat.le_refl _) (.cells #[.bool vx.neg, .slice a6 n6 c6, .int .i64 vx.e] 25))) ((Below.refl _ _).alloc (Nat.le_refl _) (.cells #[.int .u64 x, .int .u64 (fneg x)] 22)))
    go_wp2_with (first
      | (go_at_call 46; refine (HN.out _).mono ?_; rintro e w' ⟨rfl, rfl⟩)
      | (at_builtin; refine wpList_append_own _ rfl _ _ 59 rfl w1.heap.size 22 i0 (.int .u64 0) 1 8 Tryd.underlying59 HI.out HZ0.out HZ1.out HZ2.out rfl (by decide) _ _ _ rfl O7.out ⟨w6.heap.size + 1, 0, none⟩ 2 2 [.int .u64 x, .int .u64 (fneg x)] rfl rfl (two_src _ _ _ _ _) (two_one _ _) (by have := HR.out; unfold maxLen; omega) (by have := HR.out; omega) (by simp; omega) ?_; intro v7 w7 hown hgrow hnil; have O8 := Lib.hid hown; have B7 : Hid (Below w.heap.size w w7) := Lib.hid (((B6.out.alloc B6.out.size _).alloc (by have := B6.out.size; simp; omega) _).grown hgrow (by have := B6.out.size; simp; omega) (fun k hk => Nat.le_trans hsz1 (own_ge O6.out k hk))); clear hown hgrow hnil))
    have L8 : Hid (LU w7 v7 (l.reverse ++ [x, fneg x])) := Lib.hid (own_lu (l := l.reverse ++ [x, fneg x]) (by have := O8.out; rw [show lu (l.reverse ++ [x, fneg x]) = lu l.reverse ++ [.int .u64 x, .int .u64 (fneg x)] from by simp [lu]]; exact this) HUM.out)
    refine (H3.out _ _ (HT.out.below B7.out) L8.out).mono ?_
    rintro r w8 ⟨rfl, hb⟩
    have B8 : Hid (Below w.heap.size w w8) := Lib.hid (bl_thru B7.out (Nat.le_refl _) hb)
    clear hb
  · go_wp2
    go_ret
    exact ⟨rfl, B8.out⟩
  · rcases hg with rfl | ⟨k1, k2, k3⟩
    · go_wp2
      go_ret
      exact ⟨rfl, B8.out⟩
    · rw [k2] at HCG
      rw [k3] at HCA
      have k4 : (G == A) = false := by rw [beq_eq_false_iff_ne]; exact k1
      clear k1 k2 k3
      go_wp2_with (go_at_call 44; first | ((with_reducible refine (HCG.out _).mono ?_); rintro e w' ⟨rfl, rfl⟩) | ((with_reducible refine (HCA.out _).mono ?_); rintro e w' ⟨rfl, rfl⟩))
      go_ret
      exact ⟨rfl, B8.out⟩
end Go.Proofs.YtdknfdncgmeimaaDoor
