/-
  THE WALK of the law OrderSorts.
-/
import Derived.Test.YthibhlimogcpeaaOsp
import Derived.BigQuiet
import Derived.CellFam
import Derived.BigCall
import Derived.BigGuard
set_option linter.unusedVariables false
set_option linter.unusedSimpArgs false
namespace Go.Proofs.Ythibhlimogcpeaa
open Go.RowKit Go.Lib Go.Sort Fl

set_option maxHeartbeats 1000000 in
theorem osort_any (v : Value) (l : List U64) (w : World) (hv : LU w v (l.map vF)) (hr : l.length * 8 ≤ 140737488351232) :
    Calls Try.prog 4 #[v] w fun e w' => ∃ v', e = .returned v' ∧ w'.ownsRow w.heap.size 24 1 v' l.length (lu ((l.mergeSort leT).map vF)) ∧ Below w.heap.size w w' := by
  have CL := Lib.hid (clone64_any v (l.map vF) w hv (by rw [List.length_map]; exact hr))
  have SF := Lib.hid (fun v' w' base h => sf_own (base := base) v' l w' (by omega) h)
  clear hv
  go_enter Try.func4, Try.ntmps4
  go_wp2_with fail
  refine CL.out.mono ?_
  rintro e w1 ⟨v1, rfl, own, hb⟩
  rw [List.length_map] at own
  have O1 := Lib.hid own
  have B1 := Lib.hid hb
  clear own hb CL
  go_wp2_with fail
  refine (SF.out _ _ _ O1.out).mono ?_
  rintro e w2 ⟨rfl, own, hb⟩
  have O2 := Lib.hid own
  have B2 := Lib.hid (B1.out.trans hb)
  clear own hb
  go_wp2
  go_ret
  exact ⟨_, rfl, O2.out, B2.out⟩
theorem own_keep {w w' : World} {base n B : Nat} {T : TypeId} {v : Value} {xs : List Value} (h : w.ownsRow base T 1 v n xs) (hlt : ∀ k, v.ownBlock = some k → k < B) (hb : Below B w w') : w'.ownsRow base T 1 v n xs := by
  refine ⟨h.1, ?_⟩
  rcases h.2 with h0 | ⟨g, cap, cur, rfl, h1, hg, h2⟩
  · exact Or.inl h0
  · exact Or.inr ⟨g, cap, cur, rfl, h1, by rw [hb.block g (hlt g rfl)]; exact hg, h2⟩
theorem own_lt {w : World} {base n : Nat} {T : TypeId} {v : Value} {xs : List Value} (h : w.ownsRow base T 1 v n xs) : ∀ k, v.ownBlock = some k → k < w.heap.size := by
  intro k hk
  rcases h.2 with ⟨rfl, -⟩ | ⟨g, cap, cur, rfl, h1, hg, h2⟩
  · simp [Value.ownBlock] at hk
  · simp [Value.ownBlock] at hk; subst hk; exact (Array.getElem?_eq_some_iff.1 hg).1
theorem map_bd (l : List U64) : ∀ d ∈ l.map vF, 0 ≤ d ∧ d ≤ 18446744073709551615 := by
  intro d hd
  obtain ⟨x, -, rfl⟩ := List.mem_map.1 hd
  exact vF_bd x
/-- what stands at two places that follow each other -/
theorem step_facts (l : List U64) (k : Nat) (hk : k + 1 < l.length) : ∃ x y : Int, ((l.mergeSort leT).map vF).getD k 0 = x ∧ ((l.mergeSort leT).map vF).getD (k + 1) 0 = y ∧ (0 ≤ x ∧ x ≤ 18446744073709551615) ∧ (0 ≤ y ∧ y ≤ 18446744073709551615) ∧ ¬ 0 < otot x y ∧ (ois x y = true → ¬ 0 < ocmp x y) := by
  have hl : (l.mergeSort leT).length = l.length := List.length_mergeSort _
  have pw := List.pairwise_iff_getElem.1 (sorted_pw l) k (k + 1) (by omega) (by omega) (by omega)
  rw [leT_iff] at pw
  refine ⟨_, _, rfl, rfl, ?_⟩
  have e1 : ((l.mergeSort leT).map vF).getD k 0 = vF ((l.mergeSort leT)[k]'(by omega)) := by simp [List.getD, hl, show k < l.length by omega]
  have e2 : ((l.mergeSort leT).map vF).getD (k + 1) 0 = vF ((l.mergeSort leT)[k + 1]'(by omega)) := by simp [List.getD, hl, hk]
  rw [e1, e2]
  have b1 := vF_bd ((l.mergeSort leT)[k]'(by omega))
  have b2 := vF_bd ((l.mergeSort leT)[k + 1]'(by omega))
  refine ⟨b1, b2, ?_, fun h => ?_⟩
  · unfold otot sgnc; omega
  · have := ocmp_le b1.1 b1.2 b2.1 b2.2 pw h; omega
set_option maxRecDepth 100000 in
set_option maxHeartbeats 8000000 in
theorem walkOrderSorts (v : Value) (l : List U64) (w : World) (hv : LU w v (l.map vF)) (hr : l.length * 8 ≤ 140737488351232) :
    Calls Try.prog 3 #[v] w fun e w' => e = .returned (.bool true) ∧ Below w.heap.size w w' := by
  have OS := Lib.hid (osort_any v l w hv hr)
  have HV := Lib.hid hv
  have C1 := Lib.hid (fun w' hb => clone64_any v (l.map vF) w' (hv.below (w' := w') hb) (by rw [List.length_map]; exact hr))
  have C2 := Lib.hid (fun v' w' h => clone64_any v' ((l.mergeSort leT).map vF) w' h (by rw [List.length_map, List.length_mergeSort]; exact hr))
  have S1 := Lib.hid (fun v' w' base h => sort_own (base := base) v' (l.map vF) w' (by rw [List.length_map]; omega) h)
  have S2 := Lib.hid (fun v' w' base h => sort_own (base := base) v' ((l.mergeSort leT).map vF) w' (by rw [List.length_map, List.length_mergeSort]; omega) h)
  have LV := Lib.hid (fun w' => orderLives_any w')
  clear hv
  go_enter Try.func3, Try.ntmps3
  go_wp2_with fail
  refine OS.out.mono ?_
  rintro e w1 ⟨vs, rfl, own, hb⟩
  have OwS := Lib.hid own
  have B1 := Lib.hid hb
  clear own hb OS
  go_wp2_with fail
  refine (C1.out _ B1.out).mono ?_
  rintro e w2 ⟨va, rfl, own, hb⟩
  have OwA := Lib.hid own
  have Bs2 := Lib.hid hb
  clear own hb C1
  go_wp2_with fail
  have LS := Lib.hid ((own_lu OwS.out (map_bd _)).below Bs2.out)
  refine (C2.out _ _ LS.out).mono ?_
  rintro e w3 ⟨vb, rfl, own, hb⟩
  have OwB := Lib.hid own
  have Bs3 := Lib.hid hb
  clear own hb C2 LS
  have NE : Hid (∀ k, va.ownBlock = some k → vb.ownBlock ≠ some k) := Lib.hid (fun k h1 h2 => by
    have := own_lt OwA.out k h1
    have := own_ge OwB.out k h2
    omega)
  have OwA3 := Lib.hid (own_below OwA.out Bs3.out)
  have OwS3 := Lib.hid (own_below (own_below OwS.out Bs2.out) Bs3.out)
  go_wp2_with fail
  refine (S1.out _ _ _ OwA3.out).mono ?_
  rintro e w4 ⟨rfl, own, hb, ho⟩
  have OwA4 := Lib.hid own
  have Bs4 := Lib.hid hb
  have OwB4 := Lib.hid (own_oth OwB.out (fun k h1 h2 => NE.out k h2 h1) ho)
  clear own hb ho S1
  go_wp2_with fail
  refine (S2.out _ _ _ OwB4.out).mono ?_
  rintro e w5 ⟨rfl, own, hb, ho⟩
  have OwB5 := Lib.hid own
  have OwA5 := Lib.hid (own_oth OwA4.out NE.out ho)
  have OwS4 := Lib.hid (own_keep OwS3.out (own_lt OwS.out) Bs4.out)
  have OwS5 := Lib.hid (own_keep OwS4.out (fun k h => Nat.lt_of_lt_of_le (own_lt OwS.out k h) Bs2.out.size) hb)
  have BW : Hid (Below w.heap.size w w5) := Lib.hid (by
    have s1 := B1.out.size
    have s2 := Bs2.out.size
    exact (((B1.out.trans (Bs2.out.mono s1)).trans (Bs3.out.mono (by omega))).trans (Bs4.out.mono (by omega))).trans (hb.mono (by omega)))
  clear own hb ho S2
  have LA := Lib.hid (own_lu OwA5.out (fun d hd => map_bd l d ((List.mergeSort_perm _ _).mem_iff.1 hd)))
  have LB0 := own_lu OwB5.out (fun d hd => map_bd (l.mergeSort leT) d ((List.mergeSort_perm _ _).mem_iff.1 hd))
  rw [← sort_eq] at LB0
  have LB := Lib.hid LB0
  have LS5 := own_lu OwS5.out (map_bd _)
  clear LB0 OwB5 OwA5 OwS4 OwS5 OwB4 OwA4 OwS3 OwA3 OwB OwA OwS NE Bs2 Bs3 Bs4 B1
  obtain ⟨-, ao, cap, rfl, q1, q2, q3⟩ := LS5
  rw [List.length_map, List.length_mergeSort] at *
  unfold maxLen at q2
  have ST := Lib.hid (step_facts l)
  go_wp2
  go_loopw [6] (fun i wr => ∃ k : Nat, (k = 0 ∨ k < l.length) ∧ i = .int .i64 ((k : Int) + 1) ∧ ∃ n, wr = w5.drewN n) (fun i _ => l.length + 1 - (intOf i).toNat)
  case atStart => exact ⟨0, Or.inl rfl, rfl, 0, rfl⟩
  case round =>
    obtain ⟨k, hk, rfl, nw, rfl⟩ := hrel
    by_cases hlt : k + 1 < l.length
    · have hlz : (k : Int) + 1 < (l.length : Int) := by omega
      obtain ⟨x, y, ex, ey, bx, by', ht, hc⟩ := ST.out k hlt
      rcases q3 with q3 | ⟨b0, o0, rfl, hb0, hcell⟩
      · exfalso; omega
      have c1 := hcell k (by omega)
      have c2 := hcell (k + 1) hlt
      rw [ex] at c1
      rw [ey] at c2
      have TT := Lib.hid (fun w' => total_any x y bx.1 bx.2 by'.1 by'.2 w')
      have CC := Lib.hid (fun w' => ocmp_any x y bx.1 bx.2 by'.1 by'.2 w')
      generalize otot x y = T at *
      generalize ocmp x y = M at *
      have HTT := Lib.hid ht
      have HCC := Lib.hid hc
      have c1' : (w5.drewN nw).cell? ⟨b0, o0 + k, none⟩ = some (.int .u64 x) := c1
      have c2' : (w5.drewN nw).cell? ⟨b0, o0 + (k + 1), none⟩ = some (.int .u64 y) := c2
      clear ht hc c1 c2 hcell
      obtain ⟨wr2, hwr2⟩ : ∃ u, u = w5.drewN nw := ⟨_, rfl⟩
      rw [← hwr2] at c1' c2' ⊢
      have DW := Lib.hid hwr2
      clear hwr2
      go_wp2_with fail
      go_big_quiet (first | (go_at_call 7; refine Calls.quiet_of_same ((TT.out _).mono (fun e w' h => ⟨h.1, h.2.symm⟩))))
      have c1'' : (wr2.drewN nq).cell? ⟨b0, o0 + k, none⟩ = some (.int .u64 x) := c1'
      have c2'' : (wr2.drewN nq).cell? ⟨b0, o0 + (k + 1), none⟩ = some (.int .u64 y) := c2'
      have D3 : Hid (wr2.drewN nq = w5.drewN (nw + nq)) := Lib.hid (by rw [DW.out, World.drewN_drewN])
      have hd : T ≤ 0 := by have := HTT.out; omega
      clear c1' c2' DW
      generalize wr2.drewN nq = wr3 at c1'' c2'' D3 ⊢
      go_wp2_with fail
      go_big_quiet (first | (go_at_call 8; refine Calls.quiet_of_same ((CC.out _).mono (fun e w' h => ⟨h.1, h.2.symm⟩))))
      have D4 : Hid (wr3.drewN nq = w5.drewN (nw + _ + nq)) := Lib.hid (by rw [D3.out, World.drewN_drewN])
      generalize wr3.drewN nq = wr4 at D4 ⊢
      have hcs : ois x y = false ∨ (ois x y = true ∧ M ≤ 0) := by
        cases h : ois x y
        · exact Or.inl rfl
        · exact Or.inr ⟨rfl, by have := HCC.out h; omega⟩
      generalize ois x y = oi at *
      rcases hcs with rfl | ⟨rfl, hz⟩
      all_goals
        go_wp2
        go_roundw
        case rel => exact ⟨k + 1, Or.inr hlt, by go_num, _, D4.out⟩
        case measure => simp [intOf]; omega
    · have hlz : ¬ (k : Int) + 1 < (l.length : Int) := by omega
      go_wp2_with (go_at_call 9; refine (LV.out _).mono ?_; rintro e w' ⟨rfl, rfl⟩)
      refine (equal64_same va vb _ _ (LA.out.below (below_drewN (Below.refl _ _) _)) (LB.out.below (below_drewN (Below.refl _ _) _))).mono ?_
      rintro e w6 ⟨rfl, m, rfl⟩
      go_wp2
      go_ret
      exact ⟨rfl, below_drewN BW.out _⟩
end Go.Proofs.Ythibhlimogcpeaa
