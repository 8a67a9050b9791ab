/-
  THE WALKS of package nat: Of, Check, Compare.
-/
import Derived.Test.YtdknfdncgmeimaaDoorNat1
import Derived.Test.YtdknfdncgmeimaaDoorCmp
set_option linter.unusedVariables false
set_option linter.unusedSimpArgs false
namespace Go.Proofs.YtdknfdncgmeimaaDoor
open Go.RowKit Nt

/-- a callee that only computes, called where some draws lie behind -/
theorem quiet_later {P : Program} {f : FuncId} {args : Array Value} {w : World} {a n : Nat} {v : Value} (h : ∀ W, Calls P f args W fun e w' => e = .returned v ∧ w' = W) :
    Calls P f args (w.drewN (a + n)) fun e w' => e = .returned v ∧ ∃ m, w' = w.drewN (a + m) :=
  (h _).mono fun _ _ ⟨he, hw⟩ => ⟨he, n, hw⟩

theorem lim_two {w : World} {x : Int} (T : TypeId) (h0 : 0 ≤ x) (h1 : x ≤ 18446744073709551615) :
    Lim (w.alloc (.cells #[.int .u32 (x % 4294967296), .int .u32 (x / 4294967296)] T)) (.slice (some ⟨w.heap.size, 0, none⟩) 2 2) [x.toNat % 4294967296, x.toNat / 4294967296] := by
  refine ⟨Lims.cons (by omega) (Lims.cons (by omega) Lims.nil), some ⟨w.heap.size, 0, none⟩, 2, rfl, by simp, by unfold maxLen; omega, Or.inr ⟨w.heap.size, 0, rfl, by simp, ?_⟩⟩
  obtain ⟨n, rfl⟩ := Int.eq_ofNat_of_zero_le h0
  intro i hi
  match i, hi with
  | 0, _ => simp [go_sem]
  | 1, _ => simp [go_sem]
theorem val_two (n : Nat) : val [n % 4294967296, n / 4294967296] = n := by simp only [val]; omega

theorem natOf_any (x : Int) (h0 : 0 ≤ x) (h1 : x ≤ 18446744073709551615) (w : World) :
    Calls Tryd.prog 79 #[.int .u64 x] w (RetNV w x.toNat) := by
  have hv := val_two x.toNat
  have hl := fun T => @lim_two w x T h0 h1
  have HV := Lib.hid hv
  have HL := Lib.hid hl
  clear hv hl
  go_enter Tryd.func79, Tryd.ntmps79
  go_wp2_with fail
  refine (norm_any _ _ _ (HL.out _)).mono ?_
  rintro e w' ⟨⟨v', rfl, hn⟩, rfl⟩
  rw [HV.out] at hn
  go_wp2_with fail
  go_ret
  exact ⟨v', rfl, hn, (Below.refl _ _).alloc (Nat.le_refl _) _⟩

/-- the comparison of two numbers -/
theorem sgn2_len {l m : List Nat} (hl : Nrm l) (hm : Nrm m) (h : l.length ≠ m.length) : sgn2 (l.length : Int) (m.length : Int) = sgn2 (val l : Int) (val m : Int) := by
  unfold sgn2
  rcases Nat.lt_or_gt_of_ne h with h | h
  · have := val_lt_len hl hm h; rw [if_pos (by omega), if_pos (by omega)]
  · have := val_lt_len hm hl h; rw [if_neg (by omega), if_pos (by omega), if_neg (by omega), if_pos (by omega)]
theorem sgn2_limb {l m : List Nat} (hl : Nrm l) (hm : Nrm m) (h : l.length = m.length) (j : Nat) (hj : j < l.length) (hd : l.drop (j + 1) = m.drop (j + 1)) (hne : l.getD j 0 ≠ m.getD j 0) :
    sgn2 ((l.getD j 0 : Nat) : Int) ((m.getD j 0 : Nat) : Int) = sgn2 (val l : Int) (val m : Int) := by
  have e1 : l.getD j 0 = l[j] := by simp [List.getD, hj]
  have e2 : m.getD j 0 = m[j]'(by omega) := by simp [List.getD, show j < m.length by omega]
  rw [e1, e2] at hne
  rw [e1, e2]
  unfold sgn2
  rcases Nat.lt_or_gt_of_ne hne with h3 | h3
  · have := val_lt_of hl.1 h j hj hd h3; rw [if_pos (by omega), if_pos (by omega)]
  · have := val_lt_of hm.1 h.symm j (by omega) hd.symm h3; rw [if_neg (by omega), if_pos (by omega), if_neg (by omega), if_pos (by omega)]

set_option maxHeartbeats 1000000 in
theorem compare_any (va vb : Value) (a b : Nat) (w : World) (ha : NV w va a) (hb : NV w vb b) :
    Calls Tryd.prog 91 #[va, vb] w fun e w' => e = .returned (.int .i64 (sgn2 a b)) ∧ ∃ n, w' = w.drewN n := by
  obtain ⟨l, hl, rfl, -, aa, ca, rfl, hca, hma, hA⟩ := ha
  obtain ⟨m, hm, rfl, -, ab, cb, rfl, hcb, hmb, hB⟩ := hb
  unfold maxLen at hma hmb
  by_cases hlt : l.length < m.length ∨ m.length < l.length
  · have e := sgn2_len hl hm (by omega)
    rw [← e]; clear e hA hB
    rcases hlt with hlt | hlt
    all_goals
      go_enter Tryd.func91, Tryd.ntmps91
      go_wp2_with (go_at_call 102; refine (cmp_int _ _ _).mono ?_; rintro e w' ⟨rfl, rfl⟩)
      go_ret
      exact ⟨rfl, 0, rfl⟩
  · have h1 : l.length ≤ m.length := by omega
    have h2 : m.length ≤ l.length := by omega
    have e := @sgn2_limb l m hl hm (by omega)
    have e0 : l = m → sgn2 (val l : Int) (val m : Int) = 0 := fun h => by rw [h]; unfold sgn2; omega
    generalize sgn2 (val l : Int) (val m : Int) = R at *
    have E := Lib.hid e
    have E0 := Lib.hid e0
    clear e e0 hlt
    rcases hA with hA | ⟨ba, oa, rfl, hba, hcA⟩
    all_goals rcases hB with hB | ⟨bb, ob, rfl, hbb, hcB⟩
    all_goals first
      | (exfalso; omega)
      | skip
    all_goals
      go_enter Tryd.func91, Tryd.ntmps91
      go_wp2
      go_loopw [5] (fun i wr => ∃ k : Nat, k ≤ l.length ∧ i = .int .i64 ((k : Int) - 1) ∧ l.drop k = m.drop k ∧ ∃ n, wr = w.drewN n) (fun i _ => (intOf i + 1).toNat)
      case atStart => exact ⟨l.length, Nat.le_refl _, rfl, by rw [List.drop_length, List.drop_of_length_le (by omega)], 0, rfl⟩
      case round =>
        obtain ⟨k, hk, rfl, hdr, nw, rfl⟩ := hrel
        have HDR := Lib.hid hdr
        clear hdr
        by_cases hk0 : 0 < k
        · first
            | (exfalso; omega)
            | (obtain ⟨j, rfl⟩ : ∃ j, k = j + 1 := ⟨k - 1, by omega⟩
               rw [show (((j + 1 : Nat) : Int) - 1) = (j : Int) from by omega]
               obtain ⟨x, hx⟩ : ∃ x, x = l.getD j 0 := ⟨_, rfl⟩
               obtain ⟨y, hy⟩ : ∃ y, y = m.getD j 0 := ⟨_, rfl⟩
               have hcx := hcA j (by omega)
               have hcy := hcB j (by omega)
               rw [← hx] at hcx
               rw [← hy] at hcy
               have HX := Lib.hid hx
               have HY := Lib.hid hy
               clear hx hy hcA hcB
               have i1 : (j : Int) < (l.length : Int) := by omega
               have i2 : (j : Int) < (m.length : Int) := by omega
               by_cases hxy : x = y
               · subst hxy
                 have hb0 : ((x : Int) != (x : Int)) = false := by simp
                 go_wp2
                 go_quiet (fail)
                 go_wp2
                 go_roundw
                 case rel =>
                   refine ⟨j, by omega, by simp, ?_, _, rfl⟩
                   rw [List.drop_eq_getElem_cons (show j < l.length by omega), List.drop_eq_getElem_cons (show j < m.length by omega), HDR.out]
                   have a1 := HX.out; have a2 := HY.out
                   simp only [List.getD, List.getElem?_eq_getElem (show j < l.length by omega), List.getElem?_eq_getElem (show j < m.length by omega), Option.getD_some] at a1 a2
                   rw [← a1, ← a2]
                 case measure => simp [intOf]
               · have hb0 : ((x : Int) != (y : Int)) = true := by simp; omega
                 have hR : sgn2 (x : Int) (y : Int) = R := by
                   have a1 := HX.out; have a2 := HY.out
                   have := E.out j (by omega) HDR.out (by rw [← a1, ← a2]; exact hxy)
                   rw [← a1, ← a2] at this; exact this
                 have HR := Lib.hid hR
                 clear hR
                 go_wp2
                 go_quiet (fail)
                 go_wp2
                 go_quiet ((go_at_call 103; exact quiet_later (cmp_uint32 _ _)))
                 go_wp2
                 go_ret
                 exact ⟨by rw [HR.out]; rfl, _, by rw [World.drewN_drewN, World.drewN_drewN]⟩)
        · obtain rfl : k = 0 := by omega
          have hR : R = 0 := E0.out (by have := HDR.out; simpa using this)
          have HR := Lib.hid hR
          clear hR
          go_wp2
          go_ret
          exact ⟨by rw [HR.out]; rfl, _, rfl⟩
end Go.Proofs.YtdknfdncgmeimaaDoor
