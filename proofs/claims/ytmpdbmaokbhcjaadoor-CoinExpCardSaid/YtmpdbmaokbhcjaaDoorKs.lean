/-
  THE WALKS of coin's sample at its closures; Below, Part, Laplace.
-/
import Derived.Test.YtmpdbmaokbhcjaaDoorKe
set_option linter.unusedVariables false
set_option linter.unusedSimpArgs false
namespace Go.Proofs.YtmpdbmaokbhcjaaDoor
open Go.RowKit Kn

theorem within_any (n lo hi : Int) (w : World) : Calls Tryd.prog 66 #[.int .i64 n, .int .i64 lo, .int .i64 hi] w fun e w' => e = .returned (.bool (decide (lo ≤ n) && decide (n ≤ hi))) ∧ w = w' := by
  have e : (lo ≤ n ∧ (decide (lo ≤ n) && decide (n ≤ hi)) = decide (n ≤ hi)) ∨ (¬ lo ≤ n ∧ (decide (lo ≤ n) && decide (n ≤ hi)) = false) := by
    by_cases h : lo ≤ n
    · left; simp [h]
    · right; simp [h]
  generalize (decide (lo ≤ n) && decide (n ≤ hi)) = r at *
  rcases e with ⟨h, rfl⟩ | ⟨h, rfl⟩
  all_goals
    go_enter Tryd.func66, Tryd.ntmps66
    go_wp2
    go_ret
    exact ⟨rfl, rfl⟩
def smB (a b : Int) : Bool := (decide (1 ≤ a) && decide (a ≤ 1000)) && (decide (1 ≤ b) && decide (b ≤ 1000))
theorem csmall_any (a b : Int) (w : World) : Calls Tryd.prog 102 #[.int .i64 a, .int .i64 b] w fun e w' => e = .returned (.bool (smB a b)) ∧ w = w' := by
  have W1 := Lib.hid (fun w' => within_any a 1 1000 w')
  have W2 := Lib.hid (fun w' => within_any b 1 1000 w')
  have e : ((decide (1 ≤ a) && decide (a ≤ 1000)) = true ∧ smB a b = (decide (1 ≤ b) && decide (b ≤ 1000))) ∨ ((decide (1 ≤ a) && decide (a ≤ 1000)) = false ∧ smB a b = false) := by
    unfold smB; cases (decide (1 ≤ a) && decide (a ≤ 1000)) <;> simp
  generalize smB a b = r at *
  generalize (decide (1 ≤ a) && decide (a ≤ 1000)) = p at *
  generalize (decide (1 ≤ b) && decide (b ≤ 1000)) = q at *
  rcases e with ⟨rfl, rfl⟩ | ⟨rfl, rfl⟩
  all_goals
    go_enter Tryd.func102, Tryd.ntmps102
    go_wp2_with (go_at_call 66; first | ((with_reducible refine (W1.out _).mono ?_); rintro e w' ⟨rfl, rfl⟩) | ((with_reducible refine (W2.out _).mono ?_); rintro e w' ⟨rfl, rfl⟩))
    go_ret
    exact ⟨rfl, rfl⟩
theorem bl_thru' {B : Nat} {w w1 w2 : World} (h : Below B w w1) (hB : B ≤ w1.heap.size) (h2 : Below w1.heap.size w1 w2) : Below B w w2 := h.trans (h2.mono hB)
/-- what sample tells: the value, the place, the error -/
def smp {β : Type} (z : β) (s : ByteArray) (i : Int) (ok : Bool) (P : List Bool → Option (β × List Bool)) : β × Int × Int :=
  if 64 < s.size then (z, 0, 2) else if i < 0 ∨ 8 * (s.size : Int) < i ∨ ok = false then (z, 0, 1) else match P (tbits s i.toNat) with
    | none => (z, 0, 4)
    | some (v, r) => (v, 8 * (s.size : Int) - r.length, 0)
section
variable {β : Type} {z : β} {s : ByteArray} {i : Int} {ok : Bool} {P : List Bool → Option (β × List Bool)}
theorem smp_large (h : 64 < s.size) : smp z s i ok P = (z, 0, 2) := by unfold smp; rw [if_pos h]
theorem smp_bad (h : ¬ 64 < s.size) (k : i < 0 ∨ 8 * (s.size : Int) < i ∨ ok = false) : smp z s i ok P = (z, 0, 1) := by unfold smp; rw [if_neg h, if_pos k]
theorem smp_none {j : Nat} (h : ¬ 64 < s.size) (k : (j : Int) ≤ 8 * (s.size : Int)) (p : P (tbits s j) = none) : smp z s j true P = (z, 0, 4) := by
  unfold smp; rw [if_neg h, if_neg (by simp only [Bool.true_eq_false, or_false]; omega), Int.toNat_natCast, p]
theorem smp_some {j : Nat} (h : ¬ 64 < s.size) (k : (j : Int) ≤ 8 * (s.size : Int)) {v : β} {r : List Bool} (p : P (tbits s j) = some (v, r)) : smp z s j true P = (v, 8 * (s.size : Int) - r.length, 0) := by
  unfold smp; rw [if_neg h, if_neg (by simp only [Bool.true_eq_false, or_false]; omega), Int.toNat_natCast, p]
end
/-- a number in a block -/
def Bo (w : World) (b : Nat) (v : Value) : Prop := w.heap[b]? = some (.cells #[v] 3 (0, 0))
theorem Bo.below {w w' : World} {b : Nat} {v : Value} (h : Bo w b v) (hb : Below w.heap.size w w') : Bo w' b v := (hb.block b (Array.getElem?_eq_some_iff.1 h).1).trans h
theorem Bo.cell {w : World} {b : Nat} {v : Value} (h : Bo w b v) : w.cell? ⟨b, 0, none⟩ = some v := by
  unfold Bo at h
  simp [World.cell?, h, Array.getElem?_eq_getElem]
theorem tp_new (w : World) (s : ByteArray) (j : Nat) (h : (j : Int) ≤ 8 * (s.size : Int)) : Tp (w.alloc (.cells #[.string s, .int .i64 j, .bool false] 125)) w.heap.size s (some (tbits s j)) :=
  ⟨j, by rw [tbits_len]; omega, rfl, heap_alloc_new w _⟩

theorem belowC_any (b c0 : Nat) (s : ByteArray) (o : Option (List Bool)) (n : Nat) (w : World) (hs : s.size ≤ 64) (n0 : 1 ≤ n) (n1 : n ≤ 1000000) (h : Tp w b s o) (hc0 : w.cell? ⟨c0, 0, none⟩ = some (.int .i64 (n : Nat))) :
    Calls Tryd.prog 98 #[.pointer (some ⟨b, 0, none⟩), .pointer (some ⟨c0, 0, none⟩)] w fun e w' => ∃ v : Nat, e = .returned (.int .i64 v) ∧ (∀ l c r, o = some l → belowP n l = some (c, r) → v = c) ∧ Tp w' b s (restO (belowP n) o) ∧ Below b w w' := by
  have BE := Lib.hid (below_any b s o n w hs n0 n1 h)
  clear h
  go_enter Tryd.func98, Tryd.ntmps98
  go_wp2_with fail
  refine BE.out.mono ?_
  rintro e w1 ⟨v, rfl, hv, T, hb⟩
  have HV := Lib.hid hv
  have HT := Lib.hid T
  have HB := Lib.hid hb
  clear hv T hb
  go_wp2
  go_ret
  exact ⟨v, rfl, HV.out, HT.out, HB.out⟩

theorem partC_any (b c0 c1 : Nat) (s : ByteArray) (o : Option (List Bool)) (a n : Nat) (w : World) (hs : s.size ≤ 64) (n0 : 1 ≤ n) (n1 : n ≤ 1000000) (h : Tp w b s o) (hc0 : w.cell? ⟨c0, 0, none⟩ = some (.int .i64 (a : Nat))) (hc1 : w.cell? ⟨c1, 0, none⟩ = some (.int .i64 (n : Nat))) :
    Calls Tryd.prog 100 #[.pointer (some ⟨b, 0, none⟩), .pointer (some ⟨c0, 0, none⟩), .pointer (some ⟨c1, 0, none⟩)] w fun e w' => ∃ v : Bool, e = .returned (.bool v) ∧ (∀ l c r, o = some l → partP a n l = some (c, r) → v = c) ∧ Tp w' b s (restO (partP a n) o) ∧ Below b w w' := by
  have BE := Lib.hid (part_any b s o a n w hs n0 n1 h)
  clear h
  go_enter Tryd.func100, Tryd.ntmps100
  go_wp2_with fail
  refine BE.out.mono ?_
  rintro e w1 ⟨v, rfl, hv, T, hb⟩
  have HV := Lib.hid hv
  have HT := Lib.hid T
  have HB := Lib.hid hb
  clear hv T hb
  go_wp2
  go_ret
  exact ⟨v, rfl, HV.out, HT.out, HB.out⟩

theorem lapC_any (b c0 c1 : Nat) (s : ByteArray) (o : Option (List Bool)) (a n : Nat) (w : World) (hs : s.size ≤ 64) (n0 : 1 ≤ n) (n1 : n ≤ 1000) (a0 : 1 ≤ a) (a1 : a ≤ 1000) (h : Tp w b s o) (hc0 : w.cell? ⟨c0, 0, none⟩ = some (.int .i64 (a : Nat))) (hc1 : w.cell? ⟨c1, 0, none⟩ = some (.int .i64 (n : Nat))) :
    Calls Tryd.prog 103 #[.pointer (some ⟨b, 0, none⟩), .pointer (some ⟨c0, 0, none⟩), .pointer (some ⟨c1, 0, none⟩)] w fun e w' => ∃ v : Int, e = .returned (.int .i64 v) ∧ (∀ l c r, o = some l → lapP a n l = some (c, r) → v = c) ∧ Tp w' b s (restO (lapP a n) o) ∧ Below b w w' := by
  have BE := Lib.hid (laplace_any b s o a n w hs n0 n1 a0 a1 h)
  clear h
  go_enter Tryd.func103, Tryd.ntmps103
  go_wp2_with fail
  refine BE.out.mono ?_
  rintro e w1 ⟨v, rfl, T, hv, hb⟩
  have HV := Lib.hid hv
  have HT := Lib.hid T
  have HB := Lib.hid hb
  clear hv T hb
  go_wp2
  go_ret
  exact ⟨v, rfl, HV.out, HT.out, HB.out⟩

set_option maxRecDepth 100000 in
set_option maxHeartbeats 8000000 in
theorem sampleB_any (c0 : Nat) (s : ByteArray) (i : Int) (ok : Bool) (n : Int) (w : World) (hc0 : Bo w c0 (.int .i64 n)) (hn : ok = true → 1 ≤ n ∧ n ≤ 1000000) :
    Calls Tryd.prog 97 #[.string s, .int .i64 i, .bool ok, .func (.func 98) #[] #[.pointer (some ⟨c0, 0, none⟩)]] w fun e w' => e = .returned (.tuple #[.int .i64 (((smp 0 s i ok (belowP n.toNat)).1 : Nat) : Int), .int .i64 (smp 0 s i ok (belowP n.toNat)).2.1, .int .i64 (smp 0 s i ok (belowP n.toNat)).2.2]) ∧ Below w.heap.size w w' := by
  have hcase : 64 < s.size ∨ (¬ 64 < s.size ∧ ((i < 0 ∨ (¬ i < 0 ∧ (8 * (s.size : Int) < i ∨ (¬ 8 * (s.size : Int) < i ∧ (ok = false ∨ ok = true))))))) := by
    by_cases h1 : 64 < s.size
    · exact Or.inl h1
    · right; refine ⟨h1, ?_⟩
      by_cases h2 : i < 0
      · exact Or.inl h2
      · right; refine ⟨h2, ?_⟩
        by_cases h3 : 8 * (s.size : Int) < i
        · exact Or.inl h3
        · right; refine ⟨h3, ?_⟩; cases ok <;> simp
  rcases hcase with h1 | ⟨h1, h2 | ⟨h2, h3 | ⟨h3, rfl | rfl⟩⟩⟩
  · rw [smp_large h1]
    have h4 : (64 : Int) < (s.size : Int) := by omega
    go_enter Tryd.func97, Tryd.ntmps97
    go_wp2
    go_ret3
    exact ⟨rfl, Below.refl _ _⟩
  · rw [smp_bad h1 (Or.inl h2)]
    have h4 : ¬ (64 : Int) < (s.size : Int) := by omega
    go_enter Tryd.func97, Tryd.ntmps97
    go_wp2
    go_ret3
    exact ⟨rfl, Below.refl _ _⟩
  · rw [smp_bad h1 (Or.inr (Or.inl h3))]
    have h4 : ¬ (64 : Int) < (s.size : Int) := by omega
    go_enter Tryd.func97, Tryd.ntmps97
    go_wp2
    go_ret3
    exact ⟨rfl, Below.refl _ _⟩
  · rw [smp_bad h1 (Or.inr (Or.inr rfl))]
    have h4 : ¬ (64 : Int) < (s.size : Int) := by omega
    go_enter Tryd.func97, Tryd.ntmps97
    go_wp2
    go_ret3
    exact ⟨rfl, Below.refl _ _⟩
  · have hn' := hn rfl
    have h4 : ¬ (64 : Int) < (s.size : Int) := by omega
    obtain ⟨j, rfl⟩ := Int.eq_ofNat_of_zero_le (show 0 ≤ i by omega)
    obtain ⟨n, rfl⟩ := Int.eq_ofNat_of_zero_le (show 0 ≤ n by omega)
    have en : ((n : Nat) : Int).toNat = n := Int.toNat_natCast n
    rw [en]
    have h5 : (j : Int) ≤ 8 * (s.size : Int) := by omega
    have TN := Lib.hid (tp_new w s j h5)
    have CL := Lib.hid (fun w' (B : Below w.heap.size w w') (T : Tp w' w.heap.size s (some (tbits s j))) => belowC_any w.heap.size c0 s (some (tbits s j)) n w' (by omega) (by omega) (by omega) T ((hc0.below (B.mono (Nat.le_refl _))).cell))
    have HN := Lib.hid (fun p => smp_none (z := 0) (P := (belowP n)) h1 h5 p)
    have HS := Lib.hid (fun v r p => smp_some (z := 0) (P := (belowP n)) h1 h5 (v := v) (r := r) p)
    obtain ⟨RR, hRR⟩ : ∃ RR, RR = smp 0 s (j : Int) true (belowP n) := ⟨_, rfl⟩
    rw [← hRR] at HN HS ⊢
    have B0 := Lib.hid ((Below.refl w.heap.size w).alloc (Nat.le_refl _) (.cells #[.string s, .int .i64 j, .bool false] 125))
    have hnot : ¬ 8 * (s.size : Int) < (j : Int) := by omega
    have hnot2 : ¬ (j : Int) < 0 := by omega
    clear hRR hn h3 h2
    go_enter Tryd.func97, Tryd.ntmps97
    go_wp2_with fail
    refine (CL.out _ B0.out TN.out).mono ?_
    rintro e w1 ⟨v, rfl, hv, T, hb⟩
    have HV := Lib.hid hv
    have B1 := Lib.hid (B0.out.trans hb)
    rcases rest_ways (belowP n) (tbits s j) with ⟨e1, e2⟩ | ⟨c, r, e1, e2⟩
    · rw [e2] at T
      have hq := T.flag
      simp only [Option.isNone_none] at hq
      have hR := HN.out e1
      have HR := Lib.hid hR
      clear hv T hb e1 e2 hR
      go_wp2
      go_ret3
      rw [HR.out]
      exact ⟨rfl, B1.out⟩
    · rw [e2] at T
      have hc := HV.out _ c r rfl e1
      subst hc
      obtain ⟨i2, t1, t2, X⟩ := T
      have hR := HS.out _ r e1
      have ei : (i2 : Int) = 8 * (s.size : Int) - r.length := by omega
      rw [← ei] at hR
      have HR := Lib.hid hR
      obtain ⟨q0, q1, q2, -, -, -⟩ := X.cells
      clear hv hb e1 e2 hR t1 t2 ei
      go_wp2_with fail
      go_quiet (fail)
      go_wp2
      go_ret3
      rw [HR.out]
      exact ⟨rfl, below_drewN B1.out _⟩

set_option maxRecDepth 100000 in
set_option maxHeartbeats 8000000 in
theorem sampleP_any (c0 c1 : Nat) (s : ByteArray) (i : Int) (ok : Bool) (a n : Int) (w : World) (hc0 : Bo w c0 (.int .i64 a)) (hc1 : Bo w c1 (.int .i64 n)) (hn : ok = true → 0 ≤ a ∧ 1 ≤ n ∧ n ≤ 1000000) :
    Calls Tryd.prog 65 #[.string s, .int .i64 i, .bool ok, .func (.func 100) #[] #[.pointer (some ⟨c0, 0, none⟩), .pointer (some ⟨c1, 0, none⟩)]] w fun e w' => e = .returned (.tuple #[.bool ((smp false s i ok (partP a.toNat n.toNat)).1 : Bool), .int .i64 (smp false s i ok (partP a.toNat n.toNat)).2.1, .int .i64 (smp false s i ok (partP a.toNat n.toNat)).2.2]) ∧ Below w.heap.size w w' := by
  have hcase : 64 < s.size ∨ (¬ 64 < s.size ∧ ((i < 0 ∨ (¬ i < 0 ∧ (8 * (s.size : Int) < i ∨ (¬ 8 * (s.size : Int) < i ∧ (ok = false ∨ ok = true))))))) := by
    by_cases h1 : 64 < s.size
    · exact Or.inl h1
    · right; refine ⟨h1, ?_⟩
      by_cases h2 : i < 0
      · exact Or.inl h2
      · right; refine ⟨h2, ?_⟩
        by_cases h3 : 8 * (s.size : Int) < i
        · exact Or.inl h3
        · right; refine ⟨h3, ?_⟩; cases ok <;> simp
  rcases hcase with h1 | ⟨h1, h2 | ⟨h2, h3 | ⟨h3, rfl | rfl⟩⟩⟩
  · rw [smp_large h1]
    have h4 : (64 : Int) < (s.size : Int) := by omega
    go_enter Tryd.func65, Tryd.ntmps65
    go_wp2
    go_ret3
    exact ⟨rfl, Below.refl _ _⟩
  · rw [smp_bad h1 (Or.inl h2)]
    have h4 : ¬ (64 : Int) < (s.size : Int) := by omega
    go_enter Tryd.func65, Tryd.ntmps65
    go_wp2
    go_ret3
    exact ⟨rfl, Below.refl _ _⟩
  · rw [smp_bad h1 (Or.inr (Or.inl h3))]
    have h4 : ¬ (64 : Int) < (s.size : Int) := by omega
    go_enter Tryd.func65, Tryd.ntmps65
    go_wp2
    go_ret3
    exact ⟨rfl, Below.refl _ _⟩
  · rw [smp_bad h1 (Or.inr (Or.inr rfl))]
    have h4 : ¬ (64 : Int) < (s.size : Int) := by omega
    go_enter Tryd.func65, Tryd.ntmps65
    go_wp2
    go_ret3
    exact ⟨rfl, Below.refl _ _⟩
  · have hn' := hn rfl
    have h4 : ¬ (64 : Int) < (s.size : Int) := by omega
    obtain ⟨j, rfl⟩ := Int.eq_ofNat_of_zero_le (show 0 ≤ i by omega)
    obtain ⟨a, rfl⟩ := Int.eq_ofNat_of_zero_le (show 0 ≤ a by omega)
    obtain ⟨n, rfl⟩ := Int.eq_ofNat_of_zero_le (show 0 ≤ n by omega)
    have en : ((n : Nat) : Int).toNat = n := Int.toNat_natCast n
    have ea : ((a : Nat) : Int).toNat = a := Int.toNat_natCast a
    rw [en, ea]
    have h5 : (j : Int) ≤ 8 * (s.size : Int) := by omega
    have TN := Lib.hid (tp_new w s j h5)
    have CL := Lib.hid (fun w' (B : Below w.heap.size w w') (T : Tp w' w.heap.size s (some (tbits s j))) => partC_any w.heap.size c0 c1 s (some (tbits s j)) a n w' (by omega) (by omega) (by omega) T ((hc0.below (B.mono (Nat.le_refl _))).cell) ((hc1.below (B.mono (Nat.le_refl _))).cell))
    have HN := Lib.hid (fun p => smp_none (z := false) (P := (partP a n)) h1 h5 p)
    have HS := Lib.hid (fun v r p => smp_some (z := false) (P := (partP a n)) h1 h5 (v := v) (r := r) p)
    obtain ⟨RR, hRR⟩ : ∃ RR, RR = smp false s (j : Int) true (partP a n) := ⟨_, rfl⟩
    rw [← hRR] at HN HS ⊢
    have B0 := Lib.hid ((Below.refl w.heap.size w).alloc (Nat.le_refl _) (.cells #[.string s, .int .i64 j, .bool false] 125))
    have hnot : ¬ 8 * (s.size : Int) < (j : Int) := by omega
    have hnot2 : ¬ (j : Int) < 0 := by omega
    clear hRR hn h3 h2
    go_enter Tryd.func65, Tryd.ntmps65
    go_wp2_with fail
    refine (CL.out _ B0.out TN.out).mono ?_
    rintro e w1 ⟨v, rfl, hv, T, hb⟩
    have HV := Lib.hid hv
    have B1 := Lib.hid (B0.out.trans hb)
    rcases rest_ways (partP a n) (tbits s j) with ⟨e1, e2⟩ | ⟨c, r, e1, e2⟩
    · rw [e2] at T
      have hq := T.flag
      simp only [Option.isNone_none] at hq
      have hR := HN.out e1
      have HR := Lib.hid hR
      clear hv T hb e1 e2 hR
      go_wp2
      go_ret3
      rw [HR.out]
      exact ⟨rfl, B1.out⟩
    · rw [e2] at T
      have hc := HV.out _ c r rfl e1
      subst hc
      obtain ⟨i2, t1, t2, X⟩ := T
      have hR := HS.out _ r e1
      have ei : (i2 : Int) = 8 * (s.size : Int) - r.length := by omega
      rw [← ei] at hR
      have HR := Lib.hid hR
      obtain ⟨q0, q1, q2, -, -, -⟩ := X.cells
      clear hv hb e1 e2 hR t1 t2 ei
      go_wp2_with fail
      go_quiet (fail)
      go_wp2
      go_ret3
      rw [HR.out]
      exact ⟨rfl, below_drewN B1.out _⟩

set_option maxRecDepth 100000 in
set_option maxHeartbeats 8000000 in
theorem sampleL_any (c0 c1 : Nat) (s : ByteArray) (i : Int) (ok : Bool) (a n : Int) (w : World) (hc0 : Bo w c0 (.int .i64 a)) (hc1 : Bo w c1 (.int .i64 n)) (hn : ok = true → (1 ≤ a ∧ a ≤ 1000) ∧ 1 ≤ n ∧ n ≤ 1000) :
    Calls Tryd.prog 97 #[.string s, .int .i64 i, .bool ok, .func (.func 103) #[] #[.pointer (some ⟨c0, 0, none⟩), .pointer (some ⟨c1, 0, none⟩)]] w fun e w' => e = .returned (.tuple #[.int .i64 ((smp 0 s i ok (lapP a.toNat n.toNat)).1 : Int), .int .i64 (smp 0 s i ok (lapP a.toNat n.toNat)).2.1, .int .i64 (smp 0 s i ok (lapP a.toNat n.toNat)).2.2]) ∧ Below w.heap.size w w' := by
  have hcase : 64 < s.size ∨ (¬ 64 < s.size ∧ ((i < 0 ∨ (¬ i < 0 ∧ (8 * (s.size : Int) < i ∨ (¬ 8 * (s.size : Int) < i ∧ (ok = false ∨ ok = true))))))) := by
    by_cases h1 : 64 < s.size
    · exact Or.inl h1
    · right; refine ⟨h1, ?_⟩
      by_cases h2 : i < 0
      · exact Or.inl h2
      · right; refine ⟨h2, ?_⟩
        by_cases h3 : 8 * (s.size : Int) < i
        · exact Or.inl h3
        · right; refine ⟨h3, ?_⟩; cases ok <;> simp
  rcases hcase with h1 | ⟨h1, h2 | ⟨h2, h3 | ⟨h3, rfl | rfl⟩⟩⟩
  · rw [smp_large h1]
    have h4 : (64 : Int) < (s.size : Int) := by omega
    go_enter Tryd.func97, Tryd.ntmps97
    go_wp2
    go_ret3
    exact ⟨rfl, Below.refl _ _⟩
  · rw [smp_bad h1 (Or.inl h2)]
    have h4 : ¬ (64 : Int) < (s.size : Int) := by omega
    go_enter Tryd.func97, Tryd.ntmps97
    go_wp2
    go_ret3
    exact ⟨rfl, Below.refl _ _⟩
  · rw [smp_bad h1 (Or.inr (Or.inl h3))]
    have h4 : ¬ (64 : Int) < (s.size : Int) := by omega
    go_enter Tryd.func97, Tryd.ntmps97
    go_wp2
    go_ret3
    exact ⟨rfl, Below.refl _ _⟩
  · rw [smp_bad h1 (Or.inr (Or.inr rfl))]
    have h4 : ¬ (64 : Int) < (s.size : Int) := by omega
    go_enter Tryd.func97, Tryd.ntmps97
    go_wp2
    go_ret3
    exact ⟨rfl, Below.refl _ _⟩
  · have hn' := hn rfl
    have h4 : ¬ (64 : Int) < (s.size : Int) := by omega
    obtain ⟨j, rfl⟩ := Int.eq_ofNat_of_zero_le (show 0 ≤ i by omega)
    obtain ⟨a, rfl⟩ := Int.eq_ofNat_of_zero_le (show 0 ≤ a by omega)
    obtain ⟨n, rfl⟩ := Int.eq_ofNat_of_zero_le (show 0 ≤ n by omega)
    have en : ((n : Nat) : Int).toNat = n := Int.toNat_natCast n
    have ea : ((a : Nat) : Int).toNat = a := Int.toNat_natCast a
    rw [en, ea]
    have h5 : (j : Int) ≤ 8 * (s.size : Int) := by omega
    have TN := Lib.hid (tp_new w s j h5)
    have CL := Lib.hid (fun w' (B : Below w.heap.size w w') (T : Tp w' w.heap.size s (some (tbits s j))) => lapC_any w.heap.size c0 c1 s (some (tbits s j)) a n w' (by omega) (by omega) (by omega) (by omega) (by omega) T ((hc0.below (B.mono (Nat.le_refl _))).cell) ((hc1.below (B.mono (Nat.le_refl _))).cell))
    have HN := Lib.hid (fun p => smp_none (z := 0) (P := (lapP a n)) h1 h5 p)
    have HS := Lib.hid (fun v r p => smp_some (z := 0) (P := (lapP a n)) h1 h5 (v := v) (r := r) p)
    obtain ⟨RR, hRR⟩ : ∃ RR, RR = smp 0 s (j : Int) true (lapP a n) := ⟨_, rfl⟩
    rw [← hRR] at HN HS ⊢
    have B0 := Lib.hid ((Below.refl w.heap.size w).alloc (Nat.le_refl _) (.cells #[.string s, .int .i64 j, .bool false] 125))
    have hnot : ¬ 8 * (s.size : Int) < (j : Int) := by omega
    have hnot2 : ¬ (j : Int) < 0 := by omega
    clear hRR hn h3 h2
    go_enter Tryd.func97, Tryd.ntmps97
    go_wp2_with fail
    refine (CL.out _ B0.out TN.out).mono ?_
    rintro e w1 ⟨v, rfl, hv, T, hb⟩
    have HV := Lib.hid hv
    have B1 := Lib.hid (B0.out.trans hb)
    rcases rest_ways (lapP a n) (tbits s j) with ⟨e1, e2⟩ | ⟨c, r, e1, e2⟩
    · rw [e2] at T
      have hq := T.flag
      simp only [Option.isNone_none] at hq
      have hR := HN.out e1
      have HR := Lib.hid hR
      clear hv T hb e1 e2 hR
      go_wp2
      go_ret3
      rw [HR.out]
      exact ⟨rfl, B1.out⟩
    · rw [e2] at T
      have hc := HV.out _ c r rfl e1
      subst hc
      obtain ⟨i2, t1, t2, X⟩ := T
      have hR := HS.out _ r e1
      have ei : (i2 : Int) = 8 * (s.size : Int) - r.length := by omega
      rw [← ei] at hR
      have HR := Lib.hid hR
      obtain ⟨q0, q1, q2, -, -, -⟩ := X.cells
      clear hv hb e1 e2 hR t1 t2 ei
      go_wp2_with fail
      go_quiet (fail)
      go_wp2
      go_ret3
      rw [HR.out]
      exact ⟨rfl, below_drewN B1.out _⟩

end Go.Proofs.YtmpdbmaokbhcjaaDoor
