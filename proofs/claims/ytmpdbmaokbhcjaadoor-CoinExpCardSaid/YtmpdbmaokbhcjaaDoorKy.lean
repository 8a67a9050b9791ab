/-
  PLAIN: of all tapes as many tell N as tell -N.
-/
import Derived.Test.YtmpdbmaokbhcjaaDoorKw
set_option linter.unusedVariables false
set_option linter.unusedSimpArgs false
namespace Go.Proofs.YtmpdbmaokbhcjaaDoor.Kn

def thenB {α : Type} (o : Option (α × List Bool)) (F : α → List Bool → Bool) : Bool := match o with
  | none => false
  | some (n, r) => F n r
/-- what comes behind a program: counted alike, if it is alike behind each thing that it tells -/
theorem bind_cnt {α : Type} {F G : α → List Bool → Bool} : ∀ (m : Nat) (Q : List Bool → Option (α × List Bool)), Pre Q → (∀ n m', m' ≤ m → cntL m' (F n) = cntL m' (G n)) →
    cntL m (fun l => thenB (Q l) F) = cntL m (fun l => thenB (Q l) G) := by
  intro m
  induction m with
  | zero =>
    intro Q hQ h
    cases hq : Q [] with
    | none =>
      have e : ∀ H : α → List Bool → Bool, cntL 0 (fun l => thenB (Q l) H) = 0 := fun H => by
        show (if thenB (Q []) H = true then 1 else 0) = 0
        rw [hq]; rfl
      rw [e, e]
    | some p =>
      obtain ⟨n, r⟩ := p
      obtain ⟨c, e1, e2⟩ := hQ _ _ _ hq
      have hc : c = [] ∧ r = [] := by simpa using e1.symm
      obtain ⟨rfl, rfl⟩ := hc
      have e3 : ∀ l, Q l = some (n, l) := fun l => by simpa using e2 l
      rw [cntL_congr (Q := F n) (fun l => by rw [e3]; rfl), cntL_congr (P := fun l => thenB (Q l) G) (Q := G n) (fun l => by rw [e3]; rfl)]
      exact h n 0 (Nat.le_refl _)
  | succ m ih =>
    intro Q hQ h
    cases hq : Q [] with
    | some p =>
      obtain ⟨n, r⟩ := p
      obtain ⟨c, e1, e2⟩ := hQ _ _ _ hq
      have hc : c = [] ∧ r = [] := by simpa using e1.symm
      obtain ⟨rfl, rfl⟩ := hc
      have e3 : ∀ l, Q l = some (n, l) := fun l => by simpa using e2 l
      rw [cntL_congr (Q := F n) (fun l => by rw [e3]; rfl), cntL_congr (P := fun l => thenB (Q l) G) (Q := G n) (fun l => by rw [e3]; rfl)]
      exact h n (m + 1) (Nat.le_refl _)
    | none =>
      have hb : ∀ b, Pre (fun l => Q (b :: l)) := by
        intro b l v r hl
        obtain ⟨c, e1, e2⟩ := hQ _ _ _ hl
        cases c with
        | nil => have := e2 []; simp only [List.nil_append] at this; rw [hq] at this; exact absurd this (by simp)
        | cons b' c' =>
          simp only [List.cons_append, List.cons.injEq] at e1
          obtain ⟨rfl, e1⟩ := e1
          exact ⟨c', e1, fun r' => e2 r'⟩
      have h' : ∀ n m', m' ≤ m → cntL m' (F n) = cntL m' (G n) := fun n m' hm => h n m' (by omega)
      have i0 := ih (fun l => Q (false :: l)) (hb false) h'
      have i1 := ih (fun l => Q (true :: l)) (hb true) h'
      unfold cntL
      rw [i0, i1]
theorem lap_turned (a b : Nat) : ∀ (f m : Nat) (x : Int), x ≠ 0 → cntL m (fun l => (lapF a b f l).map (·.1) == some x) = cntL m (fun l => (lapF a b f l).map (·.1) == some (-x))
  | 0, m, x, hx => rfl
  | f + 1, m, x, hx => by
    have key : ∀ z : Int, cntL m (fun l => (lapF a b (f + 1) l).map (·.1) == some z) = cntL m (fun l => thenB (countP a b l) (fun n r => (lapK a b f n r).map (·.1) == some z)) := by
      intro z
      refine cntL_congr (fun l => ?_) m
      cases hc : countP a b l with
      | none => rw [(lapF_k a b f l).1 hc]; rfl
      | some p => obtain ⟨n, r⟩ := p; rw [(lapF_k a b f l).2 n r hc]; rfl
    rw [key x, key (-x)]
    refine bind_cnt (F := fun n r => (lapK a b f n r).map (·.1) == some x) (G := fun n r => (lapK a b f n r).map (·.1) == some (-x)) m (countP a b) (pre_count a b 600 0) (fun n m' _ => ?_)
    cases m' with
    | zero => rfl
    | succ m' =>
      unfold cntL
      have e0 : ∀ z : Int, cntL m' (fun l => (lapK a b f n (false :: l)).map (·.1) == some z) = if (n : Int) = z then 2 ^ m' else 0 := by
        intro z
        rw [cntL_congr (P := fun l => (lapK a b f n (false :: l)).map (·.1) == some z) (Q := fun _ => ((n : Int) == z)) (fun l => rfl), cntL_const]
        by_cases h : (n : Int) = z
        · rw [if_pos h, if_pos (by rw [beq_iff_eq]; exact h)]
        · rw [if_neg h, if_neg (by rw [beq_iff_eq]; exact h)]
      by_cases hn : 0 < n
      · have e1 : ∀ z : Int, cntL m' (fun l => (lapK a b f n (true :: l)).map (·.1) == some z) = if -(n : Int) = z then 2 ^ m' else 0 := by
          intro z
          rw [cntL_congr (Q := fun _ => (-(n : Int) == z)) (fun l => by show ((if 0 < n then some (-(n : Int), l) else lapF a b f l).map (·.1) == some z) = _; rw [if_pos hn]; rfl), cntL_const]
          by_cases h : -(n : Int) = z
          · rw [if_pos h, if_pos (by rw [beq_iff_eq]; exact h)]
          · rw [if_neg h, if_neg (by rw [beq_iff_eq]; exact h)]
        rw [e0, e0, e1, e1]
        split <;> split <;> split <;> split <;> omega
      · have e1 : ∀ z : Int, cntL m' (fun l => (lapK a b f n (true :: l)).map (·.1) == some z) = cntL m' (fun l => (lapF a b f l).map (·.1) == some z) := by
          intro z
          exact cntL_congr (fun l => by show ((if 0 < n then some (-(n : Int), l) else lapF a b f l).map (·.1) == some z) = _; rw [if_neg hn]) m'
        rw [e0, e0, e1, e1, lap_turned a b f m' x hx, if_neg (by omega), if_neg (by omega)]
theorem count_val {a b : Nat} (ha : 1 ≤ a) (hb : 1 ≤ b) : ∀ (f n : Nat) (l : List Bool) {v : Nat} {r : List Bool}, countF a b f n l = some (v, r) → v + r.length ≤ n + l.length
  | 0, n, l, v, r, h => by simp [countF] at h
  | f + 1, n, l, v, r, h => by
    rw [countF_s] at h
    cases hp : expP a b l with
    | none => rw [hp] at h; exact absurd h (by simp)
    | some p =>
      obtain ⟨t, l2⟩ := p
      rw [hp] at h
      have hl := exp_len hb hp
      cases t
      · simp only [Option.some.injEq, Prod.mk.injEq] at h
        obtain ⟨rfl, rfl⟩ := h
        omega
      · have := count_val ha hb f (n + 1) l2 h
        have := hl.2 ha
        omega
theorem lap_val {a b : Nat} (ha : 1 ≤ a) (hb : 1 ≤ b) : ∀ (f : Nat) (l : List Bool) {v : Int} {r : List Bool}, lapF a b f l = some (v, r) → v.natAbs ≤ l.length
  | 0, l, v, r, h => by simp [lapF] at h
  | f + 1, l, v, r, h => by
    cases hc : countP a b l with
    | none => rw [(lapF_k a b f l).1 hc] at h; exact absurd h (by simp)
    | some p =>
      obtain ⟨n, r1⟩ := p
      rw [(lapF_k a b f l).2 n r1 hc] at h
      have h1 := count_val ha hb _ _ _ hc
      cases r1 with
      | nil => exact absurd h (by simp [lapK])
      | cons c r2 =>
        simp only [List.length_cons] at h1
        cases c
        · simp only [lapK, Option.some.injEq, Prod.mk.injEq] at h
          rw [← h.1]; omega
        · simp only [lapK] at h
          split at h
          · simp only [Option.some.injEq, Prod.mk.injEq] at h
            rw [← h.1]; omega
          · have := lap_val ha hb f r2 h; omega
end Go.Proofs.YtmpdbmaokbhcjaaDoor.Kn
