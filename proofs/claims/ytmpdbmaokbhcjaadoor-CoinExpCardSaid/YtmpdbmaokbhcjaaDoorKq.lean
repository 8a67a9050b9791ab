/-
  PLAIN: what programs that read bits have in common: what is behind is no matter; the bits of texts put together, and cut.
-/
import Derived.Test.YtmpdbmaokbhcjaaDoorKp
set_option linter.unusedVariables false
set_option linter.unusedSimpArgs false
namespace Go.Proofs.YtmpdbmaokbhcjaaDoor.Kn

/-- what it tells hangs on what it has read alone -/
def Pre {α : Type} (P : List Bool → Option (α × List Bool)) : Prop := ∀ l v r, P l = some (v, r) → ∃ c, l = c ++ r ∧ ∀ r', P (c ++ r') = some (v, r')
theorem Pre.pure {α : Type} (v : α) : Pre (fun l => some (v, l)) := fun l v' r h => by
  simp only [Option.some.injEq, Prod.mk.injEq] at h
  exact ⟨[], by rw [h.2]; rfl, fun r' => by rw [h.1]; rfl⟩
theorem Pre.fail {α : Type} : Pre (fun _ => (none : Option (α × List Bool))) := fun l v r h => absurd h (by simp)
theorem Pre.bind {α β : Type} {P : List Bool → Option (β × List Bool)} {Q : List Bool → Option (α × List Bool)} (K : α → List Bool → Option (β × List Bool)) (hQ : Pre Q) (hK : ∀ x, Pre (K x))
    (e1 : ∀ l, Q l = none → P l = none) (e2 : ∀ l x r, Q l = some (x, r) → P l = K x r) : Pre P := by
  intro l v r h
  cases hq : Q l with
  | none => rw [e1 l hq] at h; exact absurd h (by simp)
  | some p =>
    obtain ⟨x, r1⟩ := p
    rw [e2 l x r1 hq] at h
    obtain ⟨c1, h1, h2⟩ := hQ l x r1 hq
    obtain ⟨c2, h3, h4⟩ := hK x r1 v r h
    refine ⟨c1 ++ c2, by rw [h1, h3, List.append_assoc], fun r' => ?_⟩
    rw [List.append_assoc, e2 _ x _ (h2 _)]; exact h4 r'
theorem pre_bit : Pre bitP := by
  intro l v r h
  cases l with
  | nil => exact absurd h (by simp [bitP])
  | cons b l =>
    simp only [bitP, Option.some.injEq, Prod.mk.injEq] at h
    obtain ⟨rfl, rfl⟩ := h
    exact ⟨[b], rfl, fun r' => rfl⟩
theorem pre_take : ∀ (k x : Nat), Pre (takeB k x)
  | 0, x => Pre.pure x
  | k + 1, x => Pre.bind (fun b => takeB k (2 * x + b.toNat)) pre_bit (fun b => pre_take k _) (fun l h => by cases l with
      | nil => rfl
      | cons b l => exact absurd h (by simp [bitP])) (fun l b r h => by cases l with
      | nil => exact absurd h (by simp [bitP])
      | cons b' l => simp only [bitP, Option.some.injEq, Prod.mk.injEq] at h; obtain ⟨rfl, rfl⟩ := h; rfl)
theorem belowF_s (n k f : Nat) (l : List Bool) : belowF n k (f + 1) l = match takeB k 0 l with
    | none => none
    | some (x, r) => if x < n then some (x, r) else belowF n k f r := rfl
theorem restF_s (r b f k : Nat) (l : List Bool) : restF r b (f + 1) k l = match partP r (b * k) l with
    | none => none
    | some (true, l') => restF r b f (k + 1) l'
    | some (false, l') => some (decide (k % 2 = 1), l') := rfl
theorem loopE_s (m : Nat) (l : List Bool) : loopE (m + 1) l = match restP 1 1 l with
    | none => none
    | some (false, l') => some (false, l')
    | some (true, l') => loopE m l' := rfl
theorem countF_s (a b f n : Nat) (l : List Bool) : countF a b (f + 1) n l = match expP a b l with
    | none => none
    | some (true, l') => countF a b f (n + 1) l'
    | some (false, l') => some (n, l') := rfl
theorem pre_below (n k : Nat) : ∀ f, Pre (belowF n k f)
  | 0 => Pre.fail
  | f + 1 => Pre.bind (fun x r => if x < n then some (x, r) else belowF n k f r) (pre_take k 0) (fun x => by
      by_cases h : x < n
      · simp only [if_pos h]; exact Pre.pure x
      · simp only [if_neg h]; exact pre_below n k f) (fun l h => by rw [belowF_s, h]) (fun l x r h => by rw [belowF_s, h])
theorem pre_part (a n : Nat) : Pre (partP a n) :=
  Pre.bind (fun x r => some (decide (x < a), r)) (pre_below n _ 600) (fun x => Pre.pure _) (fun l h => by unfold partP; rw [show belowP n l = none from h]) (fun l x r h => by unfold partP; rw [show belowP n l = some (x, r) from h])
theorem pre_rest (r b : Nat) : ∀ f k, Pre (restF r b f k)
  | 0, k => Pre.fail
  | f + 1, k => Pre.bind (fun t l => if t = true then restF r b f (k + 1) l else some (decide (k % 2 = 1), l)) (pre_part r (b * k)) (fun t => by
      cases t
      · exact Pre.pure _
      · exact pre_rest r b f (k + 1)) (fun l h => by rw [restF_s, h]) (fun l t l' h => by cases t <;> (rw [restF_s, h]; rfl))
theorem pre_loop : ∀ m, Pre (loopE m)
  | 0 => Pre.pure true
  | m + 1 => Pre.bind (fun t l => if t = true then loopE m l else some (false, l)) (pre_rest 1 1 600 1) (fun t => by
      cases t
      · exact Pre.pure _
      · exact pre_loop m) (fun l h => by rw [loopE_s, show restP 1 1 l = none from h]) (fun l t l' h => by cases t <;> (rw [loopE_s, show restP 1 1 l = some (_, l') from h]; rfl))
theorem pre_exp (a b : Nat) : Pre (expP a b) :=
  Pre.bind (fun t l => if t = true then restP (a % b) b l else some (false, l)) (pre_loop (a / b)) (fun t => by
      cases t
      · exact Pre.pure _
      · exact pre_rest _ _ _ _) (fun l h => by unfold expP; rw [h]) (fun l t l' h => by cases t <;> (unfold expP; rw [h]; rfl))
theorem pre_count (a b : Nat) : ∀ f n, Pre (countF a b f n)
  | 0, n => Pre.fail
  | f + 1, n => Pre.bind (fun t l => if t = true then countF a b f (n + 1) l else some (n, l)) (pre_exp a b) (fun t => by
      cases t
      · exact Pre.pure _
      · exact pre_count a b f (n + 1)) (fun l h => by rw [countF_s, h]) (fun l t l' h => by cases t <;> (rw [countF_s, h]; rfl))
/-- what the sign's bit makes of it -/
def lapK (a b f n : Nat) : List Bool → Option (Int × List Bool)
  | [] => none
  | false :: r => some ((n : Int), r)
  | true :: r => if 0 < n then some (-(n : Int), r) else lapF a b f r
theorem lapF_k (a b f : Nat) (l : List Bool) : (countP a b l = none → lapF a b (f + 1) l = none) ∧ (∀ n r, countP a b l = some (n, r) → lapF a b (f + 1) l = lapK a b f n r) := by
  refine ⟨fun h => by unfold lapF; rw [h], fun n r h => ?_⟩
  cases r with
  | nil => unfold lapF; rw [h]; rfl
  | cons c r => cases c <;> (unfold lapF; rw [h]; rfl)
theorem pre_lap (a b : Nat) : ∀ f, Pre (lapF a b f)
  | 0 => Pre.fail
  | f + 1 => Pre.bind (lapK a b f) (pre_count a b 600 0) (fun n => Pre.bind (fun c r => if c = true then (if 0 < n then some (-(n : Int), r) else lapF a b f r) else some ((n : Int), r)) pre_bit (fun c => by
      cases c
      · exact Pre.pure _
      · by_cases h : 0 < n
        · simp only [if_true, if_pos h]; exact Pre.pure _
        · simp only [if_true, if_neg h]; exact pre_lap a b f) (fun l h => by cases l with
        | nil => rfl
        | cons c l => exact absurd h (by simp [bitP])) (fun l c r h => by cases l with
        | nil => exact absurd h (by simp [bitP])
        | cons c' l => simp only [bitP, Option.some.injEq, Prod.mk.injEq] at h; obtain ⟨rfl, rfl⟩ := h; cases c' <;> rfl))
      (fun l h => (lapF_k a b f l).1 h) (fun l n r h => (lapF_k a b f l).2 n r h)
theorem lap_len {a b : Nat} (hb : 1 ≤ b) : ∀ f l {v : Int} {r : List Bool}, lapF a b f l = some (v, r) → r.length + 1 ≤ l.length
  | 0, l, v, r, h => by simp [lapF] at h
  | f + 1, l, v, r, h => by
    cases hc : countP a b l with
    | none => rw [(lapF_k a b f l).1 hc] at h; exact absurd h (by simp)
    | some p =>
      obtain ⟨n, r1⟩ := p
      rw [(lapF_k a b f l).2 n r1 hc] at h
      have h1 := count_len hb _ _ _ hc
      cases r1 with
      | nil => exact absurd h (by simp [lapK])
      | cons c r2 =>
        simp only [List.length_cons] at h1
        cases c
        · simp only [lapK, Option.some.injEq, Prod.mk.injEq] at h
          rw [← h.2]; exact h1
        · simp only [lapK] at h
          split at h
          · simp only [Option.some.injEq, Prod.mk.injEq] at h
            rw [← h.2]; exact h1
          · have := lap_len hb f r2 h; omega
/-- texts put together; cut -/
theorem tbit_app {s m : ByteArray} {i : Nat} (h : i < 8 * s.size) : tbit (s ++ m) i = tbit s i := by
  unfold tbit
  have e : (s ++ m).data.toList.getD (i / 8) 0 = s.data.toList.getD (i / 8) 0 := by
    rw [List.getD_eq_getElem?_getD, List.getD_eq_getElem?_getD]
    congr 1
    have : (s ++ m).data.toList = s.data.toList ++ m.data.toList := by simp
    rw [this]
    exact List.getElem?_append_left (by have : s.data.toList.length = s.size := by simp
                                        omega)
  rw [e]
theorem tbits_app (s m : ByteArray) : ∀ (d i : Nat), i + d = 8 * s.size → tbits (s ++ m) i = tbits s i ++ tbits (s ++ m) (8 * s.size)
  | 0, i, h => by rw [show i = 8 * s.size by omega, tbits_end (Nat.le_refl _)]; rfl
  | d + 1, i, h => by
    have hs : (s ++ m).size = s.size + m.size := by simp
    rw [tbits_cons (s := s ++ m) (i := i) (by omega), tbits_cons (s := s) (i := i) (by omega), tbit_app (by omega), tbits_app s m d (i + 1) (by omega)]; rfl
theorem tbit_cut {s : ByteArray} {c i : Nat} (h : i + 8 * c < 8 * s.size) : tbit (s.extract c s.size) i = tbit s (i + 8 * c) := by
  unfold tbit
  have h1 : (i + 8 * c) / 8 = c + i / 8 := by omega
  have h2 : (i + 8 * c) % 8 = i % 8 := by omega
  have e : (s.extract c s.size).data.toList.getD (i / 8) 0 = s.data.toList.getD (c + i / 8) 0 := by
    rw [List.getD_eq_getElem?_getD, List.getD_eq_getElem?_getD]
    congr 1
    simp only [ByteArray.data_extract, Array.toList_extract, List.extract_eq_take_drop]
    rw [List.getElem?_take_of_lt (by omega), List.getElem?_drop]
  rw [e, h1, h2]
theorem extract_size (s : ByteArray) (c : Nat) : (s.extract c s.size).size = s.size - c := by simp
theorem tbits_cut {s : ByteArray} {c : Nat} : ∀ (d i : Nat), i + 8 * c + d = 8 * s.size → tbits (s.extract c s.size) i = tbits s (i + 8 * c)
  | 0, i, h => by
    have := extract_size s c
    rw [tbits_end (by omega), tbits_end (by omega)]
  | d + 1, i, h => by
    have := extract_size s c
    rw [tbits_cons (s := s.extract c s.size) (i := i) (by omega), tbits_cons (s := s) (i := i + 8 * c) (by omega), tbit_cut (by omega), tbits_cut d (i + 1) (by omega)]
    rw [show i + 1 + 8 * c = i + 8 * c + 1 by omega]
end Go.Proofs.YtmpdbmaokbhcjaaDoor.Kn
