/-
  PLAIN: programs that read bits: package coin's samplers on lists of bits. No Go function here.
-/
import Derived.WalkKit
import Derived.Lib.Hide
import Derived.Shelf.Small.Bits
set_option linter.unusedVariables false
set_option linter.unusedSimpArgs false
namespace Go.Proofs.YtmpdbmaokbhcjaaDoor.Kn

def takeB : Nat → Nat → List Bool → Option (Nat × List Bool)
  | 0, x, l => some (x, l)
  | _ + 1, _, [] => none
  | k + 1, x, b :: l => takeB k (2 * x + b.toNat) l
def belowF (n k : Nat) : Nat → List Bool → Option (Nat × List Bool)
  | 0, _ => none
  | f + 1, l => match takeB k 0 l with
    | none => none
    | some (x, r) => if x < n then some (x, r) else belowF n k f r
def belowP (n : Nat) (l : List Bool) : Option (Nat × List Bool) := belowF n (Lib.bitLen (n - 1)) 600 l
def partP (a n : Nat) (l : List Bool) : Option (Bool × List Bool) := match belowP n l with
  | none => none
  | some (x, r) => some (decide (x < a), r)
def restF (r b : Nat) : Nat → Nat → List Bool → Option (Bool × List Bool)
  | 0, _, _ => none
  | f + 1, k, l => match partP r (b * k) l with
    | none => none
    | some (true, l') => restF r b f (k + 1) l'
    | some (false, l') => some (decide (k % 2 = 1), l')
def restP (r b : Nat) (l : List Bool) : Option (Bool × List Bool) := restF r b 600 1 l
def loopE : Nat → List Bool → Option (Bool × List Bool)
  | 0, l => some (true, l)
  | m + 1, l => match restP 1 1 l with
    | none => none
    | some (false, l') => some (false, l')
    | some (true, l') => loopE m l'
def expP (a b : Nat) (l : List Bool) : Option (Bool × List Bool) := match loopE (a / b) l with
  | none => none
  | some (false, l') => some (false, l')
  | some (true, l') => restP (a % b) b l'
def countF (a b : Nat) : Nat → Nat → List Bool → Option (Nat × List Bool)
  | 0, _, _ => none
  | f + 1, n, l => match expP a b l with
    | none => none
    | some (true, l') => countF a b f (n + 1) l'
    | some (false, l') => some (n, l')
def countP (a b : Nat) (l : List Bool) : Option (Nat × List Bool) := countF a b 600 0 l
def bitP : List Bool → Option (Bool × List Bool)
  | [] => none
  | b :: l => some (b, l)
def lapF (a b : Nat) : Nat → List Bool → Option (Int × List Bool)
  | 0, _ => none
  | f + 1, l => match countP a b l with
    | none => none
    | some (_, []) => none
    | some (n, false :: r) => some ((n : Int), r)
    | some (n, true :: r) => if 0 < n then some (-(n : Int), r) else lapF a b f r
def lapP (a b : Nat) (l : List Bool) : Option (Int × List Bool) := lapF a b 600 l

/-- what is read is no longer -/
theorem take_len : ∀ (k x : Nat) (l : List Bool) {y : Nat} {r : List Bool}, takeB k x l = some (y, r) → l.length = r.length + k
  | 0, x, l, y, r, h => by simp only [takeB, Option.some.injEq, Prod.mk.injEq] at h; rw [h.2]; rfl
  | k + 1, x, [], y, r, h => by simp [takeB] at h
  | k + 1, x, b :: l, y, r, h => by
    have := take_len k (2 * x + b.toNat) l (by simpa [takeB] using h)
    simp only [List.length_cons]; omega
theorem take_lt : ∀ (k x : Nat) (l : List Bool) {y : Nat} {r : List Bool}, takeB k x l = some (y, r) → y < (x + 1) * 2 ^ k
  | 0, x, l, y, r, h => by simp only [takeB, Option.some.injEq, Prod.mk.injEq] at h; rw [← h.1]; simp
  | k + 1, x, [], y, r, h => by simp [takeB] at h
  | k + 1, x, b :: l, y, r, h => by
    have h1 := take_lt k (2 * x + b.toNat) l (by simpa [takeB] using h)
    refine Nat.lt_of_lt_of_le h1 ?_
    rw [Nat.pow_succ, Nat.mul_comm (2 ^ k) 2, ← Nat.mul_assoc]
    refine Nat.mul_le_mul_right _ ?_
    cases b <;> simp <;> omega
theorem bitLen_pos {n : Nat} (h : 2 ≤ n) : 1 ≤ Lib.bitLen (n - 1) := by
  unfold Lib.bitLen
  rw [show (64 : Nat) = 63 + 1 from rfl]
  unfold Lib.bitLenAux
  rw [if_neg (by omega)]; omega
theorem below_len {n k : Nat} : ∀ (f : Nat) (l : List Bool) {x : Nat} {r : List Bool}, belowF n k f l = some (x, r) → r.length + k ≤ l.length ∧ x < n
  | 0, l, x, r, h => by simp [belowF] at h
  | f + 1, l, x, r, h => by
    unfold belowF at h
    cases ht : takeB k 0 l with
    | none => rw [ht] at h; exact absurd h (by simp)
    | some p =>
      obtain ⟨y, r'⟩ := p
      rw [ht] at h
      have hl := take_len k 0 l ht
      simp only at h
      split at h
      · simp only [Option.some.injEq, Prod.mk.injEq] at h
        obtain ⟨rfl, rfl⟩ := h
        exact ⟨by omega, by assumption⟩
      · have := below_len f r' h
        exact ⟨by omega, this.2⟩
theorem part_len {a n : Nat} {l r : List Bool} {v : Bool} (h : partP a n l = some (v, r)) : r.length ≤ l.length ∧ (2 ≤ n → r.length + 1 ≤ l.length) := by
  unfold partP at h
  cases hb : belowP n l with
  | none => rw [hb] at h; exact absurd h (by simp)
  | some p =>
    obtain ⟨x, r'⟩ := p
    rw [hb] at h
    simp only [Option.some.injEq, Prod.mk.injEq] at h
    obtain ⟨-, rfl⟩ := h
    have := (below_len _ _ hb).1
    exact ⟨by omega, fun hn => by have := bitLen_pos hn; omega⟩
theorem rest_len {r b : Nat} : ∀ (f k : Nat) (l : List Bool) {v : Bool} {l' : List Bool}, restF r b f k l = some (v, l') → l'.length ≤ l.length ∧ (2 ≤ b * k → l'.length + 1 ≤ l.length)
  | 0, k, l, v, l', h => by simp [restF] at h
  | f + 1, k, l, v, l', h => by
    unfold restF at h
    cases hp : partP r (b * k) l with
    | none => rw [hp] at h; exact absurd h (by simp)
    | some p =>
      obtain ⟨t, l2⟩ := p
      rw [hp] at h
      have hl := part_len hp
      cases t
      · simp only [Option.some.injEq, Prod.mk.injEq] at h
        obtain ⟨-, rfl⟩ := h
        exact hl
      · have := rest_len f (k + 1) l2 h
        exact ⟨by omega, fun hb => by have := hl.2 hb; omega⟩
theorem bitLen_0 : Lib.bitLen 0 = 0 := by decide
theorem part11 (l : List Bool) : partP 1 1 l = some (true, l) := by
  unfold partP belowP
  rw [show (1 - 1 : Nat) = 0 from rfl, bitLen_0]
  rfl
theorem rest11_len {l l' : List Bool} {v : Bool} (h : restP 1 1 l = some (v, l')) : l'.length + 1 ≤ l.length := by
  unfold restP at h
  rw [show (600 : Nat) = 599 + 1 from rfl] at h
  unfold restF at h
  rw [show (1 * 1 : Nat) = 1 from rfl, part11] at h
  exact (rest_len 599 2 l h).2 (by decide)
theorem loop_len : ∀ (m : Nat) (l : List Bool) {v : Bool} {l' : List Bool}, loopE m l = some (v, l') → l'.length ≤ l.length ∧ (1 ≤ m → l'.length + 1 ≤ l.length)
  | 0, l, v, l', h => by simp only [loopE, Option.some.injEq, Prod.mk.injEq] at h; rw [h.2]; exact ⟨Nat.le_refl _, fun h => absurd h (by decide)⟩
  | m + 1, l, v, l', h => by
    unfold loopE at h
    cases hp : restP 1 1 l with
    | none => rw [hp] at h; exact absurd h (by simp)
    | some p =>
      obtain ⟨t, l2⟩ := p
      rw [hp] at h
      have hl := rest11_len hp
      cases t
      · simp only [Option.some.injEq, Prod.mk.injEq] at h
        obtain ⟨-, rfl⟩ := h
        exact ⟨by omega, fun _ => hl⟩
      · have := loop_len m l2 h
        exact ⟨by omega, fun _ => by omega⟩
theorem exp_len {a b : Nat} {l l' : List Bool} {v : Bool} (hb : 1 ≤ b) (h : expP a b l = some (v, l')) : l'.length ≤ l.length ∧ (1 ≤ a → l'.length + 1 ≤ l.length) := by
  unfold expP at h
  cases hp : loopE (a / b) l with
  | none => rw [hp] at h; exact absurd h (by simp)
  | some p =>
    obtain ⟨t, l2⟩ := p
    rw [hp] at h
    have hl := loop_len _ _ hp
    cases t
    · simp only [Option.some.injEq, Prod.mk.injEq] at h
      obtain ⟨-, rfl⟩ := h
      refine ⟨hl.1, fun ha => ?_⟩
      by_cases hd : 1 ≤ a / b
      · exact hl.2 hd
      · have e : a / b = 0 := Nat.lt_one_iff.1 (Nat.not_le.1 hd)
        rw [e] at hp; simp [loopE] at hp
    · have h2 := rest_len 600 1 l2 h
      refine ⟨by omega, fun ha => ?_⟩
      by_cases hd : 1 ≤ a / b
      · have := hl.2 hd; omega
      · have hab : a < b := by
          apply Classical.byContradiction; intro k
          exact hd (Nat.div_pos (by omega) hb)
        have := h2.2 (by omega); omega
theorem count_len {a b : Nat} (hb : 1 ≤ b) : ∀ (f n : Nat) (l : List Bool) {v : Nat} {l' : List Bool}, countF a b f n l = some (v, l') → l'.length ≤ l.length
  | 0, n, l, v, l', h => by simp [countF] at h
  | f + 1, n, l, v, l', h => by
    unfold countF at h
    cases hp : expP a b l with
    | none => rw [hp] at h; exact absurd h (by simp)
    | some p =>
      obtain ⟨t, l2⟩ := p
      rw [hp] at h
      have hl := exp_len hb hp
      cases t
      · simp only [Option.some.injEq, Prod.mk.injEq] at h
        obtain ⟨-, rfl⟩ := h
        exact hl.1
      · have := count_len hb f (n + 1) l2 h; omega
/-- the bits of a text, from a place on -/
def tbit (s : ByteArray) (i : Nat) : Bool := (s.data.toList.getD (i / 8) 0).toNat / 2 ^ (7 - i % 8) % 2 == 1
def tbits (s : ByteArray) (i : Nat) : List Bool := ((List.range (8 * s.size)).drop i).map (tbit s)
theorem tbits_len (s : ByteArray) (i : Nat) : (tbits s i).length = 8 * s.size - i := by simp [tbits]
theorem tbits_end {s : ByteArray} {i : Nat} (h : 8 * s.size ≤ i) : tbits s i = [] := by
  apply List.eq_nil_of_length_eq_zero; rw [tbits_len]; omega
theorem tbits_cons {s : ByteArray} {i : Nat} (h : i < 8 * s.size) : tbits s i = tbit s i :: tbits s (i + 1) := by
  unfold tbits
  rw [List.drop_eq_getElem_cons (by simpa using h)]
  simp
end Go.Proofs.YtmpdbmaokbhcjaaDoor.Kn
