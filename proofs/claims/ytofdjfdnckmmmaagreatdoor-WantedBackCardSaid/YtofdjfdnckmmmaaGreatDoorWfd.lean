/-
  PLAIN: what package wanted tells: a specification, the pieces of a text; a struct of eight in a block.
-/
import Derived.Test.YtofdjfdnckmmmaaGreatDoorWst
import Derived.Test.YtofdjfdnckmmmaaGreatDoorLk
import Derived.Test.YtofdjfdnckmmmaaGreatDoorHg
set_option linter.unusedVariables false
set_option linter.unusedSimpArgs false
namespace Go.Proofs.YtofdjfdnckmmmaaGreatDoor
open Go.RowKit Nt Fm Fl

/-- ahead of a byte, and from it on -/
def wA (c : UInt8) (s : List UInt8) : List UInt8 := s.takeWhile (fun b => !(b == c))
def wB (c : UInt8) (s : List UInt8) : List UInt8 := s.dropWhile (fun b => !(b == c))
theorem wAB (c : UInt8) (s : List UInt8) : wA c s ++ wB c s = s := List.takeWhile_append_dropWhile
theorem wA_no (c : UInt8) (s : List UInt8) : c ∉ wA c s := by
  unfold wA
  induction s with
  | nil => simp
  | cons x s ih =>
    by_cases h : x = c
    · rw [List.takeWhile_cons_of_neg (by simp [h])]; simp
    · rw [List.takeWhile_cons_of_pos (by simp [h])]
      intro h2
      rcases List.mem_cons.1 h2 with h3 | h3
      · exact h h3.symm
      · exact ih h3
theorem wB_ways (c : UInt8) (s : List UInt8) : wB c s = [] ∨ ∃ b, wB c s = c :: b := by
  unfold wB
  induction s with
  | nil => exact Or.inl rfl
  | cons x s ih =>
    by_cases h : x = c
    · right
      exact ⟨s, by rw [List.dropWhile_cons_of_neg (by simp [h]), h]⟩
    · rw [List.dropWhile_cons_of_pos (by simp [h])]
      exact ih
/-- where it stands -/
theorem w_index (c : UInt8) (s : List UInt8) : (wB c s = [] ∧ wA c s = s ∧ Lib.indexByte s c = -1) ∨ (wB c s ≠ [] ∧ (wA c s).length < s.length ∧ Lib.indexByte s c = ((wA c s).length : Int)) := by
  have h := wAB c s
  rcases wB_ways c s with g | ⟨b, g⟩
  · left
    rw [g, List.append_nil] at h
    refine ⟨g, h, ?_⟩
    have := wA_no c s
    rw [h] at this
    exact ib_miss s this
  · right
    rw [g] at h
    refine ⟨by rw [g]; simp, ?_, ?_⟩
    · have := congrArg List.length h
      rw [List.length_append, List.length_cons] at this
      omega
    · conv => lhs; rw [← h]
      exact ib_hit _ _ (wA_no c s)
theorem w_has (c : UInt8) (s : List UInt8) : decide (0 ≤ Lib.indexByte s c) = decide (c ∈ s) := by
  congr 1
  apply propext
  rcases w_index c s with ⟨g1, g2, g3⟩ | ⟨g1, g2, g3⟩
  · rw [g3]
    have := wA_no c s
    rw [g2] at this
    exact ⟨fun h => absurd h (by decide), fun h => absurd h this⟩
  · rw [g3]
    refine ⟨fun _ => ?_, fun _ => by omega⟩
    rw [← wAB c s]
    rcases wB_ways c s with g | ⟨b, g⟩
    · exact absurd g g1
    · rw [g]; simp
/-- the noughts behind a point, and it, taken away -/
def wCutM (m : List UInt8) : List UInt8 := if 46 ∈ m then Lib.trimSuffix (Lib.trimRightB m 48) [46] else m
def wCut (s : List UInt8) : List UInt8 := wCutM (wA 101 s) ++ wB 101 s
theorem wCutM_len (m : List UInt8) : (wCutM m).length ≤ m.length := by
  unfold wCutM Lib.trimSuffix Lib.trimRightB
  split
  · have h1 : ((m.reverse.dropWhile (· == 48)).reverse).length ≤ m.length := by
      rw [List.length_reverse]
      have := (List.dropWhile_sublist (· == 48) (l := m.reverse)).length_le
      rw [List.length_reverse] at this
      exact this
    split
    · rw [List.length_take]; omega
    · exact h1
  · exact Nat.le_refl _
/-- a point put in -/
def wIns (c : UInt8) (s : List UInt8) : List UInt8 := wA c s ++ [46] ++ wB c s
structure Spc where
  verb : Int
  mi : Bool
  pl : Bool
  bl : Bool
  ze : Bool
  al : Bool
  wd : Int
  pr : Int
def Spc.v (f : Spc) : Value := .agg #[.int .i64 f.verb, .bool f.mi, .bool f.pl, .bool f.bl, .bool f.ze, .bool f.al, .int .i64 f.wd, .int .i64 f.pr]
/-- a struct of eight in a block -/
def Bx8 (w : World) (b : Nat) (T : TypeId) (v : Int) (mi pl bl ze al : Bool) (wd pr : Int) : Prop := w.heap[b]? = some (.cells #[.int .i64 v, .bool mi, .bool pl, .bool bl, .bool ze, .bool al, .int .i64 wd, .int .i64 pr] T (0, 0))
theorem Bx8.new (w : World) (T : TypeId) (v : Int) (mi pl bl ze al : Bool) (wd pr : Int) : Bx8 (w.alloc (.cells #[.int .i64 v, .bool mi, .bool pl, .bool bl, .bool ze, .bool al, .int .i64 wd, .int .i64 pr] T)) w.heap.size T v mi pl bl ze al wd pr := heap_alloc_new w _
theorem Bx8.lt {w : World} {b : Nat} {T : TypeId} {v : Int} {mi pl bl ze al : Bool} {wd pr : Int} (h : Bx8 w b T v mi pl bl ze al wd pr) : b < w.heap.size := (Array.getElem?_eq_some_iff.1 h).1
theorem Bx8.below {w w' : World} {b : Nat} {T : TypeId} {v : Int} {mi pl bl ze al : Bool} {wd pr : Int} (h : Bx8 w b T v mi pl bl ze al wd pr) (hb : Below w.heap.size w w') : Bx8 w' b T v mi pl bl ze al wd pr := (hb.block b h.lt).trans h
theorem Bx8.cells {w : World} {b : Nat} {T : TypeId} {v : Int} {mi pl bl ze al : Bool} {wd pr : Int} (h : Bx8 w b T v mi pl bl ze al wd pr) :
    w.cell? ⟨b, 0, none⟩ = some (.int .i64 v) ∧ w.cell? ⟨b, 1, none⟩ = some (.bool mi) ∧ w.cell? ⟨b, 2, none⟩ = some (.bool pl) ∧ w.cell? ⟨b, 3, none⟩ = some (.bool bl) ∧ w.cell? ⟨b, 4, none⟩ = some (.bool ze) ∧ w.cell? ⟨b, 5, none⟩ = some (.bool al) ∧ w.cell? ⟨b, 6, none⟩ = some (.int .i64 wd) ∧ w.cell? ⟨b, 7, none⟩ = some (.int .i64 pr) := by
  unfold Bx8 at h
  refine ⟨?_, ?_, ?_, ?_, ?_, ?_, ?_, ?_⟩ <;> simp [World.cell?, h]
/-- the body of g -/
noncomputable def wGen (al : Bool) (x : Int) (g : Nat) : List UInt8 :=
  let k := dgP (valD x) g 0
  let s := if -4 ≤ k ∧ k < (g : Int) then fxS x ((g : Int) - 1 - k) 0 else scS x g 0
  if al = true then s else wCut s
def wPr (pr : Int) : Nat := if pr < 0 then 6 else pr.toNat
/-- .. of a number, ahead of what Alt does -/
noncomputable def wVal0 (f : Spc) (x : Int) : List UInt8 :=
  if f.verb = 102 then fxS x (wPr f.pr) 0 else if f.verb = 101 then scS x ((wPr f.pr : Int) + 1) 0 else if f.verb = 103 then wGen f.al x (max (wPr f.pr) 1) else if f.pr < 0 then hxT x else hfS x f.pr 0
noncomputable def wVal (f : Spc) (x : Int) : List UInt8 :=
  if f.al = true ∧ 46 ∉ wVal0 f x then wIns (if f.verb = 97 then 112 else 101) (wVal0 f x) else wVal0 f x
/-- the sign -/
def wHead (f : Spc) (x : Int) : List UInt8 := if 9223372036854775808 ≤ x ∧ fcls x ≠ 5 then [45] else if f.pl = true then [43] else if f.bl = true then [32] else []
noncomputable def wBody (f : Spc) (x : Int) : List UInt8 := if fcls x = 5 then [110, 97, 110] else if fcls x = 4 then [105, 110, 102] else wVal f (fabs x)
def wErr (f : Spc) : Int :=
  if (f.verb ≠ 101 ∧ f.verb ≠ 102 ∧ f.verb ≠ 103 ∧ f.verb ≠ 97) ∨ f.wd < 0 ∨ 200 < f.wd ∨ f.pr < -1 ∨ (if f.verb = 97 then 30 else 100) < f.pr then 1 else 0
noncomputable def wPad (f : Spc) (x : Int) : Nat := (f.wd - (wHead f x).length - (wBody f x).length).toNat
noncomputable def wTxt (f : Spc) (x : Int) : List UInt8 :=
  if f.mi = true then wHead f x ++ wBody f x ++ List.replicate (wPad f x) 32
  else if f.ze = true ∧ hasV x = true then
    (if f.verb = 97 then (wHead f x ++ [48, 120]) ++ List.replicate (wPad f x) 48 ++ (wBody f x).drop 2 else wHead f x ++ List.replicate (wPad f x) 48 ++ wBody f x)
  else List.replicate (wPad f x) 32 ++ wHead f x ++ wBody f x
noncomputable def wS (f : Spc) (x : Int) : List UInt8 := if wErr f = 0 then wTxt f x else []
end Go.Proofs.YtofdjfdnckmmmaaGreatDoor
