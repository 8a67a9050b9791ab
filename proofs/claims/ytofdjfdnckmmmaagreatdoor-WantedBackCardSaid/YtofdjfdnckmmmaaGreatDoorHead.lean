/-
  The closed facts of a row that lean on the program's first words: shown by its letters, once for all laws (by the kernel alone they take 8 GB where the program has many roots).
-/
import Derived.Test.YtofdjfdnckmmmaaGreatDoorRows
import Derived.WalkKit
import Derived.JoinedCond
set_option linter.unusedVariables false
set_option linter.unusedSimpArgs false
namespace Go.Proofs.YtofdjfdnckmmmaaGreatDoor
open Go
theorem words_step (a r : List Char) (h : a.all (· != Char.ofNat 32) = true) : wordsSigns (a ++ Char.ofNat 32 :: r) = a :: wordsSigns r := by
  induction a with
  | nil => rfl
  | cons c a ih =>
    simp only [List.all_cons, Bool.and_eq_true] at h
    have hc : c ≠ Char.ofNat 32 := by have := h.1; simpa using this
    rw [List.cons_append, wordsSigns, ih h.2]
    exact hc
theorem strip_none {os : List String} {w : List Char} {ws : List (List Char)} (h : os.all (fun o => !(w == o.toList)) = true) : stripLifts os (w :: ws) = ([], w :: ws) := by
  induction os with
  | nil => rfl
  | cons o os ih =>
    simp only [List.all_cons, Bool.and_eq_true] at h
    rw [stripLifts, if_neg (by have := h.1; simpa using this), ih h.2]
/-- the head of the program's own word -/
def HeadFits (P : Program) : Prop := ∃ s rest, wordsSigns P.initOrder.toList = "harness".toList :: s :: "cut".toList :: rest ∧ isSumSigns s = true
theorem head_of {P : Program} (l : List Char) (hl : P.initOrder = String.ofList l) (h1 : l.take 8 = "harness".toList ++ [Char.ofNat 32]) (h2 : isSumSigns ((l.drop 8).take 64) = true)
   (h2' : ((l.drop 8).take 64).all (· != Char.ofNat 32) = true) (h3 : (l.drop 72).take 5 = Char.ofNat 32 :: "cut".toList ++ [Char.ofNat 32]) : HeadFits P := by
  refine ⟨(l.drop 8).take 64, wordsSigns (l.drop 77), ?_, h2⟩
  have e : l = "harness".toList ++ Char.ofNat 32 :: ((l.drop 8).take 64 ++ Char.ofNat 32 :: ("cut".toList ++ Char.ofNat 32 :: l.drop 77)) := by
    have e1 := (List.take_append_drop 8 l).symm
    have e2 := (List.take_append_drop 64 (l.drop 8)).symm
    have e3 := (List.take_append_drop 5 ((l.drop 8).drop 64)).symm
    rw [List.drop_drop, List.drop_drop] at e3
    rw [List.drop_drop] at e2
    have e4 : l.drop (8 + 64) = Char.ofNat 32 :: ("cut".toList ++ Char.ofNat 32 :: l.drop 77) := by
      rw [e3, show (8 + 64) = 72 from rfl, h3]; simp
    rw [e4] at e2
    rw [h1, e2] at e1
    simpa using e1
  rw [hl, String.toList_ofList]
  conv => lhs; rw [e]
  rw [words_step _ _ (by decide), words_step _ _ h2', words_step _ _ (by decide)]
theorem head_behind {P : Program} (h : HeadFits P) : ∃ rest, behindMainWord (wordsSigns P.initOrder.toList) = "cut".toList :: rest := by
  obtain ⟨s, rest, h1, h2⟩ := h
  refine ⟨rest, ?_⟩
  rw [h1, behindMainWord, h2]; simp
theorem strip_cut (rest : List (List Char)) : stripLifts liftWords ("cut".toList :: rest) = ([], "cut".toList :: rest) := strip_none (by decide +kernel)
theorem head_lifts {P : Program} (h : HeadFits P) : P.headLifts = [] := by
  obtain ⟨rest, h⟩ := head_behind h
  unfold Program.headLifts
  rw [h, strip_cut]; rfl
theorem head_final {P : Program} (h : HeadFits P) : P.liftsFinal = false := by
  have hl := head_lifts h
  obtain ⟨rest, h⟩ := head_behind h
  unfold Program.liftsFinal
  rw [h, hl]; rfl
theorem head_make {P : Program} (h : HeadFits P) : P.make = some .cut := by
  obtain ⟨rest, h⟩ := head_behind h
  unfold Program.make
  rw [h]; rfl
theorem head_enter {P : Program} (h : HeadFits P) (h1 : P.laysLater = false) (h2 : P.bearsReflect = false) (h3 : P.doorFits [] = true) : P.mayEnter = true := by
  obtain ⟨rest, h⟩ := head_behind h
  unfold Program.mayEnter
  rw [h]
  simp only [strip_cut, h1, h2, h3]
  rfl
set_option maxRecDepth 100000 in
theorem head : HeadFits Tryz.prog := head_of _ rfl (by kernel_rfl) (by kernel_rfl) (by kernel_rfl) (by kernel_rfl)
theorem enter : Tryz.prog.mayEnter = true := head_enter head (by kernel_rfl) (by kernel_rfl) (by kernel_rfl)
theorem finals : Tryz.prog.liftsFinal = false := head_final head
theorem made : Tryz.prog.make = some .cut := head_make head
theorem laidOuts : laidOutB Tryz.prog = true := by kernel_rfl
theorem mapsRows : mapsRowed Tryz.prog = true := by kernel_rfl
theorem plainKeysB : Tryz.prog.plainKeys = true := by kernel_rfl
theorem heard : Tryz.prog.stopsHeard = true := by kernel_rfl
end Go.Proofs.YtofdjfdnckmmmaaGreatDoor
