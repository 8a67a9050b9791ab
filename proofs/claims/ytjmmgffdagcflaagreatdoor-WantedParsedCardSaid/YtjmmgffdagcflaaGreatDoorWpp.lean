/-
  PLAIN: what wanted.Parse tells; its map, laid.
-/
import Derived.Test.YtjmmgffdagcflaaGreatDoorWpn
set_option linter.unusedVariables false
set_option linter.unusedSimpArgs false
namespace Go.Proofs.YtjmmgffdagcflaaGreatDoor
open Go.RowKit Go.MapKept Go.ChangeMaps Nt Fm Fl

/-- the flags: minus, plus, blank, zero, alt -/
abbrev Fg := Bool × Bool × Bool × Bool × Bool
def fpS : Fg → List UInt8 → Fg × List UInt8
  | st, [] => (st, [])
  | (mi, pl, bl, ze, al), c :: l =>
    if c = 45 then fpS (true, pl, bl, ze, al) l else if c = 43 then fpS (mi, true, bl, ze, al) l else if c = 32 then fpS (mi, pl, true, ze, al) l
    else if c = 48 then fpS (mi, pl, bl, true, al) l else if c = 35 then fpS (mi, pl, bl, ze, true) l else ((mi, pl, bl, ze, al), c :: l)
/-- the pieces behind the sign of a hundredth -/
def wp1 (t : List UInt8) : Fg × List UInt8 := fpS (false, false, false, false, false) t
def wpW (t : List UInt8) : Nat := wnN (wp1 t).2
def wp2 (t : List UInt8) : List UInt8 := wnR (wp1 t).2
def wpD (t : List UInt8) : Bool := Lib.hasPrefix (wp2 t) [46]
def wpP (t : List UInt8) : Int := if wpD t = true then (wnN (Lib.trimPrefix (wp2 t) [46]) : Int) else -1
def wp4 (t : List UInt8) : List UInt8 := if wpD t = true then wnR (Lib.trimPrefix (wp2 t) [46]) else wp2 t
def vbB : List UInt8 → Bool
  | [c] => c == 101 || c == 102 || c == 103 || c == 97
  | _ => false
def vbC : List UInt8 → Int
  | c :: _ => (c.toNat : Int)
  | [] => 0
def wpE (s : List UInt8) : Int :=
  if Lib.hasPrefix s [37] = true then
    (if vbB (wp4 (Lib.trimPrefix s [37])) = true then (if 200 < wpW (Lib.trimPrefix s [37]) ∨ 100 < wpP (Lib.trimPrefix s [37]) then 1 else 0) else 5)
  else 5
def spz : Spc := ⟨0, false, false, false, false, false, 0, 0⟩
def wpG (t : List UInt8) : Spc := ⟨vbC (wp4 t), (wp1 t).1.1, (wp1 t).1.2.1, (wp1 t).1.2.2.1, (wp1 t).1.2.2.2.1, (wp1 t).1.2.2.2.2, wpW t, wpP t⟩
def wpF (s : List UInt8) : Spc := if wpE s = 0 then wpG (Lib.trimPrefix s [37]) else spz
/-- the map's entries, to the fields of the struct at b -/
def mES (b : Nat) : Array MapEntry :=
  #[⟨.int .u8 45, .pointer (some ⟨b, 1, none⟩), 0⟩, ⟨.int .u8 43, .pointer (some ⟨b, 2, none⟩), 1⟩, ⟨.int .u8 32, .pointer (some ⟨b, 3, none⟩), 2⟩, ⟨.int .u8 48, .pointer (some ⟨b, 4, none⟩), 3⟩, ⟨.int .u8 35, .pointer (some ⟨b, 5, none⟩), 4⟩]
theorem mES_find (b : Nat) (c : Int) : Instr.findNow (.int .u8) (.int .u8 c) (mES b).toList 0 =
    if c = 45 then some (some (0, .pointer (some ⟨b, 1, none⟩))) else if c = 43 then some (some (1, .pointer (some ⟨b, 2, none⟩))) else if c = 32 then some (some (2, .pointer (some ⟨b, 3, none⟩)))
    else if c = 48 then some (some (3, .pointer (some ⟨b, 4, none⟩))) else if c = 35 then some (some (4, .pointer (some ⟨b, 5, none⟩))) else some none := by
  unfold mES
  simp only [Instr.findNow, Instr.sameNow]
  by_cases h1 : c = 45
  · simp [h1]
  by_cases h2 : c = 43
  · simp [h2]
  by_cases h3 : c = 32
  · simp [h3]
  by_cases h4 : c = 48
  · simp [h4]
  by_cases h5 : c = 35
  · simp [h5]
  rw [if_neg h1, if_neg h2, if_neg h3, if_neg h4, if_neg h5]
  have e1 : (c == 45) = false := by simp [h1]
  have e2 : (c == 43) = false := by simp [h2]
  have e3 : (c == 32) = false := by simp [h3]
  have e4 : (c == 48) = false := by simp [h4]
  have e5 : (c == 35) = false := by simp [h5]
  simp [e1, e2, e3, e4, e5]
theorem below_setBlock {B : Nat} {w w' : World} {b : Nat} {o : Obj} (h : Below B w w') (hb : B ≤ b) : Below B w (setBlock w' b o) := by
  refine ⟨h.os, h.tape, h.output, ?_, fun k hk => ?_⟩
  · have := h.size; simpa [setBlock] using this
  · rw [← h.block k hk]
    unfold setBlock
    simp [show b ≠ k by omega]
theorem Bx8.setBlock {w : World} {b : Nat} {T : TypeId} {v : Int} {mi pl bl ze al : Bool} {wd pr : Int} (h : Bx8 w b T v mi pl bl ze al wd pr) {b' : Nat} (hb : b' ≠ b) (o : Obj) : Bx8 (setBlock w b' o) b T v mi pl bl ze al wd pr := by
  unfold Bx8 ChangeMaps.setBlock at *
  simp [hb]
  exact h
/-- the five entries laid -/
theorem wp_ins (w : World) (b b6 : Nat) (hb : b ≠ b6) (hm : w.heap[b6]? = some (.map #[] 0)) (B0 : Nat) (hB0 : B0 ≤ b6) :
    ∃ V1 V2 V3 V4 V5, (Instr.mapUpdate 92 (.map (some b6)) (.int .u8 45) (.pointer (some ⟨b, 1, none⟩))).run Tryz.prog w = .ok () V1 ∧
      (Instr.mapUpdate 92 (.map (some b6)) (.int .u8 43) (.pointer (some ⟨b, 2, none⟩))).run Tryz.prog V1 = .ok () V2 ∧
      (Instr.mapUpdate 92 (.map (some b6)) (.int .u8 32) (.pointer (some ⟨b, 3, none⟩))).run Tryz.prog V2 = .ok () V3 ∧
      (Instr.mapUpdate 92 (.map (some b6)) (.int .u8 48) (.pointer (some ⟨b, 4, none⟩))).run Tryz.prog V3 = .ok () V4 ∧
      (Instr.mapUpdate 92 (.map (some b6)) (.int .u8 35) (.pointer (some ⟨b, 5, none⟩))).run Tryz.prog V4 = .ok () V5 ∧
      V5.heap[b6]? = some (.map (mES b) 5) ∧ (∀ k, k ≠ b6 → V5.heap[k]? = w.heap[k]?) ∧ Below B0 w V5 := by
  have ht := Tryz.underlying92
  have hk := Tryz.underlying5
  have m1 := heap_setBlock_same hm (.map (#[].push ⟨.int .u8 45, .pointer (some ⟨b, 1, none⟩), 0⟩) (0 + 1))
  have r1 := ins_raw ht hk hm 45 (.pointer (some ⟨b, 1, none⟩)) rfl
  have m2 := heap_setBlock_same m1 (.map ((#[].push ⟨.int .u8 45, .pointer (some ⟨b, 1, none⟩), 0⟩).push ⟨.int .u8 43, .pointer (some ⟨b, 2, none⟩), 0 + 1⟩) (0 + 1 + 1))
  have r2 := ins_raw ht hk m1 43 (.pointer (some ⟨b, 2, none⟩)) rfl
  have m3 := heap_setBlock_same m2 (.map (((#[].push ⟨.int .u8 45, .pointer (some ⟨b, 1, none⟩), 0⟩).push ⟨.int .u8 43, .pointer (some ⟨b, 2, none⟩), 0 + 1⟩).push ⟨.int .u8 32, .pointer (some ⟨b, 3, none⟩), 0 + 1 + 1⟩) (0 + 1 + 1 + 1))
  have r3 := ins_raw ht hk m2 32 (.pointer (some ⟨b, 3, none⟩)) rfl
  have m4 := heap_setBlock_same m3 (.map ((((#[].push ⟨.int .u8 45, .pointer (some ⟨b, 1, none⟩), 0⟩).push ⟨.int .u8 43, .pointer (some ⟨b, 2, none⟩), 0 + 1⟩).push ⟨.int .u8 32, .pointer (some ⟨b, 3, none⟩), 0 + 1 + 1⟩).push ⟨.int .u8 48, .pointer (some ⟨b, 4, none⟩), 0 + 1 + 1 + 1⟩) (0 + 1 + 1 + 1 + 1))
  have r4 := ins_raw ht hk m3 48 (.pointer (some ⟨b, 4, none⟩)) rfl
  have m5 := heap_setBlock_same m4 (.map (mES b) 5)
  have r5 := ins_raw ht hk m4 35 (.pointer (some ⟨b, 5, none⟩)) rfl
  refine ⟨_, _, _, _, _, r1, r2, r3, r4, r5, m5, ?_, ?_⟩
  · intro k hk
    unfold ChangeMaps.setBlock
    simp [Ne.symm hk]
  · exact below_setBlock (below_setBlock (below_setBlock (below_setBlock (below_setBlock (Below.refl _ _) hB0) hB0) hB0) hB0) hB0
theorem wp_look (w : World) (b b6 : Nat) (hm : w.heap[b6]? = some (.map (mES b) 5)) (c : Int) :
    (Instr.lookup 92 (.map (some b6)) (.int .u8 c) false).run Tryz.prog w =
      .ok (if c = 45 then .pointer (some ⟨b, 1, none⟩) else if c = 43 then .pointer (some ⟨b, 2, none⟩) else if c = 32 then .pointer (some ⟨b, 3, none⟩) else if c = 48 then .pointer (some ⟨b, 4, none⟩) else if c = 35 then .pointer (some ⟨b, 5, none⟩) else .pointer none) w := by
  have ht := Tryz.underlying92
  have hk := Tryz.underlying5
  have hz : (zeroValue 91).run Tryz.prog w = .ok (.pointer none) w := by first | exact Tryz.zeroValue91 w | simp [go_sem] | kernel_rfl
  have hf := mES_find b c
  split at hf
  · rename_i h; rw [look_raw ht hk hm c _ hz hf, if_pos h]
  rename_i g1
  split at hf
  · rename_i h; rw [look_raw ht hk hm c _ hz hf, if_neg g1, if_pos h]
  rename_i g2
  split at hf
  · rename_i h; rw [look_raw ht hk hm c _ hz hf, if_neg g1, if_neg g2, if_pos h]
  rename_i g3
  split at hf
  · rename_i h; rw [look_raw ht hk hm c _ hz hf, if_neg g1, if_neg g2, if_neg g3, if_pos h]
  rename_i g4
  split at hf
  · rename_i h; rw [look_raw ht hk hm c _ hz hf, if_neg g1, if_neg g2, if_neg g3, if_neg g4, if_pos h]
  rename_i g5
  rw [look_raw ht hk hm c _ hz hf, if_neg g1, if_neg g2, if_neg g3, if_neg g4, if_neg g5]
end Go.Proofs.YtjmmgffdagcflaaGreatDoor
