/-
  THE WALK of wanted.number; a map of bytes to pointers, as it lies in memory.
-/
import Derived.Test.YtjmmgffdagcflaaGreatDoorWfd
import Derived.Test.YtjmmgffdagcflaaGreatDoorHr
import Derived.ChangeMaps4
import Derived.ChangeMaps5
import Derived.BigQuiet
import Derived.Deep.QuietTactic
set_option linter.unusedVariables false
set_option linter.unusedSimpArgs false
namespace Go.Proofs.YtjmmgffdagcflaaGreatDoor
open Go.RowKit Go.MapKept Go.ChangeMaps Nt Fm Fl

theorem ins_raw {P : Program} {w : World} {t k e : TypeId} {b : Nat} {es : Array MapEntry} {clock : Nat} (ht : P.underlying t = some (.map k e)) (hk : P.underlying k = some (.int .u8)) (hb : w.heap[b]? = some (.map es clock)) (c : Int) (val : Value)
    (h1 : Instr.findNow (.int .u8) (.int .u8 c) es.toList 0 = some none) :
    (Instr.mapUpdate t (.map (some b)) (.int .u8 c) val).run P w = .ok () (setBlock w b (.map (es.push ⟨.int .u8 c, val, clock⟩) (clock + 1))) := by
  have hkey : IsKey (.int .u8) (.int .u8 c) := by simp [IsKey]
  simp [Instr.mapUpdate, run_underlying ht, MapKept.run_getObj_map hb, run_checkKey hk hkey, run_findKey hk h1, MapKept.run_setObj_map _ hb, Result.andThen, setBlock]
theorem look_raw {P : Program} {w : World} {t k e : TypeId} {b : Nat} {es : Array MapEntry} {clock : Nat} (ht : P.underlying t = some (.map k e)) (hk : P.underlying k = some (.int .u8)) (hb : w.heap[b]? = some (.map es clock)) (c : Int) (z : Value) (hz : (zeroValue e).run P w = .ok z w)
    {a : Option (Nat × Value)} (h1 : Instr.findNow (.int .u8) (.int .u8 c) es.toList 0 = some a) :
    (Instr.lookup t (.map (some b)) (.int .u8 c) false).run P w = .ok (match a with | some (_, v) => v | none => z) w := by
  have hkey : IsKey (.int .u8) (.int .u8 c) := by simp [IsKey]
  cases a with
  | none => simp [Instr.lookup, run_underlying ht, MapKept.run_getObj_map hb, run_checkKey hk hkey, run_findKey hk h1, Result.andThen, hz]
  | some p => obtain ⟨i, v⟩ := p; simp [Instr.lookup, run_underlying ht, MapKept.run_getObj_map hb, run_checkKey hk hkey, run_findKey hk h1, Result.andThen]
/-- a number, limited -/
def wnF (n : Nat) : List UInt8 → Nat
  | [] => n
  | c :: l => wnF (min (10 * n + (c.toNat - 48)) 100000) l
def wnD (s : List UInt8) : List UInt8 := s.takeWhile (fun c => decide (48 ≤ c.toNat ∧ c.toNat ≤ 57))
def wnR (s : List UInt8) : List UInt8 := s.dropWhile (fun c => decide (48 ≤ c.toNat ∧ c.toNat ≤ 57))
def wnN (s : List UInt8) : Nat := wnF 0 (wnD s)
theorem wnR_le (s : List UInt8) : (wnR s).length ≤ s.length := (List.dropWhile_sublist _).length_le
theorem wnF_le : ∀ (l : List UInt8) (n : Nat), n ≤ 100000 → wnF n l ≤ 100000
  | [], n, h => h
  | c :: l, n, h => wnF_le l _ (by omega)
theorem w_tail (c : UInt8) (l : List UInt8) (n : Nat) (hn : n = l.length + 1) : (⟨(c :: l).toArray⟩ : ByteArray).extract 1 n = ⟨l.toArray⟩ := by
  subst hn
  apply ByteArray.ext
  simp [ByteArray.data_extract]
def sLn : Value → Nat
  | .string s => s.size
  | _ => 0
set_option maxRecDepth 100000 in
set_option maxHeartbeats 4000000 in
theorem wnumber_any (s : List UInt8) (S : ByteArray) (hS : S = ⟨s.toArray⟩) (hl : s.length ≤ 1000000000000000) (w : World) :
    Calls Tryz.prog 60 #[.string S] w fun e w' => e = .returned (.tuple #[.int .i64 (wnN s : Int), .string ⟨(wnR s).toArray⟩]) ∧ Below w.heap.size w w' := by
  have hz0 : Hid (wnF 0 (wnD s) = wnN s ∧ wnR s = wnR s) := Lib.hid ⟨rfl, rfl⟩
  generalize wnN s = N at *
  generalize hR : wnR s = R at *
  have hz1 : Hid (wnF 0 (wnD s) = N ∧ wnR s = R) := Lib.hid ⟨hz0.out.1, hR⟩
  clear hz0 hR
  have B0 : Hid (Below w.heap.size w w) := Lib.hid (Below.refl _ _)
  go_enter Tryz.func60, Tryz.ntmps60
  go_wp2
  go_loopw [0, 4] (fun u n wr => ∃ (l : List UInt8) (T : ByteArray) (m : Nat), u = .string T ∧ Hid (T = ⟨l.toArray⟩ ∧ True) ∧ n = .int .i64 (m : Int) ∧ m ≤ 100000 ∧ l.length ≤ 1000000000000000 ∧ Hid (wnF m (wnD l) = N ∧ wnR l = R) ∧ Hid (Below w.heap.size w wr)) (fun u _ _ => sLn u)
  case atStart => exact ⟨s, S, 0, rfl, Lib.hid ⟨hS, trivial⟩, rfl, by omega, hl, hz1, B0⟩
  case round =>
    obtain ⟨l, T, m, rfl, hT, rfl, hm, hl, HR, B⟩ := hrel
    have zT : T.size = l.length := by rw [hT.out.1]; rfl
    cases l with
    | nil =>
      have hE : T.toList.isEmpty = true := by rw [ByteArray.toList_eq, hT.out.1]; rfl
      have hT2 : T = ⟨#[]⟩ := hT.out.1
      have h1 : m = N := by have := HR.out.1; exact this
      have h2 : R = [] := by have := HR.out.2; exact this.symm
      subst h1 h2 hT2
      go_wp2
      go_ret2
      exact ⟨rfl, B.out⟩
    | cons c l =>
      obtain ⟨k, hk⟩ : ∃ k, k = l.length := ⟨_, rfl⟩
      rw [List.length_cons, ← hk] at zT
      have hE : T.toList.isEmpty = false := by rw [ByteArray.toList_eq, hT.out.1]; rfl
      have hT0 : 0 < T.size := by omega
      have h0 : ((T[0]'hT0).toNat : Int) = (c.toNat : Int) := by
        have : ∀ (D : ByteArray) (h : 0 < D.size), D = ⟨(c :: l).toArray⟩ → D[0]'h = c := by
          intro D h e; subst e; rfl
        rw [this T hT0 hT.out.1]
      have hx : T.extract 1 (k + 1) = ⟨l.toArray⟩ := by rw [hT.out.1]; exact w_tail c l _ (by omega)
      have hcb := c.toNat_lt
      obtain ⟨T2, hT2⟩ : ∃ T2 : ByteArray, T2 = ⟨l.toArray⟩ := ⟨_, rfl⟩
      rw [← hT2] at hx
      have zT2 : T2.size = k := by rw [hT2, hk]; rfl
      by_cases hd : 48 ≤ c.toNat ∧ c.toNat ≤ 57
      · have e1 : wnF (min (10 * m + (c.toNat - 48)) 100000) (wnD l) = N ∧ wnR l = R := by
          have := HR.out
          unfold wnD wnR at this
          rw [List.takeWhile_cons_of_pos (by simpa using hd), List.dropWhile_cons_of_pos (by simpa using hd)] at this
          exact this
        have H1 := Lib.hid e1
        have HT2 := Lib.hid (⟨hT2, trivial⟩ : T2 = ⟨l.toArray⟩ ∧ True)
        have hlk : l.length ≤ 1000000000000000 := by rw [List.length_cons] at hl; omega
        have hkk : k ≤ 1000000000000000 := by omega
        obtain ⟨d, hdd⟩ : ∃ d, d = c.toNat := ⟨_, rfl⟩
        rw [← hdd] at h0 hd H1 hcb
        obtain ⟨hd1, hd2⟩ := hd
        have g1 : (48 : Int) ≤ (d : Int) := by omega
        have g2 : (d : Int) ≤ 57 := by omega
        have hmn : Hid (min (10 * (m : Int) + ((d : Int) - 48)) 100000 = ((min (10 * m + (d - 48)) 100000 : Nat) : Int) ∧ min (10 * m + (d - 48)) 100000 ≤ 100000) := Lib.hid (by omega)
        clear e1 HR hT hT2 hdd hl hk
        go_wp2
        go_roundw
        case rel => exact ⟨l, T2, min (10 * m + (d - 48)) 100000, rfl, HT2, by rw [← hmn.out.1], hmn.out.2, hlk, H1, B⟩
        case measure =>
          show T2.size < T.size
          omega
      · have e1 : m = N ∧ c :: l = R := by
          have := HR.out
          unfold wnD wnR at this
          rw [List.takeWhile_cons_of_neg (by simpa using hd), List.dropWhile_cons_of_neg (by simpa using hd)] at this
          exact this
        obtain ⟨rfl, rfl⟩ := e1
        obtain ⟨d, hdd⟩ : ∃ d, d = c.toNat := ⟨_, rfl⟩
        rw [← hdd] at h0 hd hcb
        have HT1 := hT
        clear HR hT hT2 hdd hl hk hx zT2
        by_cases hd1 : 48 ≤ d
        · have g1 : (48 : Int) ≤ (d : Int) := by omega
          have g2 : ¬ (d : Int) ≤ 57 := by omega
          go_wp2
          go_ret2
          exact ⟨by rw [HT1.out.1]; rfl, B.out⟩
        · have g1 : ¬ (48 : Int) ≤ (d : Int) := by omega
          go_wp2
          go_ret2
          exact ⟨by rw [HT1.out.1]; rfl, B.out⟩
end Go.Proofs.YtjmmgffdagcflaaGreatDoor
