/-
  THE WALK of coin's tape.exp.
-/
import Derived.Test.YtmpdbmaokbhcjaaDoorKd
set_option linter.unusedVariables false
set_option linter.unusedSimpArgs false
namespace Go.Proofs.YtmpdbmaokbhcjaaDoor
open Go.RowKit Kn

def ExS (m q b : Nat) (P : List Bool → Option (Bool × List Bool)) : Prop := ∀ l, P l = match loopE m l with
    | none => none
    | some (false, l') => some (false, l')
    | some (true, l') => restP q b l'
def ExQ (m i : Nat) (l : List Bool) (res : Option (Bool × List Bool)) : Prop := res = loopE (m - i) l
theorem exQ_un {m i : Nat} {l : List Bool} {res : Option (Bool × List Bool)} (h : ExQ m i l res) (hi : i < m) : res = match restP 1 1 l with
    | none => none
    | some (false, l') => some (false, l')
    | some (true, l') => loopE (m - (i + 1)) l' := by
  unfold ExQ at h
  obtain ⟨k, hk⟩ : ∃ k, m - i = k + 1 := ⟨m - i - 1, by omega⟩
  have e : m - (i + 1) = k := by omega
  rw [hk] at h; rw [e, h]; rfl
theorem exQ_none {m i : Nat} {l : List Bool} {res : Option (Bool × List Bool)} (h : ExQ m i l res) (hi : i < m) (p : restP 1 1 l = none) : res = none := by
  rw [exQ_un h hi, p]
theorem exQ_false {m i : Nat} {l l2 : List Bool} {res : Option (Bool × List Bool)} (h : ExQ m i l res) (hi : i < m) (p : restP 1 1 l = some (false, l2)) : res = some (false, l2) := by
  rw [exQ_un h hi, p]
theorem exQ_true {m i : Nat} {l l2 : List Bool} {res : Option (Bool × List Bool)} (h : ExQ m i l res) (hi : i < m) (p : restP 1 1 l = some (true, l2)) : ExQ m (i + 1) l2 res := by
  rw [exQ_un h hi, p]; rfl
theorem exp_of {m q b : Nat} {P : List Bool → Option (Bool × List Bool)} {o o' : Option (List Bool)} (h : Lf (loopE m) o false o') (hX : ExS m q b P) : Lf P o false o' := by
  obtain ⟨h1, h2⟩ := h
  cases o with
  | none => exact ⟨fun l c r e => absurd e (by simp), h2⟩
  | some l =>
    cases hp : loopE m l with
    | none =>
      have e : P l = none := by rw [hX l, hp]
      refine ⟨fun l' c r e' k => ?_, ?_⟩
      · simp only [Option.some.injEq] at e'; subst e'; rw [e] at k; exact absurd k (by simp)
      · rw [← h2]; show (P l).map (·.2) = (loopE m l).map (·.2); rw [e, hp]
    | some p =>
      obtain ⟨c, l2⟩ := p
      have hc := h1 l c l2 rfl hp
      subst hc
      have e : P l = some (false, l2) := by rw [hX l, hp]
      refine ⟨fun l' c r e' k => ?_, ?_⟩
      · simp only [Option.some.injEq] at e'; subst e'; rw [e] at k; simp only [Option.some.injEq, Prod.mk.injEq] at k; exact k.1
      · rw [← h2]; show (P l).map (·.2) = (loopE m l).map (·.2); rw [e, hp]
theorem exp_last {m q b : Nat} {P : List Bool → Option (Bool × List Bool)} {o o' : Option (List Bool)} {v : Bool} (R : LkR (loopE m) (ExQ m m) o o') (hv : ∀ l c r, o' = some l → restP q b l = some (c, r) → v = c) (hX : ExS m q b P) : Lf P o v (restO (restP q b) o') := by
  cases o' with
  | none =>
    have hn : ∀ l, o = some l → P l = none := fun l e => by
      rcases R.2 l e with ⟨-, h⟩ | ⟨l1, h, -⟩
      · rw [hX l, h]
      · exact absurd h (by simp)
    exact ⟨fun l c r e h2 => by rw [hn l e] at h2; exact absurd h2 (by simp), restO_none hn⟩
  | some l1 =>
    cases o with
    | none => exact absurd (R.1 rfl) (by simp)
    | some l0 =>
      have hn : loopE m l0 = some (true, l1) := by
        rcases R.2 l0 rfl with ⟨h, -⟩ | ⟨l', h, q⟩
        · exact absurd h (by simp)
        · simp only [Option.some.injEq] at h; subst h
          unfold ExQ at q
          rw [Nat.sub_self] at q
          exact q
      have e : P l0 = restP q b l1 := by rw [hX l0, hn]
      refine ⟨fun l c r e' k => ?_, ?_⟩
      · simp only [Option.some.injEq] at e'; subst e'; rw [e] at k; exact hv l1 c r rfl k
      · show (P l0).map (·.2) = (restP q b l1).map (·.2); rw [e]
set_option maxRecDepth 100000 in
set_option maxHeartbeats 16000000 in
theorem exp_any (b0 : Nat) (s : ByteArray) (o : Option (List Bool)) (a b : Nat) (w : World) (hs : s.size ≤ 64) (n0 : 1 ≤ b) (n1 : b ≤ 1000) (a1 : a ≤ 1000000) (h : Tp w b0 s o) :
    Calls Tryd.prog 68 #[.pointer (some ⟨b0, 0, none⟩), .int .i64 a, .int .i64 b] w fun e w' => ∃ v : Bool, e = .returned (.bool v) ∧ Tp w' b0 s (restO (expP a b) o) ∧ (∀ l c r', o = some l → expP a b l = some (c, r') → v = c) ∧ Below b0 w w' := by
  have R1 := Lib.hid (fun o' w' h' => rest_any b0 s o' 1 1 w' hs (by decide) (by decide) h')
  have R2 := Lib.hid (fun o' w' h' => rest_any b0 s o' (a % b) b w' hs n0 n1 h')
  have hm : a / b ≤ a := Nat.div_le_self _ _
  have hr : a % b < b := Nat.mod_lt _ n0
  have e1 : IntKind.i64.wrap ((a : Int) / (b : Int)) = ((a / b : Nat) : Int) := by rw [← Int.natCast_ediv]; generalize a / b = z at *; rw [IntWalk.i64_in _ (by omega)]
  have e2 : IntKind.i64.wrap ((a : Int) % (b : Int)) = ((a % b : Nat) : Int) := by rw [← Int.natCast_emod]; generalize a % b = z at *; rw [IntWalk.i64_in _ (by omega)]
  have e3 : (a : Int) % (b : Int) = ((a % b : Nat) : Int) := (Int.natCast_emod a b).symm
  have hb0 : (b : Int) ≠ 0 := by omega
  have hX : Hid (ExS (a / b) (a % b) b (expP a b)) := Lib.hid (fun l => rfl)
  generalize a / b = m at *
  generalize a % b = q at *
  have H0 := Lib.hid h
  clear h
  go_enter Tryd.func68, Tryd.ntmps68
  go_wp2
  go_loopw [10] (fun iv wr => ∃ (i : Nat) (o' : Option (List Bool)), i ≤ m ∧ iv = .int .i64 i ∧ Hid (Tp wr b0 s o') ∧ Hid (Below b0 w wr) ∧ Hid (LkR (loopE m) (ExQ m i) o o')) (fun iv _ => m - (intOf iv).toNat)
  case atStart => exact ⟨0, o, by omega, rfl, H0, Lib.hid (Below.refl _ _), Lib.hid (LkR.start (fun l e => rfl))⟩
  case round =>
    obtain ⟨i, o', hi, rfl, T, B, R⟩ := hrel
    by_cases hlt : i < m
    · have hlt2 : (i : Int) < (m : Int) := by omega
      cases o' with
      | none =>
        have hq := T.out.flag
        simp only [Option.isNone_none] at hq
        go_wp2
        go_ret
        have L := exp_of (R.out.over false) hX.out
        exact ⟨false, rfl, by rw [L.2]; exact T.out, L.1, B.out⟩
      | some l =>
        have hq := T.out.flag
        simp only [Option.isNone_some] at hq
        go_wp2_with fail
        refine (R1.out _ _ T.out).mono ?_
        rintro e w1 ⟨v, rfl, T1, hv, hb⟩
        have T2 := Lib.hid T1
        have HV := Lib.hid hv
        have B2 := Lib.hid (B.out.trans hb)
        clear hv T1 hb hq
        cases v
        · go_wp2
          go_ret
          rcases rest_ways (restP 1 1) l with ⟨w1', w2'⟩ | ⟨c, l2, w1', w2'⟩
          · have L := exp_of (R.out.fail (fun res hq => exQ_none hq hlt w1') false) hX.out
            exact ⟨false, rfl, by rw [L.2, ← w2']; exact T2.out, L.1, B2.out⟩
          · have hc := HV.out l c l2 rfl w1'
            subst hc
            have L := exp_of (R.out.fin (fun res hq => exQ_false hq hlt w1')) hX.out
            exact ⟨false, rfl, by rw [L.2, ← w2']; exact T2.out, L.1, B2.out⟩
        · go_wp2
          go_roundw
          case rel =>
            rcases rest_ways (restP 1 1) l with ⟨w1', w2'⟩ | ⟨c, l2, w1', w2'⟩
            · rw [w2'] at T2
              exact ⟨i + 1, none, by omega, by go_num, T2, B2, Lib.hid (R.out.step (fun res hq => Or.inl ⟨rfl, exQ_none hq hlt w1'⟩))⟩
            · have hc := HV.out l c l2 rfl w1'
              subst hc
              rw [w2'] at T2
              exact ⟨i + 1, some l2, by omega, by go_num, T2, B2, Lib.hid (R.out.step (fun res hq => Or.inr ⟨l2, rfl, exQ_true hq hlt w1'⟩))⟩
          case measure => simp [intOf]; omega
    · have him : i = m := by omega
      subst him
      go_wp2_with fail
      refine (R2.out _ _ T.out).mono ?_
      rintro e w1 ⟨v, rfl, T1, hv, hb⟩
      have T2 := Lib.hid T1
      have HV := Lib.hid hv
      have B2 := Lib.hid (B.out.trans hb)
      clear hv T1 hb
      go_wp2
      go_ret
      have L := exp_last R.out HV.out hX.out
      exact ⟨v, rfl, by rw [L.2]; exact T2.out, L.1, B2.out⟩
end Go.Proofs.YtmpdbmaokbhcjaaDoor
