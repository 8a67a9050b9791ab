/-
  THE WALKS of coin's tape.count, laplace.
-/
import Derived.Test.YtmpdbmaokbhcjaaDoorKf
set_option linter.unusedVariables false
set_option linter.unusedSimpArgs false
namespace Go.Proofs.YtmpdbmaokbhcjaaDoor
open Go.RowKit Kn

def CoQ (a b n : Nat) (l : List Bool) (res : Option (Nat × List Bool)) : Prop := ∃ f, res = countF a b f n l ∧ l.length + 80 ≤ f ∧ n + l.length ≤ 512
theorem countF_step (a b f n : Nat) (l : List Bool) : countF a b (f + 1) n l = match expP a b l with
    | none => none
    | some (true, l') => countF a b f (n + 1) l'
    | some (false, l') => some (n, l') := rfl
theorem coQ_step {a b n : Nat} {l : List Bool} {res : Option (Nat × List Bool)} (h : CoQ a b n l res) :
    (expP a b l = none → res = none) ∧ (∀ l2, expP a b l = some (false, l2) → res = some (n, l2)) ∧ (∀ l2, expP a b l = some (true, l2) → l2.length + 1 ≤ l.length → CoQ a b (n + 1) l2 res) := by
  obtain ⟨f, e, hf, hn⟩ := h
  obtain ⟨f', rfl⟩ : ∃ f', f = f' + 1 := ⟨f - 1, by omega⟩
  rw [countF_step] at e
  refine ⟨fun p => by rw [p] at e; exact e, fun l2 p => by rw [p] at e; exact e, fun l2 p hl => ?_⟩
  rw [p] at e
  exact ⟨f', e, by omega, by omega⟩
set_option maxRecDepth 100000 in
set_option maxHeartbeats 16000000 in
theorem count_any (b0 : Nat) (s : ByteArray) (o : Option (List Bool)) (a b : Nat) (w : World) (hs : s.size ≤ 64) (n0 : 1 ≤ b) (n1 : b ≤ 1000) (a0 : 1 ≤ a) (a1 : a ≤ 1000) (h : Tp w b0 s o) :
    Calls Tryd.prog 129 #[.pointer (some ⟨b0, 0, none⟩), .int .i64 a, .int .i64 b] w fun e w' => ∃ v : Nat, v ≤ 513 ∧ e = .returned (.int .i64 v) ∧ Tp w' b0 s (restO (countP a b) o) ∧ (∀ l c r', o = some l → countP a b l = some (c, r') → v = c) ∧ Below b0 w w' := by
  have EX := Lib.hid (fun o' w' h' => exp_any b0 s o' a b w' hs n0 n1 (by omega) h')
  have H0 := Lib.hid h
  have HS := Lib.hid hs
  clear h
  go_enter Tryd.func129, Tryd.ntmps129
  go_wp2
  go_loopw [7] (fun nv wr => ∃ (n : Nat) (o' : Option (List Bool)), n ≤ 513 ∧ nv = .int .i64 n ∧ Hid (Tp wr b0 s o') ∧ Hid (Below b0 w wr) ∧ Hid (LkR (countP a b) (CoQ a b n) o o') ∧ Hid (∀ l, o' = some l → n + l.length ≤ 512)) (fun _ wr => tpM s b0 wr)
  case atStart =>
    have hl : ∀ l, o = some l → l.length ≤ 512 := fun l e => by subst e; have := H0.out.len; have := HS.out; omega
    exact ⟨0, o, by omega, rfl, H0, Lib.hid (Below.refl _ _), Lib.hid (LkR.start (fun l e => ⟨600, rfl, by have := hl l e; omega, by have := hl l e; omega⟩)), Lib.hid (fun l e => by have := hl l e; omega)⟩
  case round =>
    obtain ⟨n, o', hn, rfl, T, B, R, LN⟩ := hrel
    cases o' with
    | none =>
      have hq := T.out.flag
      simp only [Option.isNone_none] at hq
      go_wp2
      go_ret
      have L := R.out.over n
      exact ⟨n, hn, rfl, by rw [L.2]; exact T.out, L.1, B.out⟩
    | some l =>
      have hq := T.out.flag
      simp only [Option.isNone_some] at hq
      have hln := LN.out l rfl
      go_wp2_with fail
      refine (EX.out _ _ T.out).mono ?_
      rintro e w1 ⟨v, rfl, T1, hv, hb⟩
      have T2 := Lib.hid T1
      have HV := Lib.hid hv
      have B2 := Lib.hid (B.out.trans hb)
      clear hv T1 hb hq
      cases v
      · go_wp2
        go_ret
        rcases rest_ways (expP a b) l with ⟨w1', w2'⟩ | ⟨c, l2, w1', w2'⟩
        · have L := R.out.fail (fun res hq => (coQ_step hq).1 w1') n
          exact ⟨n, hn, rfl, by rw [L.2, ← w2']; exact T2.out, L.1, B2.out⟩
        · have hc := HV.out l c l2 rfl w1'
          subst hc
          have L := R.out.fin (fun res hq => (coQ_step hq).2.1 l2 w1')
          exact ⟨n, hn, rfl, by rw [L.2, ← w2']; exact T2.out, L.1, B2.out⟩
      · go_wp2
        go_roundw
        case rel =>
          rcases rest_ways (expP a b) l with ⟨w1', w2'⟩ | ⟨c, l2, w1', w2'⟩
          · rw [w2'] at T2
            exact ⟨n + 1, none, by omega, by go_num, T2, B2, Lib.hid (R.out.step (fun res hq => Or.inl ⟨rfl, (coQ_step hq).1 w1'⟩)), Lib.hid (fun l e => absurd e (by simp))⟩
          · have hc := HV.out l c l2 rfl w1'
            subst hc
            rw [w2'] at T2
            have hl := (exp_len n0 w1').2 a0
            exact ⟨n + 1, some l2, by omega, by go_num, T2, B2, Lib.hid (R.out.step (fun res hq => Or.inr ⟨l2, rfl, (coQ_step hq).2.2 l2 w1' hl⟩)), Lib.hid (fun l' e => by simp only [Option.some.injEq] at e; subst e; omega)⟩
        case measure =>
          show tpM s b0 w1 < tpM s b0 wr
          rcases rest_ways (expP a b) l with ⟨w1', w2'⟩ | ⟨c, l2, w1', w2'⟩
          · rw [w2'] at T2
            rw [tpM_none T2.out, tpM_some T.out]; omega
          · have hc := HV.out l c l2 rfl w1'
            rw [w2'] at T2
            have hl := (exp_len n0 w1').2 a0
            rw [tpM_some T2.out, tpM_some T.out]; omega
def LaQ (a b : Nat) (l : List Bool) (res : Option (Int × List Bool)) : Prop := ∃ f, res = lapF a b f l ∧ l.length + 80 ≤ f
/-- how often, and the sign's bit -/
def cbP (a b : Nat) (l : List Bool) : Option ((Nat × Bool) × List Bool) := match countP a b l with
  | none => none
  | some (_, []) => none
  | some (n, c :: r) => some ((n, c), r)
theorem lapF_step (a b f : Nat) (l : List Bool) : lapF a b (f + 1) l = match cbP a b l with
    | none => none
    | some ((n, false), r) => some ((n : Int), r)
    | some ((n, true), r) => if 0 < n then some (-(n : Int), r) else lapF a b f r := by
  show (match countP a b l with
    | none => none
    | some (_, []) => none
    | some (n, false :: r) => some ((n : Int), r)
    | some (n, true :: r) => if 0 < n then some (-(n : Int), r) else lapF a b f r) = _
  unfold cbP
  cases countP a b l with
  | none => rfl
  | some p =>
    obtain ⟨n, r⟩ := p
    cases r with
    | nil => rfl
    | cons c r => cases c <;> rfl
theorem cb_len {a b : Nat} {l r : List Bool} {p : Nat × Bool} (hb : 1 ≤ b) (h : cbP a b l = some (p, r)) : r.length + 1 ≤ l.length := by
  unfold cbP at h
  cases hc : countP a b l with
  | none => rw [hc] at h; exact absurd h (by simp)
  | some q =>
    obtain ⟨n, r'⟩ := q
    rw [hc] at h
    have := count_len hb _ _ _ hc
    cases r' with
    | nil => exact absurd h (by simp)
    | cons c r'' =>
      simp only [Option.some.injEq, Prod.mk.injEq] at h
      rw [← h.2]; simpa using this
/-- both calls together -/
theorem cb_of {a b : Nat} {l : List Bool} {n : Nat} {c : Bool} (h1 : ∀ l' c' r', some l = some l' → countP a b l' = some (c', r') → n = c')
    (h2 : ∀ l' c' r', restO (countP a b) (some l) = some l' → bitP l' = some (c', r') → c = c') :
    (cbP a b l = none ∧ (restO (countP a b) (some l)).bind (fun l => (bitP l).map (·.2)) = none) ∨ ∃ r, cbP a b l = some ((n, c), r) ∧ (restO (countP a b) (some l)).bind (fun l => (bitP l).map (·.2)) = some r := by
  rcases rest_ways (countP a b) l with ⟨e1, e2⟩ | ⟨v, l2, e1, e2⟩
  · left; unfold cbP; rw [e1, e2]; exact ⟨rfl, rfl⟩
  · rw [e2] at h2 ⊢
    have hn := h1 l v l2 rfl e1
    subst hn
    unfold cbP; rw [e1]
    cases l2 with
    | nil => left; exact ⟨rfl, rfl⟩
    | cons c' r =>
      have := h2 _ c' r rfl rfl
      subst this
      right; exact ⟨r, rfl, rfl⟩
theorem laQ_step {a b : Nat} {l : List Bool} {res : Option (Int × List Bool)} (h : LaQ a b l res) :
    (cbP a b l = none → res = none) ∧ (∀ n r, cbP a b l = some ((n, false), r) → res = some ((n : Int), r)) ∧ (∀ n r, cbP a b l = some ((n, true), r) → 0 < n → res = some (-(n : Int), r)) ∧
    (∀ n r, cbP a b l = some ((n, true), r) → ¬ 0 < n → r.length + 1 ≤ l.length → LaQ a b r res) := by
  obtain ⟨f, e, hf⟩ := h
  obtain ⟨f', rfl⟩ : ∃ f', f = f' + 1 := ⟨f - 1, by omega⟩
  rw [lapF_step] at e
  refine ⟨fun p => by rw [p] at e; exact e, fun n r p => by rw [p] at e; exact e, fun n r p hn => by rw [p] at e; simp only [if_pos hn] at e; exact e, fun n r p hn hl => ?_⟩
  rw [p] at e
  simp only [if_neg hn] at e
  exact ⟨f', e, by omega⟩
set_option maxRecDepth 100000 in
set_option maxHeartbeats 16000000 in
theorem laplace_any (b0 : Nat) (s : ByteArray) (o : Option (List Bool)) (a b : Nat) (w : World) (hs : s.size ≤ 64) (n0 : 1 ≤ b) (n1 : b ≤ 1000) (a0 : 1 ≤ a) (a1 : a ≤ 1000) (h : Tp w b0 s o) :
    Calls Tryd.prog 104 #[.pointer (some ⟨b0, 0, none⟩), .int .i64 a, .int .i64 b] w fun e w' => ∃ v : Int, e = .returned (.int .i64 v) ∧ Tp w' b0 s (restO (lapP a b) o) ∧ (∀ l c r', o = some l → lapP a b l = some (c, r') → v = c) ∧ Below b0 w w' := by
  have CO := Lib.hid (fun o' w' h' => count_any b0 s o' a b w' hs n0 n1 a0 a1 h')
  have BI := Lib.hid (fun o' w' h' => bit_any b0 s o' w' hs h')
  have H0 := Lib.hid h
  have HS := Lib.hid hs
  clear h
  go_enter Tryd.func104, Tryd.ntmps104
  go_wp2
  go_loopw [] (fun wr => ∃ (o' : Option (List Bool)), Hid (Tp wr b0 s o') ∧ Hid (Below b0 w wr) ∧ Hid (LkR (lapP a b) (LaQ a b) o o')) (fun wr => tpM s b0 wr)
  case atStart =>
    have hl : ∀ l, o = some l → l.length ≤ 512 := fun l e => by subst e; have := H0.out.len; have := HS.out; omega
    exact ⟨o, H0, Lib.hid (Below.refl _ _), Lib.hid (LkR.start (fun l e => ⟨600, rfl, by have := hl l e; omega⟩))⟩
  case round =>
    obtain ⟨o', T, B, R⟩ := hrel
    cases o' with
    | none =>
      have hq := T.out.flag
      simp only [Option.isNone_none] at hq
      go_wp2
      go_ret
      have L := R.out.over 0
      exact ⟨0, rfl, by rw [L.2]; exact T.out, L.1, B.out⟩
    | some l =>
      have hq := T.out.flag
      simp only [Option.isNone_some] at hq
      go_wp2_with fail
      refine (CO.out _ _ T.out).mono ?_
      rintro e w1 ⟨n, hn, rfl, T1, hv, hb⟩
      have T2 := Lib.hid T1
      have HV := Lib.hid hv
      have B2 := Lib.hid (B.out.trans hb)
      clear hv T1 hb hq
      go_wp2_with fail
      refine (BI.out _ _ T2.out).mono ?_
      rintro e w2 ⟨c, rfl, hv, T1, hb⟩
      have T3 := Lib.hid T1
      have HC := Lib.hid (cb_of HV.out hv)
      have B3 := Lib.hid (B2.out.trans hb)
      clear hv T1 hb
      cases c
      · have e0 : ((false.toNat : Nat) : Int) = 0 := rfl
        rw [e0]
        go_wp2
        go_ret
        rcases HC.out with ⟨c1, c2⟩ | ⟨r, c1, c2⟩
        · have L := R.out.fail (fun res hq => (laQ_step hq).1 c1) (n : Int)
          exact ⟨n, rfl, by rw [L.2, ← c2]; exact T3.out, L.1, B3.out⟩
        · have L := R.out.fin (fun res hq => (laQ_step hq).2.1 n r c1)
          exact ⟨n, rfl, by rw [L.2, ← c2]; exact T3.out, L.1, B3.out⟩
      · have e0 : ((true.toNat : Nat) : Int) = 1 := rfl
        rw [e0]
        by_cases hpos : (0 : Int) < (n : Int)
        · go_wp2
          go_ret
          rcases HC.out with ⟨c1, c2⟩ | ⟨r, c1, c2⟩
          · have L := R.out.fail (fun res hq => (laQ_step hq).1 c1) (-(n : Int))
            exact ⟨-n, rfl, by rw [L.2, ← c2]; exact T3.out, L.1, B3.out⟩
          · have L := R.out.fin (fun res hq => (laQ_step hq).2.2.1 n r c1 (by omega))
            exact ⟨-n, rfl, by rw [L.2, ← c2]; exact T3.out, L.1, B3.out⟩
        · go_wp2
          go_roundw
          case rel =>
            rcases HC.out with ⟨c1, c2⟩ | ⟨r, c1, c2⟩
            · rw [c2] at T3
              exact ⟨none, T3, B3, Lib.hid (R.out.step (fun res hq => Or.inl ⟨rfl, (laQ_step hq).1 c1⟩))⟩
            · rw [c2] at T3
              exact ⟨some r, T3, B3, Lib.hid (R.out.step (fun res hq => Or.inr ⟨r, rfl, (laQ_step hq).2.2.2 n r c1 (by omega) (cb_len n0 c1)⟩))⟩
          case measure =>
            show tpM s b0 w2 < tpM s b0 wr
            rcases HC.out with ⟨c1, c2⟩ | ⟨r, c1, c2⟩
            · rw [c2] at T3
              rw [tpM_none T3.out, tpM_some T.out]; omega
            · rw [c2] at T3
              have := cb_len n0 c1
              rw [tpM_some T3.out, tpM_some T.out]; omega
end Go.Proofs.YtmpdbmaokbhcjaaDoor
