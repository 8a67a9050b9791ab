/-
  THE WALKS of coin's tape.rest.
-/
import Derived.Test.YtmpdbmaokbhcjaaDoorKc
set_option linter.unusedVariables false
set_option linter.unusedSimpArgs false
namespace Go.Proofs.YtmpdbmaokbhcjaaDoor
open Go.RowKit Kn

/-- where a loop stands: what the whole program P0 tells is what Q says of what is still left -/
def LkR {β : Type} (P0 : List Bool → Option (β × List Bool)) (Q : List Bool → Option (β × List Bool) → Prop) (o o' : Option (List Bool)) : Prop :=
  (o = none → o' = none) ∧ ∀ l0, o = some l0 → ((o' = none ∧ P0 l0 = none) ∨ ∃ l, o' = some l ∧ Q l (P0 l0))
/-- what a call of it leaves -/
def Lf {β : Type} (P0 : List Bool → Option (β × List Bool)) (o : Option (List Bool)) (v : β) (o' : Option (List Bool)) : Prop :=
  (∀ l c r, o = some l → P0 l = some (c, r) → v = c) ∧ restO P0 o = o'
section
variable {β : Type} {P0 : List Bool → Option (β × List Bool)} {Q Q2 : List Bool → Option (β × List Bool) → Prop} {o : Option (List Bool)}
theorem LkR.start (h : ∀ l, o = some l → Q l (P0 l)) : LkR P0 Q o o := ⟨id, fun l0 e => Or.inr ⟨l0, e, h l0 e⟩⟩
theorem restO_none (h : ∀ l, o = some l → P0 l = none) : restO P0 o = none := by
  cases o with
  | none => rfl
  | some l => show (P0 l).map (·.2) = none; rw [h l rfl]; rfl
theorem LkR.over (h : LkR P0 Q o none) (v : β) : Lf P0 o v none := by
  have hn : ∀ l, o = some l → P0 l = none := fun l e => by
    rcases h.2 l e with ⟨-, h⟩ | ⟨l1, h, -⟩
    · exact h
    · exact absurd h (by simp)
  exact ⟨fun l c r e h2 => by rw [hn l e] at h2; exact absurd h2 (by simp), restO_none hn⟩
theorem LkR.fail {l : List Bool} (h : LkR P0 Q o (some l)) (k : ∀ res, Q l res → res = none) (v : β) : Lf P0 o v none := by
  have hn : ∀ l, o = some l → P0 l = none := fun l0 e => by
    rcases h.2 l0 e with ⟨h, -⟩ | ⟨l1, h, q⟩
    · exact absurd h (by simp)
    · simp only [Option.some.injEq] at h; subst h; exact k _ q
  exact ⟨fun l c r e h2 => by rw [hn l e] at h2; exact absurd h2 (by simp), restO_none hn⟩
theorem LkR.fin {l l2 : List Bool} {v : β} (h : LkR P0 Q o (some l)) (k : ∀ res, Q l res → res = some (v, l2)) : Lf P0 o v (some l2) := by
  cases o with
  | none => exact absurd (h.1 rfl) (by simp)
  | some l0 =>
    have hn : P0 l0 = some (v, l2) := by
      rcases h.2 l0 rfl with ⟨h, -⟩ | ⟨l1, h, q⟩
      · exact absurd h (by simp)
      · simp only [Option.some.injEq] at h; subst h; exact k _ q
    refine ⟨fun l c r e h2 => ?_, ?_⟩
    · simp only [Option.some.injEq] at e; subst e
      rw [hn] at h2; simp only [Option.some.injEq, Prod.mk.injEq] at h2; exact h2.1
    · show (P0 l0).map (·.2) = _; rw [hn]; rfl
theorem LkR.step {l : List Bool} {o2 : Option (List Bool)} (h : LkR P0 Q o (some l)) (k : ∀ res, Q l res → (o2 = none ∧ res = none) ∨ ∃ l2, o2 = some l2 ∧ Q2 l2 res) : LkR P0 Q2 o o2 := by
  refine ⟨fun e => absurd (h.1 e) (by simp), fun l0 e => ?_⟩
  rcases h.2 l0 e with ⟨h, -⟩ | ⟨l1, h, q⟩
  · exact absurd h (by simp)
  · simp only [Option.some.injEq] at h; subst h; exact k _ q
theorem LkR.keep (h : LkR P0 Q o none) : LkR P0 Q2 o none := by
  refine ⟨h.1, fun l0 e => ?_⟩
  rcases h.2 l0 e with h | ⟨l1, h, -⟩
  · exact Or.inl h
  · exact absurd h (by simp)
end
/-- what a program leaves of a tape that has not ended -/
theorem rest_ways {β : Type} (P : List Bool → Option (β × List Bool)) (l : List Bool) : (P l = none ∧ restO P (some l) = none) ∨ ∃ v l2, P l = some (v, l2) ∧ restO P (some l) = some l2 := by
  cases h : P l with
  | none => left; exact ⟨rfl, by show (P l).map (·.2) = none; rw [h]; rfl⟩
  | some p => right; exact ⟨p.1, p.2, rfl, by show (P l).map (·.2) = _; rw [h]; rfl⟩
def kM (z : Int) : Nat := if z = 1 then 1 else 0
theorem kM_ne {z : Int} (h : z ≠ 1) : kM z = 0 := if_neg h
theorem kM_one : kM 1 = 1 := rfl
theorem restF_step (r b f k : Nat) (l : List Bool) : restF r b (f + 1) k l = match partP r (b * k) l with
    | none => none
    | some (true, l') => restF r b f (k + 1) l'
    | some (false, l') => some (decide (k % 2 = 1), l') := rfl
def ReQ (r b k : Nat) (l : List Bool) (res : Option (Bool × List Bool)) : Prop := ∃ f, res = restF r b f k l ∧ ((k = 1 ∧ f = 600 ∧ l.length ≤ 512) ∨ (2 ≤ k ∧ l.length + 80 ≤ f ∧ k + l.length ≤ 514))
theorem reQ_step {r b k : Nat} {l : List Bool} {res : Option (Bool × List Bool)} (h : ReQ r b k l res) :
    (partP r (b * k) l = none → res = none) ∧ (∀ l2, partP r (b * k) l = some (false, l2) → res = some (decide (k % 2 = 1), l2)) ∧
    (∀ l2, partP r (b * k) l = some (true, l2) → 1 ≤ k → (2 ≤ k → l2.length + 1 ≤ l.length) → l2.length ≤ l.length → ReQ r b (k + 1) l2 res) := by
  obtain ⟨f, e, hf⟩ := h
  obtain ⟨f', rfl⟩ : ∃ f', f = f' + 1 := ⟨f - 1, by omega⟩
  rw [restF_step] at e
  refine ⟨fun p => by rw [p] at e; exact e, fun l2 p => by rw [p] at e; exact e, fun l2 p k0 h2 hl => ?_⟩
  rw [p] at e
  refine ⟨f', e, Or.inr ?_⟩
  rcases hf with ⟨h1, h3, h4⟩ | ⟨h1, h3, h4⟩
  · exact ⟨by omega, by omega, by omega⟩
  · have := h2 h1
    exact ⟨by omega, by omega, by omega⟩
set_option maxRecDepth 100000 in
set_option maxHeartbeats 16000000 in
theorem rest_any (b0 : Nat) (s : ByteArray) (o : Option (List Bool)) (r b : Nat) (w : World) (hs : s.size ≤ 64) (n0 : 1 ≤ b) (n1 : b ≤ 1000) (h : Tp w b0 s o) :
    Calls Tryd.prog 105 #[.pointer (some ⟨b0, 0, none⟩), .int .i64 r, .int .i64 b] w fun e w' => ∃ v : Bool, e = .returned (.bool v) ∧ Tp w' b0 s (restO (restP r b) o) ∧ (∀ l c r', o = some l → restP r b l = some (c, r') → v = c) ∧ Below b0 w w' := by
  have PA := Lib.hid (fun o' n w' n0 n1 h' => part_any b0 s o' r n w' hs n0 n1 h')
  have H0 := Lib.hid h
  have HS := Lib.hid hs
  clear h
  go_enter Tryd.func105, Tryd.ntmps105
  go_wp2
  go_loopw [7] (fun kv wr => ∃ (k : Nat) (o' : Option (List Bool)), 1 ≤ k ∧ k ≤ 515 ∧ kv = .int .i64 k ∧ Hid (Tp wr b0 s o') ∧ Hid (Below b0 w wr) ∧ Hid (LkR (restP r b) (ReQ r b k) o o') ∧ Hid (∀ l, o' = some l → l.length ≤ 512 ∧ (2 ≤ k → k + l.length ≤ 514))) (fun kv wr => 2 * tpM s b0 wr + kM (intOf kv))
  case atStart =>
    have hl : ∀ l, o = some l → l.length ≤ 512 := fun l e => by subst e; have := H0.out.len; have := HS.out; omega
    exact ⟨1, o, by omega, by omega, rfl, H0, Lib.hid (Below.refl _ _), Lib.hid (LkR.start (fun l e => ⟨600, rfl, Or.inl ⟨rfl, rfl, hl l e⟩⟩)), Lib.hid (fun l e => ⟨hl l e, fun h => absurd h (by decide)⟩)⟩
  case round =>
    obtain ⟨k, o', k0, k1, rfl, T, B, R, LN⟩ := hrel
    cases o' with
    | none =>
      have hq := T.out.flag
      simp only [Option.isNone_none] at hq
      go_wp2
      go_ret
      have L := R.out.over ((k : Int) % 2 == 1)
      exact ⟨_, rfl, by rw [L.2]; exact T.out, L.1, B.out⟩
    | some l =>
      have hq := T.out.flag
      simp only [Option.isNone_some] at hq
      have hbk : b * k ≤ 1000 * 515 := Nat.mul_le_mul n1 k1
      have hbk0 : 1 ≤ b * k := Nat.mul_pos n0 k0
      have P2 := Lib.hid (PA.out (some l) (b * k) wr hbk0 (by omega) T.out)
      have e : ((b * k : Nat) : Int) = (b : Int) * (k : Int) := by push_cast; rfl
      have h0 : 0 ≤ (b : Int) * (k : Int) := by omega
      have h1 : (b : Int) * (k : Int) ≤ 1000000 := by omega
      rw [e] at P2
      have HBK := Lib.hid hbk0
      clear hbk hbk0 e
      go_wp2_with fail
      refine P2.out.mono ?_
      rintro e w1 ⟨v, rfl, hv, T1, hb⟩
      have T2 := Lib.hid T1
      have HV := Lib.hid hv
      have B2 := Lib.hid (B.out.trans hb)
      clear hv T1 hb hq P2
      obtain ⟨ln1, ln2⟩ := LN.out l rfl
      cases v
      · go_wp2
        go_ret
        rcases rest_ways (partP r (b * k)) l with ⟨w1', w2'⟩ | ⟨c, l2, w1', w2'⟩
        · have L := R.out.fail (fun res hq => (reQ_step hq).1 w1') ((k : Int) % 2 == 1)
          exact ⟨_, rfl, by rw [L.2, ← w2']; exact T2.out, L.1, B2.out⟩
        · have hc := HV.out l c l2 rfl w1'
          subst hc
          have L := R.out.fin (fun res hq => (reQ_step hq).2.1 l2 w1')
          have ev : ((k : Int) % 2 == 1) = decide (k % 2 = 1) := by
            by_cases h : k % 2 = 1
            · rw [decide_eq_true h, beq_iff_eq]; omega
            · rw [decide_eq_false h, beq_eq_false_iff_ne]; omega
          refine ⟨((k : Int) % 2 == 1), rfl, by rw [L.2, ← w2']; exact T2.out, ?_, B2.out⟩
          rw [ev]; exact L.1
      · go_wp2
        go_roundw
        case rel =>
          rcases rest_ways (partP r (b * k)) l with ⟨w1', w2'⟩ | ⟨c, l2, w1', w2'⟩
          · rw [w2'] at T2
            exact ⟨k + 1, none, by omega, by omega, by go_num, T2, B2, Lib.hid (R.out.step (fun res hq => Or.inl ⟨rfl, (reQ_step hq).1 w1'⟩)), Lib.hid (fun l e => absurd e (by simp))⟩
          · have hc := HV.out l c l2 rfl w1'
            subst hc
            rw [w2'] at T2
            have hl := part_len w1'
            have h2 : 2 ≤ k → l2.length + 1 ≤ l.length := fun h => hl.2 (Nat.le_trans h (Nat.le_mul_of_pos_left k n0))
            exact ⟨k + 1, some l2, by omega, by omega, by go_num, T2, B2, Lib.hid (R.out.step (fun res hq => Or.inr ⟨l2, rfl, (reQ_step hq).2.2 l2 w1' k0 h2 hl.1⟩)),
              Lib.hid (fun l' e => by simp only [Option.some.injEq] at e; subst e; exact ⟨by omega, fun _ => by by_cases hk : 2 ≤ k <;> omega⟩)⟩
        case measure =>
          show 2 * tpM s b0 w1 + kM ((k : Int) + 1) < 2 * tpM s b0 wr + kM (k : Int)
          rw [kM_ne (show (k : Int) + 1 ≠ 1 by omega)]
          rcases rest_ways (partP r (b * k)) l with ⟨w1', w2'⟩ | ⟨c, l2, w1', w2'⟩
          · rw [w2'] at T2
            rw [tpM_none T2.out, tpM_some T.out]; omega
          · rw [w2'] at T2
            have hl := part_len w1'
            have h2 : 2 ≤ k → l2.length + 1 ≤ l.length := fun h => hl.2 (Nat.le_trans h (Nat.le_mul_of_pos_left k n0))
            rw [tpM_some T2.out, tpM_some T.out]
            by_cases hk1 : k = 1
            · subst hk1
              have : kM ((1 : Nat) : Int) = 1 := rfl
              omega
            · have := h2 (by omega); omega
end Go.Proofs.YtmpdbmaokbhcjaaDoor
