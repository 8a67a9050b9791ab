/-
  THE WALKS of coin's tape.below, part.
-/
import Derived.Test.YtmpdbmaokbhcjaaDoorKb
import Derived.Test.YtmpdbmaokbhcjaaDoorKl
set_option linter.unusedVariables false
set_option linter.unusedSimpArgs false
namespace Go.Proofs.YtmpdbmaokbhcjaaDoor
open Go.RowKit Kn

def restO {α : Type} (p : List Bool → Option (α × List Bool)) (o : Option (List Bool)) : Option (List Bool) := o.bind fun l => (p l).map (·.2)
/-- how much is left, as the walk's measure -/
def tpM (s : ByteArray) (b : Nat) (w : World) : Nat := match w.cell? ⟨b, 2, none⟩ with
  | some (.bool true) => 0
  | _ => 8 * s.size - (intOf ((w.cell? ⟨b, 1, none⟩).getD (.int .i64 0))).toNat + 1
theorem tpM_none {s : ByteArray} {b : Nat} {w : World} (h : Tp w b s none) : tpM s b w = 0 := by
  obtain ⟨i, hi, X⟩ := h
  unfold tpM; rw [X.cells.2.2.1]
theorem tpM_some {s : ByteArray} {b : Nat} {w : World} {l : List Bool} (h : Tp w b s (some l)) : tpM s b w = l.length + 1 := by
  obtain ⟨i, hi, -, X⟩ := h
  unfold tpM; rw [X.cells.2.2.1, X.cells.2.1]
  simp only [Option.getD_some, intOf]
  omega
theorem Tp.flag {w : World} {b : Nat} {s : ByteArray} {o : Option (List Bool)} (h : Tp w b s o) : w.cell? ⟨b, 2, none⟩ = some (.bool o.isNone) := by
  match o, h with
  | none, ⟨i, hi, X⟩ => exact X.cells.2.2.1
  | some l, ⟨i, hi, he, X⟩ => exact X.cells.2.2.1
theorem Tp.len {w : World} {b : Nat} {s : ByteArray} {l : List Bool} (h : Tp w b s (some l)) : l.length ≤ 8 * s.size := by
  obtain ⟨i, hi, -⟩ := h; omega
theorem takeB_step (k x : Nat) (c : Bool) (l : List Bool) : takeB (k + 1) x (c :: l) = takeB k (2 * x + c.toNat) l := rfl
theorem belowF_step (n k f : Nat) (l : List Bool) : belowF n k (f + 1) l = match takeB k 0 l with
    | none => none
    | some (x, r) => if x < n then some (x, r) else belowF n k f r := rfl
/-- where the loop stands: what the whole tells is what is still to be read tells -/
def BlR (n k : Nat) (o o' : Option (List Bool)) : Prop := (o = none → o' = none) ∧ ∀ l0, o = some l0 → ((o' = none ∧ belowF n k 600 l0 = none) ∨ ∃ l f, o' = some l ∧ belowF n k 600 l0 = belowF n k f l ∧ l.length + 80 ≤ f)
theorem BlR.start {n k : Nat} {o : Option (List Bool)} (h : ∀ l, o = some l → l.length ≤ 512) : BlR n k o o :=
  ⟨id, fun l0 e => Or.inr ⟨l0, 600, e, rfl, by have := h l0 e; omega⟩⟩
theorem BlR.over {n k : Nat} {o : Option (List Bool)} {l : List Bool} (h : BlR n k o (some l)) (ht : takeB k 0 l = none) : BlR n k o none := by
  refine ⟨fun _ => rfl, fun l0 e => Or.inl ⟨rfl, ?_⟩⟩
  rcases h.2 l0 e with ⟨h1, -⟩ | ⟨l1, f, h1, h2, h3⟩
  · exact absurd h1 (by simp)
  · simp only [Option.some.injEq] at h1; subst h1
    obtain ⟨f', rfl⟩ : ∃ f', f = f' + 1 := ⟨f - 1, by omega⟩
    rw [h2, belowF_step, ht]
theorem BlR.on {n k : Nat} {o : Option (List Bool)} {l l2 : List Bool} {x : Nat} (h : BlR n k o (some l)) (ht : takeB k 0 l = some (x, l2)) (hx : ¬ x < n) (hl : l2.length < l.length) : BlR n k o (some l2) := by
  refine ⟨fun e => absurd (h.1 e) (by simp), fun l0 e => Or.inr ?_⟩
  rcases h.2 l0 e with ⟨h1, -⟩ | ⟨l1, f, h1, h2, h3⟩
  · exact absurd h1 (by simp)
  · simp only [Option.some.injEq] at h1; subst h1
    obtain ⟨f', rfl⟩ : ∃ f', f = f' + 1 := ⟨f - 1, by omega⟩
    refine ⟨l2, f', rfl, ?_, by omega⟩
    rw [h2, belowF_step, ht]; simp only [if_neg hx]
theorem BlR.done {n k : Nat} {o : Option (List Bool)} {l l2 : List Bool} {x : Nat} (h : BlR n k o (some l)) (ht : takeB k 0 l = some (x, l2)) (hx : x < n) : ∃ l0, o = some l0 ∧ belowF n k 600 l0 = some (x, l2) := by
  match o, h with
  | none, h => exact absurd (h.1 rfl) (by simp)
  | some l0, h =>
    refine ⟨l0, rfl, ?_⟩
    rcases h.2 l0 rfl with ⟨h1, -⟩ | ⟨l1, f, h1, h2, h3⟩
    · exact absurd h1 (by simp)
    · simp only [Option.some.injEq] at h1; subst h1
      obtain ⟨f', rfl⟩ : ∃ f', f = f' + 1 := ⟨f - 1, by omega⟩
      rw [h2, belowF_step, ht]; simp only [if_pos hx]
theorem pow_20 {X j k : Nat} (h : X < 2 ^ j) (hj : j ≤ k) (hk : k ≤ 20) : X < 1048576 :=
  Nat.lt_of_lt_of_le h (Nat.pow_le_pow_right (by decide) (Nat.le_trans hj hk))
set_option maxRecDepth 100000 in
set_option maxHeartbeats 16000000 in
theorem below_any (b : Nat) (s : ByteArray) (o : Option (List Bool)) (n : Nat) (w : World) (hs : s.size ≤ 64) (n0 : 1 ≤ n) (n1 : n ≤ 1000000) (h : Tp w b s o) :
    Calls Tryd.prog 99 #[.pointer (some ⟨b, 0, none⟩), .int .i64 n] w fun e w' => ∃ v : Nat, e = .returned (.int .i64 v) ∧ (∀ l c r, o = some l → belowP n l = some (c, r) → v = c) ∧ Tp w' b s (restO (belowP n) o) ∧ Below b w w' := by
  have hk : Lib.bitLen (n - 1) ≤ 20 := Lib.bitLen_le (n - 1) 20 (by decide) (by omega)
  have LEN := Lib.hid (fun w' => len_any ((n : Int) - 1) (by omega) (by omega) w')
  have eL : ((n : Int) - 1).toNat = n - 1 := by omega
  rw [eL] at LEN
  have hpos := Lib.hid (fun h2 : 2 ≤ n => bitLen_pos h2)
  have hone : Hid (n = 1 → Lib.bitLen (n - 1) = 0) := Lib.hid (by rintro rfl; exact bitLen_0)
  have HP : Hid (∀ l, belowP n l = belowF n (Lib.bitLen (n - 1)) 600 l) := Lib.hid (fun l => rfl)
  generalize Lib.bitLen (n - 1) = k at *
  have BIT := Lib.hid (fun o' w' h' => bit_any b s o' w' hs h')
  have H0 := Lib.hid h
  have HS := Lib.hid hs
  clear h eL
  go_enter Tryd.func99, Tryd.ntmps99
  go_wp2
  go_loopw [] (fun wr => ∃ o', Hid (Tp wr b s o') ∧ Hid (Below b w wr) ∧ Hid (BlR n k o o')) (fun wr => tpM s b wr)
  case atStart => exact ⟨o, H0, Lib.hid (Below.refl _ _), Lib.hid (BlR.start (fun l e => by subst e; have := H0.out.len; have := HS.out; omega))⟩
  case round =>
    obtain ⟨o', T, B, R⟩ := hrel
    cases o' with
    | none =>
      have hq := T.out.flag
      simp only [Option.isNone_none] at hq
      go_wp2
      go_ret
      have hno : ∀ l, o = some l → belowP n l = none := fun l e => by
        rw [HP.out]
        rcases R.out.2 l e with ⟨-, h⟩ | ⟨l1, f, h, -⟩
        · exact h
        · exact absurd h (by simp)
      refine ⟨0, rfl, fun l c r e h => by rw [hno l e] at h; exact absurd h (by simp), ?_, B.out⟩
      have : restO (belowP n) o = none := by
        cases o with
        | none => rfl
        | some l => show ((belowP n l).map (·.2)) = none; rw [hno l rfl]; rfl
      rw [this]; exact T.out
    | some l =>
      have hq := T.out.flag
      simp only [Option.isNone_some] at hq
      go_wp2_with (go_at_call 127; refine (LEN.out _).mono ?_; rintro e w' ⟨rfl, rfl⟩)
      clear hq
      go_loopw [5, 15] (fun x i wr' => ∃ (j X : Nat) (o2 : Option (List Bool)), j ≤ k ∧ x = .int .i64 X ∧ i = .int .i64 j ∧ X < 2 ^ j ∧ Hid (Tp wr' b s o2) ∧ Hid (Below b w wr') ∧ Hid ((o2 = none ∧ takeB k 0 l = none) ∨ ∃ l2, o2 = some l2 ∧ takeB k 0 l = takeB (k - j) X l2)) (fun _ i _ => k - (intOf i).toNat)
      case atStart => exact ⟨0, 0, some l, by omega, rfl, rfl, by decide, T, B, Lib.hid (Or.inr ⟨l, rfl, rfl⟩)⟩
      case round =>
        obtain ⟨j, X, o2, hj, rfl, rfl, hX, T2, B2, R2⟩ := hrel
        have hX2 := pow_20 hX hj hk
        by_cases hlt : j < k
        · have hlt2 : (j : Int) < (k : Int) := by omega
          have hX3 : 2 * X + 1 < 2 ^ (j + 1) := by rw [Nat.pow_succ]; omega
          have HX := Lib.hid hX3
          clear hX hX3
          go_wp2_with fail
          refine (BIT.out o2 _ T2.out).mono ?_
          rintro e w1 ⟨v, rfl, hv, T3, hb⟩
          have T4 := Lib.hid T3
          have HV := Lib.hid hv
          have B3 := Lib.hid (B2.out.trans hb)
          have hv1 : v.toNat ≤ 1 := by cases v <;> decide
          clear hv T3 hb
          go_wp2
          go_roundw
          case rel =>
            refine ⟨j + 1, 2 * X + v.toNat, _, by omega, by push_cast; rfl, by go_num, by have := HX.out; omega, T4, B3, Lib.hid ?_⟩
            rcases R2.out with ⟨rfl, h⟩ | ⟨l2, rfl, h⟩
            · exact Or.inl ⟨rfl, h⟩
            · obtain ⟨m, hm⟩ : ∃ m, k - j = m + 1 := ⟨k - j - 1, by omega⟩
              have hm2 : k - (j + 1) = m := by omega
              rw [hm] at h
              rw [hm2]
              cases l2 with
              | nil => exact Or.inl ⟨rfl, h⟩
              | cons c l3 =>
                have := HV.out _ c l3 rfl rfl
                subst this
                exact Or.inr ⟨l3, rfl, h⟩
          case measure => simp [intOf]; omega
        · have hjk : j = k := by omega
          subst hjk
          cases o2 with
          | none =>
            have hq := T2.out.flag
            simp only [Option.isNone_none] at hq
            have ht : takeB j 0 l = none := by
              rcases R2.out with ⟨-, h⟩ | ⟨l2, h, -⟩
              · exact h
              · exact absurd h (by simp)
            have R3 := Lib.hid (R.out.over ht)
            clear ht
            by_cases hx : (X : Int) < (n : Int)
            all_goals
              go_wp2
              go_roundw
              case rel => exact ⟨none, T2, B2, R3⟩
              case measure => rw [tpM_none T2.out, tpM_some T.out]; omega
          | some l2 =>
            have hq := T2.out.flag
            simp only [Option.isNone_some] at hq
            have ht : takeB j 0 l = some (X, l2) := by
              rcases R2.out with ⟨h, -⟩ | ⟨l3, h, h2⟩
              · exact absurd h (by simp)
              · simp only [Option.some.injEq] at h; subst h
                rw [h2, Nat.sub_self]; rfl
            have HTK := Lib.hid ht
            clear ht
            by_cases hx : (X : Int) < (n : Int)
            · obtain ⟨l0, e0, hb0⟩ := R.out.done HTK.out (by omega)
              have E0 := Lib.hid e0
              have HB0 := Lib.hid hb0
              clear e0 hb0
              go_wp2
              go_ret
              have e0 := E0.out
              subst e0
              have hpp : belowP n l0 = some (X, l2) := by rw [HP.out]; exact HB0.out
              refine ⟨X, rfl, fun l c r e h => by simp only [Option.some.injEq] at e; subst e; rw [hpp] at h; simp only [Option.some.injEq, Prod.mk.injEq] at h; exact h.1, ?_, B2.out⟩
              have : restO (belowP n) (some l0) = some l2 := by show (belowP n l0).map (·.2) = _; rw [hpp]; rfl
              rw [this]; exact T2.out
            · have hlen : l2.length < l.length := by
                have := Kn.take_len j 0 l HTK.out
                have h1 : 1 ≤ j := by
                  apply Classical.byContradiction; intro h0
                  have : j = 0 := by omega
                  subst this
                  have : X = 0 := by omega
                  omega
                omega
              have R3 := Lib.hid (R.out.on HTK.out (by omega) hlen)
              have HL := Lib.hid hlen
              clear hlen
              go_wp2
              go_roundw
              case rel => exact ⟨some l2, T2, B2, R3⟩
              case measure => rw [tpM_some T2.out, tpM_some T.out]; have := HL.out; omega
theorem part_any (b : Nat) (s : ByteArray) (o : Option (List Bool)) (a n : Nat) (w : World) (hs : s.size ≤ 64) (n0 : 1 ≤ n) (n1 : n ≤ 1000000) (h : Tp w b s o) :
    Calls Tryd.prog 101 #[.pointer (some ⟨b, 0, none⟩), .int .i64 a, .int .i64 n] w fun e w' => ∃ v : Bool, e = .returned (.bool v) ∧ (∀ l c r, o = some l → partP a n l = some (c, r) → v = c) ∧ Tp w' b s (restO (partP a n) o) ∧ Below b w w' := by
  have BE := Lib.hid (below_any b s o n w hs n0 n1 h)
  clear h
  go_enter Tryd.func101, Tryd.ntmps101
  go_wp2_with fail
  refine BE.out.mono ?_
  rintro e w1 ⟨v, rfl, hv, T, hb⟩
  have HV := Lib.hid hv
  have HT := Lib.hid T
  have HB := Lib.hid hb
  clear hv T hb
  go_wp2
  go_ret
  refine ⟨decide (v < a), rfl, fun l c r e h => ?_, ?_, HB.out⟩
  · unfold partP at h
    cases hb : belowP n l with
    | none => rw [hb] at h; exact absurd h (by simp)
    | some p =>
      obtain ⟨x, r'⟩ := p
      rw [hb] at h
      simp only [Option.some.injEq, Prod.mk.injEq] at h
      rw [HV.out l x r' e hb, ← h.1]
  · have : restO (partP a n) o = restO (belowP n) o := by
      cases o with
      | none => rfl
      | some l =>
        show (partP a n l).map (·.2) = (belowP n l).map (·.2)
        unfold partP
        cases belowP n l <;> rfl
    rw [this]; exact HT.out
end Go.Proofs.YtmpdbmaokbhcjaaDoor
