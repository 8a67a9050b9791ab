/-
  PLAIN: what the law CoinPlaces asks.
-/
import Derived.Test.YtfnchcogdmpojaaKt
import Derived.Test.YtfnchcogdmpojaaKq
set_option linter.unusedVariables false
set_option linter.unusedSimpArgs false
namespace Go.Proofs.Ytfnchcogdmpojaa
open Go.RowKit Kn

theorem lapT_err {a b i : Int} {s : ByteArray} (h : (lapT a b s i).2.2 ≠ 0) : (lapT a b s i).1 = 0 ∧ (lapT a b s i).2.1 = 0 := by
  unfold lapT smp at *
  split
  · exact ⟨rfl, rfl⟩
  · split
    · exact ⟨rfl, rfl⟩
    · rename_i h1 h2
      rw [if_neg h1, if_neg h2] at h
      cases hp : lapP a.toNat b.toNat (tbits s i.toNat) with
      | none => exact ⟨rfl, rfl⟩
      | some p => obtain ⟨v, r⟩ := p; rw [hp] at h; exact absurd rfl h
theorem lapT_ok {a b i : Int} {s : ByteArray} (h : (lapT a b s i).2.2 = 0) : ∃ (j : Nat) (v : Int) (r : List Bool), i = j ∧ s.size ≤ 64 ∧ j ≤ 8 * s.size ∧ smB a b = true ∧ lapP a.toNat b.toNat (tbits s j) = some (v, r) ∧ lapT a b s i = (v, 8 * (s.size : Int) - r.length, 0) := by
  unfold lapT smp at *
  by_cases h1 : 64 < s.size
  · rw [if_pos h1] at h; exact absurd h (by decide)
  · rw [if_neg h1] at h ⊢
    by_cases h2 : i < 0 ∨ 8 * (s.size : Int) < i ∨ smB a b = false
    · rw [if_pos h2] at h; exact absurd h (by decide)
    · rw [if_neg h2] at h ⊢
      simp only [not_or, Bool.not_eq_false] at h2
      cases hp : lapP a.toNat b.toNat (tbits s i.toNat) with
      | none => rw [hp] at h; exact absurd h (by simp)
      | some p =>
        obtain ⟨v, r⟩ := p
        exact ⟨i.toNat, v, r, by omega, by omega, by omega, h2.2.2, hp, rfl⟩
theorem lapT_of {a b : Int} {s : ByteArray} {j : Nat} {v : Int} {r : List Bool} (h1 : s.size ≤ 64) (h2 : j ≤ 8 * s.size) (h3 : smB a b = true) (hp : lapP a.toNat b.toNat (tbits s j) = some (v, r)) : lapT a b s j = (v, 8 * (s.size : Int) - r.length, 0) := by
  unfold lapT; rw [h3]
  exact smp_some (by omega) (by omega) hp
theorem places_a {a b i : Int} {s m : ByteArray} (h : (lapT a b s i).2.2 = 0) (hm : s.size + m.size ≤ 64) :
    lapT a b (s ++ m) i = lapT a b s i ∧ i < (lapT a b s i).2.1 ∧ (lapT a b s i).2.1 ≤ 8 * (s.size : Int) ∧ 0 ≤ i ∧ i ≤ 8 * (s.size : Int) ∧
    lapT a b (s.extract (i / 8).toNat s.size) (i - 8 * (i / 8)) = ((lapT a b s i).1, (lapT a b s i).2.1 - 8 * (i / 8), 0) := by
  obtain ⟨j, v, r, rfl, h1, h2, h3, hp, hL⟩ := lapT_ok h
  have hb := (smB_iff h3).2.1
  have hl := lap_len (a := a.toNat) (b := b.toNat) (by omega) 600 _ hp
  rw [tbits_len] at hl
  obtain ⟨c, e1, e2⟩ := pre_lap a.toNat b.toNat 600 _ _ _ hp
  rw [hL]
  have hs : (s ++ m).size = s.size + m.size := by simp
  refine ⟨?_, by show (j : Int) < 8 * (s.size : Int) - r.length; omega, by show 8 * (s.size : Int) - r.length ≤ _; omega, by omega, by omega, ?_⟩
  · have ha := tbits_app s m (8 * s.size - j) j (by omega)
    rw [e1, List.append_assoc] at ha
    have hp2 : lapP a.toNat b.toNat (tbits (s ++ m) j) = some (v, r ++ tbits (s ++ m) (8 * s.size)) := by rw [ha]; exact e2 _
    rw [lapT_of (by omega) (by omega) h3 hp2, List.length_append, tbits_len, hs]
    congr 2
    omega
  · have hq : ((j : Int) / 8).toNat = j / 8 := by omega
    have hi : (j : Int) - 8 * ((j : Int) / 8) = ((j % 8 : Nat) : Int) := by omega
    rw [hq, hi]
    have hc := tbits_cut (s := s) (c := j / 8) (8 * s.size - j) (j % 8) (by omega)
    rw [show j % 8 + 8 * (j / 8) = j by omega] at hc
    have he := extract_size s (j / 8)
    rw [lapT_of (s := s.extract (j / 8) s.size) (j := j % 8) (v := v) (r := r) (by omega) (by omega) h3 (by rw [hc]; exact hp), he]
    congr 2
    show 8 * ((s.size - j / 8 : Nat) : Int) - (r.length : Int) = 8 * (s.size : Int) - r.length - 8 * ((j : Int) / 8)
    omega
end Go.Proofs.Ytfnchcogdmpojaa
