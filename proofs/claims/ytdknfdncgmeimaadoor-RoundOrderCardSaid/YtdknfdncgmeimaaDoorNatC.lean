/-
  THE WALK of nat.Check.
-/
import Derived.Test.YtdknfdncgmeimaaDoorNat2
set_option linter.unusedVariables false
set_option linter.unusedSimpArgs false
namespace Go.Proofs.YtdknfdncgmeimaaDoor
open Go.RowKit Nt

/-- a slice that may stand for a number: it has a form, but its last limb may be 0 -/
def checkN (l : List Nat) : Int := if 400 < l.length then 2 else if l.getLast? = some 0 then 3 else 0

theorem checkN_nrm {l : List Nat} (h : checkN l = 0) (hl : Lims l) : Nrm l ∧ l.length ≤ 400 := by
  unfold checkN at h
  split at h
  · omega
  · split at h
    · omega
    · exact ⟨⟨hl, by assumption⟩, by omega⟩

theorem natCheck_any (v : Value) (l : List Nat) (w : World) (hv : Lim w v l) :
    Calls Tryd.prog 76 #[v] w fun e w' => e = .returned (.int .i64 (checkN l)) ∧ w = w' := by
  obtain ⟨hl, ao, cap, rfl, hcap, hm, hc⟩ := hv
  unfold maxLen at hm
  by_cases h4 : 400 < l.length
  · have e : checkN l = 2 := by unfold checkN; rw [if_pos h4]
    rw [e]; clear e hc
    go_enter Tryd.func76, Tryd.ntmps76
    go_wp2
    go_ret
    exact ⟨rfl, rfl⟩
  · have e : checkN l = if l.getLast? = some 0 then 3 else 0 := by unfold checkN; rw [if_neg h4]
    by_cases h0 : l.length ≤ 0
    · have e2 : checkN l = 0 := by rw [e, List.length_eq_zero_iff.1 (by omega : l.length = 0)]; simp
      rw [e2]; clear e e2 hc
      go_enter Tryd.func76, Tryd.ntmps76
      go_wp2
      go_ret
      exact ⟨rfl, rfl⟩
    · rcases hc with hc | ⟨b, off, rfl, hb, hcell⟩
      · exact absurd hc h0
      obtain ⟨d, hd⟩ : ∃ d, d = l.getD (l.length - 1) 0 := ⟨_, rfl⟩
      have hk := hcell (l.length - 1) (by omega)
      rw [← hd] at hk
      have hlast : l.getLast? = some d := by
        rw [List.getLast?_eq_getElem?, hd, List.getD, List.getElem?_eq_getElem (by omega)]; simp
      rw [hlast] at e
      clear hcell hlast hd
      by_cases hz : d = 0
      · subst hz
        rw [if_pos rfl] at e
        rw [e]; clear e
        go_enter Tryd.func76, Tryd.ntmps76
        go_wp2
        go_ret
        exact ⟨rfl, rfl⟩
      · have hz2 : ((d : Int) == 0) = false := by rw [beq_eq_false_iff_ne]; omega
        rw [if_neg (by simpa using hz)] at e
        rw [e]; clear e
        go_enter Tryd.func76, Tryd.ntmps76
        go_wp2
        go_ret
        exact ⟨rfl, rfl⟩

end Go.Proofs.YtdknfdncgmeimaaDoor
