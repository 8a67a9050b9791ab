/-
  prod.Dot whole, with its refusals.
-/
import Derived.Test.YtapdjclhpcakeaaDoorDu
import Derived.Test.YtapdjclhpcakeaaDoorUl
set_option linter.unusedVariables false
set_option linter.unusedSimpArgs false
namespace Go.Proofs.YtapdjclhpcakeaaDoor
open Go.RowKit Nt Fm Fl

theorem dtV_bd {l : List Int} (h : ∀ d ∈ l, 0 ≤ d ∧ d ≤ 18446744073709551615) (mode : Int) : dtE l mode = 0 ∨ (dtV l mode = 0 ∧ dtC l mode = false) := by
  unfold dtV dtC
  by_cases h0 : dtE l mode = 0
  · exact Or.inl h0
  · rw [if_neg h0, if_neg h0]; exact Or.inr ⟨rfl, rfl⟩
set_option maxRecDepth 100000 in
set_option maxHeartbeats 4000000 in
theorem dot_any (v : Value) (l : List Int) (mode : Int) (w : World) (hT : Tab w) (hv : LU w v l) :
    Calls Tryd.prog 22 #[v, .int .i64 mode] w fun e w' => e = .returned (.tuple #[.int .u64 (dtV l mode), .bool (dtC l mode), .int .i64 (dtE l mode)]) ∧ Below w.heap.size w w' := by
  have hv' := hv
  obtain ⟨-, ao, cap, rfl, hcap, hmx, -⟩ := hv
  unfold maxLen at hmx
  have bad : ∀ c : Int, c ≠ 0 → dtE l mode = c → dtV l mode = 0 ∧ dtC l mode = false ∧ dtE l mode = c := by
    intro c h0 h
    refine ⟨?_, ?_, h⟩
    · unfold dtV; rw [if_neg (by rw [h]; exact h0)]
    · unfold dtC; rw [if_neg (by rw [h]; exact h0)]
  cases hk : knownB mode
  · obtain ⟨e1, e2, e3⟩ := bad 1 (by decide) (by unfold dtE; rw [hk]; rfl)
    rw [e1, e2, e3]; clear e1 e2 e3 hT hv' bad
    go_enter Tryd.func22, Tryd.ntmps22
    go_wp2_with (go_at_call 70; refine (known_any _ _).mono ?_; rintro e w' ⟨rfl, rfl⟩)
    go_ret3
    exact ⟨rfl, Below.refl _ _⟩
  · have hm : 0 ≤ mode ∧ mode ≤ 4 := by unfold knownB at hk; simpa using hk
    have HK : Hid (knownB mode = true) := Lib.hid hk
    by_cases ho : l.length % 2 = 1
    · obtain ⟨e1, e2, e3⟩ := bad 3 (by decide) (by unfold dtE; rw [hk, if_pos rfl, if_pos ho])
      rw [e1, e2, e3]; clear e1 e2 e3 hT hv' bad hm
      have hrem : ((l.length : Int) % 2 == 1) = true := by rw [beq_iff_eq]; omega
      go_enter Tryd.func22, Tryd.ntmps22
      go_wp2_with (go_at_call 70; refine (known_any _ _).mono ?_; rintro e w' ⟨rfl, rfl⟩)
      go_ret3
      exact ⟨rfl, Below.refl _ _⟩
    · by_cases hlen : 200 < l.length
      · obtain ⟨e1, e2, e3⟩ := bad 2 (by decide) (by unfold dtE; rw [hk, if_pos rfl, if_neg ho, if_pos hlen])
        rw [e1, e2, e3]; clear e1 e2 e3 hT hv' bad hm
        have hrem : ((l.length : Int) % 2 == 1) = false := by rw [beq_eq_false_iff_ne]; omega
        have hl2 : (200 : Int) < (l.length : Int) := by omega
        go_enter Tryd.func22, Tryd.ntmps22
        go_wp2_with (go_at_call 70; refine (known_any _ _).mono ?_; rintro e w' ⟨rfl, rfl⟩)
        go_ret3
        exact ⟨rfl, Below.refl _ _⟩
      · cases hno : noV l
        · have e0 : dtE l mode = 0 := by unfold dtE; rw [hk, if_pos rfl, if_neg ho, if_neg hlen, hno]; rfl
          have e1 : dtV l mode = numR (dotN l (l.length / 2)) mode := by unfold dtV; rw [if_pos e0]
          have e2 : dtC l mode = numC (dotN l (l.length / 2)) := by unfold dtC; rw [if_pos e0]
          rw [e0, e1, e2]
          exact pdot_any _ l mode w hT hv' (by omega) ho hno hm.1 hm.2
        · obtain ⟨e1, e2, e3⟩ := bad 4 (by decide) (by unfold dtE; rw [hk, if_pos rfl, if_neg ho, if_neg hlen, hno]; rfl)
          rw [e1, e2, e3]; clear e1 e2 e3 bad
          have hcon := fun w' => containsf_any (.slice ao l.length cap) l w'
          rw [hno] at hcon
          have HCON := Lib.hid hcon
          have HV := Lib.hid hv'
          have hrem : ((l.length : Int) % 2 == 1) = false := by rw [beq_eq_false_iff_ne]; omega
          have hl2 : (l.length : Int) ≤ 200 := by omega
          clear hcon hv' hT hm
          go_enter Tryd.func22, Tryd.ntmps22
          go_wp2_with (first | (go_at_call 70; refine (known_any _ _).mono ?_; rintro e w' ⟨rfl, rfl⟩) | (go_at_call 71; (with_reducible refine (HCON.out _ HV.out).mono ?_); rintro e w' ⟨rfl, rfl⟩))
          go_ret3
          exact ⟨rfl, Below.refl _ _⟩
end Go.Proofs.YtapdjclhpcakeaaDoor
