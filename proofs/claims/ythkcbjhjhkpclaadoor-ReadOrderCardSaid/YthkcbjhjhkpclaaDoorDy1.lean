/-
  THE WALKS of package dyad: Norm.
-/
import Derived.Test.YthkcbjhjhkpclaaDoorTz
set_option linter.unusedVariables false
set_option linter.unusedSimpArgs false
namespace Go.Proofs.YthkcbjhjhkpclaaDoor
open Go.RowKit Nt Fm

theorem zeros_step {l : List Nat} {j : Nat} (hj : j < l.length) (h : val (l.take j) = 0) (h0 : l.getD j 0 = 0) : val (l.take (j + 1)) = 0 := by
  have e1 : l[j] = l.getD j 0 := by simp [List.getD, hj]
  rw [val_take_succ l j hj, h, e1, h0]; simp
theorem zeros_end {l : List Nat} (hl : Nrm l) (h : val (l.take l.length) = 0) : l.length = 0 := by
  rw [List.take_length] at h
  rw [val_eq_zero hl h]; rfl
theorem norm_pos {neg : Bool} {a k : Nat} {e : Int} (h : a ≠ 0) (hk : ctz a = k) : norm neg a e = ⟨neg, a / 2 ^ k, e + k⟩ := by
  unfold norm; rw [if_neg h, hk]

set_option maxHeartbeats 2000000 in
theorem dnorm_any (neg : Bool) (va : Value) (a k0 : Nat) (x : Int) (w : World) (hT : Tab w) (ha : NV w va a) (hka : a < 2 ^ k0) (hk0 : k0 ≤ 3000000) (h0 : -4000000000000000000 ≤ x) (h1 : x ≤ 4000000000000000000) :
    Calls Tryd.prog 44 #[.bool neg, va, .int .i64 x] w (RetD w (norm neg a x)) := by
  have haw := ha
  obtain ⟨l, hl, el, ⟨-, aa, ca, rfl, hca, hma, hA⟩, hll⟩ := ha.len hka
  unfold maxLen at hma
  have EL := Lib.hid el
  have HKA := Lib.hid hka
  clear el hka
  have hll2 : l.length ≤ 100000 := by omega
  by_cases hl0 : l.length ≤ 0
  · have e0 : norm neg a x = nz := by
      have : a = 0 := by rw [← EL.out, List.length_eq_zero_iff.1 (by omega : l.length = 0)]; rfl
      rw [this]; rfl
    rw [e0]; clear e0 hA haw
    go_enter Tryd.func44, Tryd.ntmps44
    go_wp2
    go_returns
    exact ⟨_, rfl, DV.zero _, by go_grown⟩
  · rcases hA with hP | ⟨bp, op, rfl, hbp, hcP⟩
    · exact absurd hP hl0
    have hl1 : 0 < l.length := by omega
    clear hl0
    have HAW := Lib.hid haw
    have HTT := Lib.hid hT
    clear haw hT
    go_enter Tryd.func44, Tryd.ntmps44
    go_wp2
    go_loop [7] (fun k => ∃ j : Nat, j < l.length ∧ k = .int .i64 ((32 * j : Nat) : Int) ∧ val (l.take j) = 0) (fun k => 32 * l.length - (intOf k).toNat)
    case atStart => exact ⟨0, hl1, rfl, rfl⟩
    case round =>
      obtain ⟨j, hj, rfl, hv⟩ := hrel
      have HV := Lib.hid hv
      obtain ⟨d, hd⟩ : ∃ d, d = l.getD j 0 := ⟨_, rfl⟩
      have hd1 : d < 4294967296 := by rw [hd]; exact hl.1.getD j
      have hck := hcP j hj
      rw [← hd] at hck
      have HD := Lib.hid hd
      have HCP := Lib.hid hcP
      clear hv hd hcP
      have ej : (((32 * j : Nat) : Int) / 32) = (j : Int) := by omega
      by_cases hz : d = 0
      · subst hz
        have hj1 : j + 1 < l.length := by
          rcases Nat.lt_or_ge (j + 1) l.length with h | h
          · exact h
          · exfalso
            have := zeros_step hj HV.out HD.out.symm
            rw [show j + 1 = l.length by omega] at this
            have := zeros_end hl this
            omega
        go_wp2
        go_round
        case rel => exact ⟨j + 1, hj1, by simp; omega, zeros_step hj HV.out HD.out.symm⟩
        case measure => simp [intOf]; omega
      · have hz2 : ((d : Int) == 0) = false := by rw [beq_eq_false_iff_ne]; omega
        obtain ⟨c1, c2⟩ := ctz_limbs hj HD.out hz hd1 HV.out
        rw [EL.out] at c1 c2
        have hc32 : Lib.ctz 32 d < 32 := by
          have := (Lib.lowest_bit 32 d hz (by omega)).2; exact this
        have en := @norm_pos neg a _ x c2 c1
        have htz := fun w hT => tz_any d hz hd1 w hT
        generalize Lib.ctz 32 d = t at *
        have EN := Lib.hid en
        have HTZ := Lib.hid htz
        clear c1 c2 en htz
        go_wp2_with (go_at_call 69; refine (HTZ.out _ (HTT.out.alloc _)).mono ?_; rintro e w' ⟨rfl, rfl⟩)
        refine (right_any _ a (32 * j + t) k0 _ _ (HAW.out.alloc _) (by simp) HKA.out hk0 (by omega)).mono ?_
        rintro e w1 ⟨v, rfl, hv, hb⟩
        obtain ⟨q0, q1, q2, f0, f1, f2⟩ := cells3 hb
        obtain ⟨ao1, n1, cc1, rfl⟩ := hv.shape
        have HV1 := Lib.hid hv
        clear hv
        go_wp2
        refine bodyPost_ret (v := .agg #[.bool neg, .slice ao1 n1 cc1, .int .i64 (x + (32 * (j : Int) + (t : Int)))]) (by simp [results, Tryd.results44, go_sem, q0, q1, q2]) rfl ?_
        refine ⟨_, rfl, ⟨.slice ao1 n1 cc1, ?_, ?_⟩, Below.store3 hb _ _ _⟩
        · rw [EN.out]; simp
        · rw [EN.out]
          exact HV1.out.store3 hb (noLimb_bool _) (noLimb_slice _ _ _) (noLimb_i64 _) _ _ _
end Go.Proofs.YthkcbjhjhkpclaaDoor
