/-
  THE WALKS of slices.IndexFunc, ContainsFunc (at prod.Dot's own function); what prod.Dot adds up, plain.
-/
import Derived.Test.YtapdjclhpcakeaaDoorPe
set_option linter.unusedVariables false
set_option linter.unusedSimpArgs false
namespace Go.Proofs.YtapdjclhpcakeaaDoor
open Go.RowKit Nt Fm Fl

theorem dot1_any (x : Int) (x0 : 0 ≤ x) (x1 : x ≤ 18446744073709551615) (w : World) :
    Calls Tryd.prog 72 #[.int .u64 x] w fun e w' => e = .returned (.bool (!hasV x)) ∧ w = w' := by
  go_enter Tryd.func72, Tryd.ntmps72
  go_wp2_with (go_at_call 73; refine (hasValue_any x x0 x1 _).mono ?_; rintro e w' ⟨rfl, rfl⟩)
  go_ret
  exact ⟨rfl, rfl⟩
/-- is there one without a value? -/
def noV (l : List Int) : Bool := l.any fun x => !hasV x
def IdxR (l : List Int) (w : World) (e : Ending) (w' : World) : Prop := ∃ i : Int, e = .returned (.int .i64 i) ∧ ((0 ≤ i ∧ noV l = true) ∨ (i = -1 ∧ noV l = false)) ∧ w = w'
theorem noV_take {l : List Int} {k : Nat} (h : k < l.length) (hk : noV (l.take k) = false) : noV (l.take (k + 1)) = !hasV (l.getD k 0) := by
  unfold noV at *
  rw [List.take_succ_eq_append_getElem h, List.any_append, hk]
  simp [List.getD, h]
theorem noV_some {l : List Int} {k : Nat} (h : k < l.length) (hk : hasV (l.getD k 0) = false) : noV l = true := by
  unfold noV
  rw [List.any_eq_true]
  exact ⟨l[k], List.getElem_mem h, by simp [List.getD, h] at hk; simp [hk]⟩
set_option maxHeartbeats 2000000 in
theorem indexf_any (v : Value) (l : List Int) (w : World) (hv : LU w v l) :
    Calls Tryd.prog 125 #[v, .func (.func 72) #[] #[]] w (IdxR l w) := by
  obtain ⟨hu, ao, cap, rfl, hcap, hmx, hc⟩ := hv
  unfold maxLen at hmx
  have HU := Lib.hid hu
  have HC := Lib.hid hc
  clear hu hc
  go_enter Tryd.func125, Tryd.ntmps125
  go_wp2
  go_loop [8] (fun i => ∃ k : Nat, k ≤ l.length ∧ i = .int .i64 k ∧ Hid (noV (l.take k) = false)) (fun i => l.length - (intOf i).toNat)
  case atStart => exact ⟨0, Nat.zero_le _, rfl, Lib.hid rfl⟩
  case round =>
    obtain ⟨k, hk, rfl, HN⟩ := hrel
    by_cases hlt : k < l.length
    · obtain ⟨x, hx⟩ : ∃ x, x = l.getD k 0 := ⟨_, rfl⟩
      have hxm : 0 ≤ x ∧ x ≤ 18446744073709551615 := by
        have e : l.getD k 0 = l[k] := by simp [List.getD, hlt]
        rw [hx, e]; exact HU.out _ (List.getElem_mem hlt)
      obtain ⟨x0, x1⟩ := hxm
      have hcx : ∃ b off, ao = some ⟨b, off, none⟩ ∧ w.cell? ⟨b, off + k, none⟩ = some (.int .u64 x) := by
        rcases HC.out with h | ⟨b, off, h1, h2, h3⟩
        · omega
        · exact ⟨b, off, h1, by rw [hx]; exact h3 k hlt⟩
      obtain ⟨b, off, rfl, hcx⟩ := hcx
      have hd := fun w' => dot1_any x x0 x1 w'
      have h1 := noV_take hlt HN.out
      have h2 := @noV_some l k hlt
      rw [← hx] at h1 h2
      have H1 := Lib.hid h1
      have H2 := Lib.hid h2
      have HX := Lib.hid hx
      have kb : (k : Int) < (l.length : Int) := by omega
      clear h1 h2 hx
      cases hh : hasV x
      · rw [hh] at hd
        have HD := Lib.hid hd
        have HH := Lib.hid hh
        clear hd hh
        go_wp2_with (go_at_call 72; (with_reducible refine (HD.out _).mono ?_); rintro e w' ⟨rfl, rfl⟩)
        go_ret
        exact ⟨_, rfl, Or.inl ⟨by omega, H2.out HH.out⟩, rfl⟩
      · rw [hh] at hd
        have HD := Lib.hid hd
        have HH := Lib.hid hh
        clear hd hh
        go_wp2_with (go_at_call 72; (with_reducible refine (HD.out _).mono ?_); rintro e w' ⟨rfl, rfl⟩)
        go_round
        case rel => exact ⟨k + 1, by omega, by go_num, Lib.hid (by rw [H1.out, HH.out]; rfl)⟩
        case measure => simp [intOf]; omega
    · have hke : k = l.length := by omega
      have hf : noV l = false := by have := HN.out; rw [hke, List.take_length] at this; exact this
      have HF := Lib.hid hf
      clear hf hke HN
      go_wp2
      go_ret
      exact ⟨_, rfl, Or.inr ⟨rfl, HF.out⟩, rfl⟩
theorem containsf_any (v : Value) (l : List Int) (w : World) (hv : LU w v l) :
    Calls Tryd.prog 71 #[v, .func (.func 72) #[] #[]] w fun e w' => e = .returned (.bool (noV l)) ∧ w = w' := by
  have hi := indexf_any v l w hv
  obtain ⟨hu, ao, cap, rfl, hcap, hmx, hc⟩ := hv
  have HI := Lib.hid hi
  clear hi hu hc hcap hmx
  go_enter Tryd.func71, Tryd.ntmps71
  go_wp2_with fail
  refine HI.out.mono ?_
  rintro e w' ⟨i, rfl, hi, rfl⟩
  rcases hi with ⟨h1, h2⟩ | ⟨rfl, h2⟩
  · have H2 := Lib.hid h2
    clear h2
    go_wp2
    go_ret
    exact ⟨by rw [H2.out]; rfl, rfl⟩
  · have H2 := Lib.hid h2
    clear h2
    go_wp2
    go_ret
    exact ⟨by rw [H2.out]; rfl, rfl⟩
/-- the sum of so many products -/
def dotN (l : List Int) : Nat → D
  | 0 => nz
  | j + 1 => plus (dotN l j) (prD (l.getD (2 * j) 0) (l.getD (2 * j + 1) 0))
def dtE (l : List Int) (mode : Int) : Int := if knownB mode = true then (if l.length % 2 = 1 then 3 else if 200 < l.length then 2 else if noV l = true then 4 else 0) else 1
def dtV (l : List Int) (mode : Int) : Int := if dtE l mode = 0 then numR (dotN l (l.length / 2)) mode else 0
def dtC (l : List Int) (mode : Int) : Bool := if dtE l mode = 0 then numC (dotN l (l.length / 2)) else false
def SmlP (k : Nat) (d : D) : Prop := d.Nf ∧ -2148 ≤ d.e ∧ (d.vl 2148).natAbs ≤ k * Pw 4454
theorem prD_smlP (x y : Int) (x0 : 0 ≤ x) (x1 : x ≤ 18446744073709551615) (y0 : 0 ≤ y) (y1 : y ≤ 18446744073709551615) : SmlP 1 (prD x y) := by
  have hx := valD_sml x x0 x1
  have hy := valD_sml y y0 y1
  have e1 : 0 ≤ (valD x).e + ((1074 : Nat) : Int) := by have := hx.2.1; omega
  have e2 : 0 ≤ (valD y).e + ((1074 : Nat) : Int) := by have := hy.2.1; omega
  have ht := times_eT e1 e2
  refine ⟨prD_nf x y, ?_, ?_⟩
  · have : 0 ≤ (prD x y).e + ((1074 + 1074 : Nat) : Int) := ht
    omega
  · have hv : (prD x y).vl 2148 = (valD x).vl 1074 * (valD y).vl 1074 := times_vl (valD x) (valD y) 1074 1074 e1 e2
    rw [hv, Int.natAbs_mul]
    have a := hx.2.2
    have b := hy.2.2
    rw [Nat.one_mul] at a b ⊢
    rw [show (4454 : Nat) = 2227 + 2227 from rfl, Pw_add]
    exact Nat.mul_le_mul a b
theorem SmlP.plus {j k : Nat} {c d : D} (h1 : SmlP j c) (h2 : SmlP k d) : SmlP (j + k) (plus c d) := by
  have e1 : 0 ≤ c.e + ((2148 : Nat) : Int) := by have := h1.2.1; omega
  have e2 : 0 ≤ d.e + ((2148 : Nat) : Int) := by have := h2.2.1; omega
  refine ⟨plus_Nf _ _, by have := plus_eT e1 e2; omega, ?_⟩
  rw [plus_vl _ _ _ e1 e2, Nat.add_mul]
  have a := h1.2.2; have b := h2.2.2
  omega
theorem dotN_sml (l : List Int) (h : ∀ x ∈ l, 0 ≤ x ∧ x ≤ 18446744073709551615) : ∀ j, 2 * j ≤ l.length → SmlP j (dotN l j)
  | 0, _ => ⟨Or.inl rfl, show (-2148 : Int) ≤ 0 by decide, by show ((nz : D).vl 2148).natAbs ≤ _; rw [vl_zero (d := nz) rfl]; exact Nat.zero_le _⟩
  | j + 1, hj => by
    have g : ∀ i, i < l.length → 0 ≤ l.getD i 0 ∧ l.getD i 0 ≤ 18446744073709551615 := fun i hi => by
      have e : l.getD i 0 = l[i] := by simp [List.getD, hi]
      rw [e]; exact h _ (List.getElem_mem hi)
    have a := g (2 * j) (by omega)
    have b := g (2 * j + 1) (by omega)
    exact (dotN_sml l h j (by omega)).plus (prD_smlP _ _ a.1 a.2 b.1 b.2)
theorem SmlP.bds {k : Nat} {d : D} (h : SmlP k d) (hk : k ≤ 10000) : (∃ q, q ≤ 6000 ∧ d.m < 2 ^ q) ∧ -2148 ≤ d.e ∧ d.e ≤ 3000 := by
  obtain ⟨h1, h2, h3⟩ := h
  rw [vl_natAbs] at h3
  obtain ⟨p, hp0⟩ : ∃ p : Nat, p = 4454 := ⟨_, rfl⟩
  rw [← hp0] at h3
  obtain ⟨q, hq, hlt⟩ : ∃ q, q = p + 14 ∧ k * Pw p < 2 ^ q := by
    refine ⟨p + 14, rfl, ?_⟩
    have e : (2 : Nat) ^ (p + 14) = Pw p * 16384 := by unfold Pw; rw [Nat.pow_add]
    rw [e]
    have := Pw_pos p
    generalize Pw p = X at *
    have : k * X ≤ 10000 * X := Nat.mul_le_mul_right _ hk
    omega
  have hp := Nat.two_pow_pos (d.e + ((2148 : Nat) : Int)).toNat
  have hm : d.m * 1 ≤ d.m * 2 ^ (d.e + ((2148 : Nat) : Int)).toNat := Nat.mul_le_mul_left _ hp
  refine ⟨⟨q, by omega, by omega⟩, h2, ?_⟩
  by_cases hz : d.m = 0
  · rcases h1 with h1 | h1
    · rw [h1]; decide
    · omega
  · have : 1 * 2 ^ (d.e + ((2148 : Nat) : Int)).toNat ≤ d.m * 2 ^ (d.e + ((2148 : Nat) : Int)).toNat := Nat.mul_le_mul_right _ (by omega)
    rw [Nat.one_mul] at this
    have h5 := (Nat.pow_lt_pow_iff_right (by decide : 1 < 2)).1 (Nat.lt_of_le_of_lt (Nat.le_trans this h3) hlt)
    omega
end Go.Proofs.YtapdjclhpcakeaaDoor
