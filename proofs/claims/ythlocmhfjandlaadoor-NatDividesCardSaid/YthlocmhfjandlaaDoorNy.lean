/-
  WHAT IS HANDED IN AS A NUMBER: what Check says of it; the number. The walk of nat.check at two.
-/
import Derived.Test.YthlocmhfjandlaaDoorNa
import Derived.Test.YthlocmhfjandlaaDoorNat7
import Derived.Deep.LoopGhost
set_option linter.unusedVariables false
set_option linter.unusedSimpArgs false
namespace Go.Proofs.YthlocmhfjandlaaDoor
open Go.RowKit Nt

theorem lt_blen (n : Nat) : n < 2 ^ blen n := by
  unfold blen
  split
  · omega
  · exact Nat.lt_log2_self
theorem blen_le_of {n k : Nat} (h : n < 2 ^ k) : blen n ≤ k := by
  unfold blen
  split
  · omega
  · have := (Nat.log2_lt (by assumption)).2 h
    omega
/-- what Check says of a number -/
def ckN (n : Nat) : Int := if blen n ≤ 12800 then 0 else 2
theorem ckN_zero {n : Nat} : ckN n = 0 ↔ blen n ≤ 12800 := by unfold ckN; split <;> simp_all
/-- a slice of which Check says c; if it says nothing, the number is n -/
def NA (w : World) (v : Value) (c : Int) (n : Nat) : Prop := ∃ l, Lim w v l ∧ checkN l = c ∧ (c = 0 → Nrm l ∧ val l = n ∧ blen n ≤ 12800)
theorem NA.nv {w : World} {v : Value} {c : Int} {n : Nat} (h : NA w v c n) (hc : c = 0) : NV w v n ∧ blen n ≤ 12800 := by
  obtain ⟨l, h1, h2, h3⟩ := h
  obtain ⟨h4, h5, h6⟩ := h3 hc
  exact ⟨⟨l, h4, h5, h1⟩, h6⟩
theorem nrm_400 {l : List Nat} (h : Nrm l) : l.length ≤ 400 ↔ blen (val l) ≤ 12800 := by
  constructor
  · intro hl
    have h1 := val_lt h.1
    exact Nat.le_trans (blen_le_of h1) (by omega)
  · intro hb
    have := h.len (lt_blen (val l))
    omega
theorem NA.ofLim {w : World} {v : Value} {l : List Nat} (h : Lim w v l) : NA w v (checkN l) (val l) := by
  refine ⟨l, h, rfl, fun hc => ?_⟩
  obtain ⟨h1, h2⟩ := checkN_nrm hc h.1
  exact ⟨h1, rfl, (nrm_400 h1).1 h2⟩
theorem NA.ofNV {w : World} {v : Value} {n : Nat} (h : NV w v n) : NA w v (ckN n) n := by
  obtain ⟨l, h1, h2, h3⟩ := h
  refine ⟨l, h3, ?_, fun hc => ⟨h1, h2, ckN_zero.1 hc⟩⟩
  subst h2
  unfold checkN ckN
  by_cases hl : l.length ≤ 400
  · rw [if_neg (by omega), if_neg h1.2, if_pos ((nrm_400 h1).1 hl)]
  · rw [if_pos (by omega), if_neg (fun hb => hl ((nrm_400 h1).2 hb))]
theorem NA.below {w w' : World} {v : Value} {c : Int} {n : Nat} (h : NA w v c n) (hb : Below w.heap.size w w') : NA w' v c n := by
  obtain ⟨l, h1, h2, h3⟩ := h
  exact ⟨l, h1.below hb, h2, h3⟩
theorem NA.alloc {w : World} {v : Value} {c : Int} {n : Nat} (h : NA w v c n) (o : Obj) : NA (w.alloc o) v c n := h.below ((Below.refl _ _).alloc (Nat.le_refl _) o)
theorem NA.shape {w : World} {v : Value} {c : Int} {n : Nat} (h : NA w v c n) : ∃ (ao : Option Addr) (k cc : Nat), v = .slice ao k cc := by
  obtain ⟨l, ⟨-, ao, cap, h1, -⟩, -⟩ := h
  exact ⟨ao, _, cap, h1⟩
theorem ncheck_one (v : Value) (c : Int) (n : Nat) (w : World) (h : NA w v c n) : Calls Tryd.prog 45 #[v] w fun e w' => e = .returned (.int .i64 c) ∧ w = w' := by
  obtain ⟨l, h1, h2, h3⟩ := h
  have := natCheck_any v l w h1
  rw [h2] at this
  exact this
/-- of two -/
def e2 (x y : Int) : Int := if x = 0 then y else x
theorem e2_zero {x y : Int} : e2 x y = 0 ↔ x = 0 ∧ y = 0 := by unfold e2; split <;> omega
set_option maxHeartbeats 4000000 in
theorem ncheck_two (va vb : Value) (ca cb : Int) (na nb b : Nat) (w : World) (hA : NA w va ca na) (hB : NA w vb cb nb) (hb : b = w.heap.size) :
    Calls Tryd.prog 41 #[.slice (some ⟨b, 0, none⟩) 2 2] (w.alloc (.cells #[va, vb] 22)) fun e w' => e = .returned (.int .i64 (e2 ca cb)) ∧ w' = w.alloc (.cells #[va, vb] 22) := by
  obtain ⟨aa, ka, kca, rfl⟩ := hA.shape
  obtain ⟨ab, kb, kcb, rfl⟩ := hB.shape
  have CA := Lib.hid (ncheck_one _ _ _ _ (hA.alloc (.cells #[.slice aa ka kca, .slice ab kb kcb] 22)))
  have CB := Lib.hid (ncheck_one _ _ _ _ (hB.alloc (.cells #[.slice aa ka kca, .slice ab kb kcb] 22)))
  have c0 : (w.alloc (.cells #[.slice aa ka kca, .slice ab kb kcb] 22)).cell? ⟨b, 0, none⟩ = some (.slice aa ka kca) := by subst hb; simp [go_sem]
  have c1 : (w.alloc (.cells #[.slice aa ka kca, .slice ab kb kcb] 22)).cell? ⟨b, 1, none⟩ = some (.slice ab kb kcb) := by subst hb; simp [go_sem]
  generalize w.alloc (.cells #[.slice aa ka kca, .slice ab kb kcb] 22) = W at *
  clear hA hB hb
  have hcase : ((ca != 0) = true ∧ e2 ca cb = ca) ∨ ((ca != 0) = false ∧ e2 ca cb = cb) := by
    unfold e2
    by_cases h : ca = 0
    · right; rw [if_pos h]; exact ⟨by rw [bne_eq_false_iff_eq]; exact h, rfl⟩
    · left; rw [if_neg h]; exact ⟨by rw [bne_iff_ne]; exact h, rfl⟩
  have hcb : ((cb != 0) = true) ∨ ((cb != 0) = false ∧ cb = 0) := by
    by_cases h : cb = 0
    · right; exact ⟨by rw [bne_eq_false_iff_eq]; exact h, h⟩
    · left; rw [bne_iff_ne]; exact h
  generalize e2 ca cb = R at *
  go_enter Tryd.func41, Tryd.ntmps41
  go_wp2
  go_loopw [8] (fun s8 wr => wr = W ∧ ∃ k : Nat, k ≤ 2 ∧ s8 = .int .i64 (k : Int) ∧ Hid ((1 ≤ k → R = cb) ∧ (2 ≤ k → R = 0))) (fun s8 _ => (2 - intOf s8).toNat)
  case atStart => exact ⟨rfl, 0, by omega, rfl, Lib.hid ⟨by omega, by omega⟩⟩
  case round =>
    obtain ⟨rfl, k, hk, rfl, HR⟩ := hrel
    rcases (by omega : k = 0 ∨ k = 1 ∨ k = 2) with rfl | rfl | rfl
    · rcases hcase with ⟨k1, rfl⟩ | ⟨k1, rfl⟩
      · go_wp2_with (go_at_call 45; refine CA.out.mono ?_; rintro e w1 ⟨rfl, rfl⟩)
        go_ret
        exact ⟨rfl, rfl⟩
      · go_wp2_with (go_at_call 45; refine CA.out.mono ?_; rintro e w1 ⟨rfl, rfl⟩)
        go_roundw
        case rel => exact ⟨by first | rfl | trivial, 1, by omega, by go_num, Lib.hid ⟨fun _ => by first | rfl | trivial, by omega⟩⟩
        case measure => simp [intOf]
    · have h1 := HR.out.1 (by omega)
      subst h1
      rcases hcb with k1 | ⟨k1, k2⟩
      · go_wp2_with (go_at_call 45; refine CB.out.mono ?_; rintro e w1 ⟨rfl, rfl⟩)
        go_ret
        exact ⟨rfl, rfl⟩
      · go_wp2_with (go_at_call 45; refine CB.out.mono ?_; rintro e w1 ⟨rfl, rfl⟩)
        go_roundw
        case rel => exact ⟨by first | rfl | trivial, 2, by omega, by go_num, Lib.hid ⟨fun _ => by first | rfl | trivial, fun _ => k2⟩⟩
        case measure => simp [intOf]
    · have h1 := HR.out.2 (by omega)
      subst h1
      go_wp2
      go_ret
      exact ⟨rfl, rfl⟩
end Go.Proofs.YthlocmhfjandlaaDoor
