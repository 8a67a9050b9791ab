/-
  THE WALK of nat.small.
-/
import Derived.Test.YtofdjfdnckmmmaaGreatDoorNa
import Derived.Test.YtofdjfdnckmmmaaGreatDoorBa
set_option linter.unusedVariables false
set_option linter.unusedSimpArgs false
namespace Go.Proofs.YtofdjfdnckmmmaaGreatDoor
open Go.RowKit Nt

theorem or_32 (e x : Int) (he : 0 ≤ e) (he1 : e ≤ 4294967295) (h0 : 0 ≤ x) (h1 : x < 4294967296) : bits .or .u64 (e * 4294967296) x = e * 4294967296 + x :=
  bits_join .u64 64 (by decide) Fl.u64_wraps 32 _ _ (by omega) (by omega) (by omega) h0 (by omega) (by omega)
/-- behind so many from the top -/
def SmallRel (l : List Nat) (b k : Nat) (o : List Nat) (r : Nat) : Prop := o.length = l.length ∧ Lims o ∧ r < b ∧ val (l.drop k) = val (o.drop k) * b + r
theorem SmallRel.start (l : List Nat) (b : Nat) (hb : 0 < b) : SmallRel l b l.length (List.replicate l.length 0) 0 :=
  ⟨by simp, lims_zero _, hb, by simp [val]⟩
theorem drop_set_self {o : List Nat} {k d : Nat} (h : k < o.length) : (o.set k d).drop k = d :: o.drop (k + 1) := by
  rw [List.drop_eq_getElem_cons (by simpa using h)]
  congr 1
  · simp
  · rw [List.drop_set_of_lt (by omega)]
theorem SmallRel.step {l o : List Nat} {b k r : Nat} (h : SmallRel l b (k + 1) o r) (hl : Lims l) (hk : k < l.length) (hb : b < 4294967296) :
    SmallRel l b k (o.set k ((r * 4294967296 + l.getD k 0) / b)) ((r * 4294967296 + l.getD k 0) % b) ∧ (r * 4294967296 + l.getD k 0) / b < 4294967296 := by
  obtain ⟨h1, h2, h3, h4⟩ := h
  have hx := hl.getD k
  have hlt : (r * 4294967296 + l.getD k 0) / b < 4294967296 := by
    rw [Nat.div_lt_iff_lt_mul (by omega)]
    have : (r + 1) * 4294967296 ≤ b * 4294967296 := Nat.mul_le_mul_right _ h3
    rw [show l.getD k 0 = l[k]?.getD 0 from rfl]
    rw [Nat.mul_comm 4294967296]; omega
  refine ⟨⟨by rw [List.length_set]; exact h1, lims_set h2 _ _ hlt, Nat.mod_lt _ (by omega), ?_⟩, hlt⟩
  rw [drop_set_self (by omega), val_drop l k hk, h4]
  simp only [val]
  have e : l.getD k 0 = l[k] := by simp [List.getD, hk]
  rw [e]
  have hdm := Nat.div_add_mod (r * 4294967296 + l[k]) b
  generalize (r * 4294967296 + l[k]) / b = q at *
  generalize (r * 4294967296 + l[k]) % b = s at *
  rw [Nat.mul_add, Nat.add_mul, Nat.mul_comm q b, Nat.mul_assoc]
  omega
theorem SmallRel.fin {l o : List Nat} {b r : Nat} (h : SmallRel l b 0 o r) : Lims o ∧ val o = val l / b ∧ r = val l % b := by
  obtain ⟨h1, h2, h3, h4⟩ := h
  simp only [List.drop_zero] at h4
  refine ⟨h2, ?_, ?_⟩
  · rw [h4, Nat.mul_comm, Nat.mul_add_div (by omega), Nat.div_eq_of_lt h3, Nat.add_zero]
  · rw [h4, Nat.mul_comm, Nat.mul_add_mod, Nat.mod_eq_of_lt h3]
/-- .. a number with no room behind it, in a block of the call's own -/
def RetNVrc (w : World) (q r : Nat) (e : Ending) (w' : World) : Prop := ∃ v, e = .returned (.tuple #[v, .int .u32 (r : Int)]) ∧ NVc w.heap.size w' v q ∧ Below w.heap.size w w'
/-- a call that tells a number and a limb -/
def RetNVr (w : World) (q r : Nat) (e : Ending) (w' : World) : Prop := ∃ v, e = .returned (.tuple #[v, .int .u32 (r : Int)]) ∧ NV w' v q ∧ Below w.heap.size w w'
set_option maxRecDepth 100000 in
set_option maxHeartbeats 8000000 in
theorem small_c (va : Value) (a b k0 : Nat) (w : World) (ha : NV w va a) (hka : a < 2 ^ k0) (hk0 : k0 ≤ 120000000000000) (hb0 : 0 < b) (hb1 : b < 4294967296) :
    Calls Tryz.prog 127 #[va, .int .u32 (b : Int)] w (RetNVrc w (a / b) (a % b)) := by
  obtain ⟨l, hl, el, ⟨-, aa, ca, rfl, hca, hma, hA⟩, hll⟩ := ha.len hka
  unfold maxLen at hma
  have EL := Lib.hid el
  have HA := Lib.hid hA
  clear ha hka el hA
  go_enter Tryz.func127, Tryz.ntmps127
  go_wp2_with (refine wpList_make_limbs rfl _ _ rfl _ _ l.length l.length rfl rfl (by simp) (by simp) (Nat.le_refl _) (by omega) ?_; intro w1 hown1 hbw)
  go_loopw [7, 8] (fun rs i wr => ∃ (k r : Nat) (iz : Int) (o : List Nat), k ≤ l.length ∧ iz ≤ (k : Int) - 1 ∧ (k : Int) - 1 ≤ iz ∧ i = .int .i64 iz ∧ rs = .int .u64 ((r : Nat) : Int) ∧ Hid (wr.ownsRow w.heap.size 102 1 (.slice (some ⟨w.heap.size, 0, none⟩) l.length l.length) l.length (lc o)) ∧ Hid (SmallRel l b k o r) ∧ Hid (Below w.heap.size w wr))
    (fun _ i _ => (intOf i + 1).toNat)
  case atStart => exact ⟨l.length, 0, (l.length : Int) - 1, _, Nat.le_refl _, by omega, by omega, rfl, rfl, Lib.hid hown1, Lib.hid (SmallRel.start l b hb0), Lib.hid hbw⟩
  case round =>
    obtain ⟨k, r, iz, o, hk, hi1, hi2, rfl, rfl, HOWN, HREL, HB⟩ := hrel
    have hrb : r < b := HREL.out.2.2.1
    by_cases hk0 : k = 0
    · obtain rfl : iz = -1 := by omega
      subst hk0
      obtain ⟨f1, f2, f3⟩ := HREL.out.fin
      rw [EL.out] at f2 f3
      have F1 := Lib.hid f1
      have F2 := Lib.hid f2
      have F3 := Lib.hid f3
      clear f1 f2 f3 hi1 hi2
      go_wp2_with fail
      refine (norm_clip _ _ w.heap.size _ (own_lim2 HOWN.out F1.out) (by intro ao n c p h1 h2; simp only [Value.slice.injEq] at h1; rw [← h1.1] at h2; cases h2; exact Nat.le_refl _)).mono ?_
      rintro e w2 ⟨⟨v2, rfl, hn2⟩, rfl⟩
      rw [F2.out] at hn2
      have HN := Lib.hid hn2
      clear hn2
      go_wp2
      go_ret2
      have e := F3.out
      subst e
      exact ⟨v2, rfl, HN.out, HB.out⟩
    · obtain ⟨j, rfl⟩ : ∃ j, k = j + 1 := ⟨k - 1, by omega⟩
      obtain rfl : iz = (j : Int) := by omega
      obtain ⟨x, hx⟩ : ∃ x, x = l.getD j 0 := ⟨_, rfl⟩
      have hx1 : x < 4294967296 := by rw [hx]; exact hl.1.getD j
      have hcx : ∃ bp op, aa = some ⟨bp, op, none⟩ ∧ wr.cell? ⟨bp, op + j, none⟩ = some (.int .u32 ((x : Nat) : Int)) := by
        rcases HA.out with h | ⟨bp, op, h1, h2, h3⟩
        · omega
        · exact ⟨bp, op, h1, by rw [hx]; exact (HB.out.cell (p := ⟨bp, op + j, none⟩) h2).trans (h3 j (by omega))⟩
      obtain ⟨bp, op, rfl, hcx⟩ := hcx
      obtain ⟨hstep, hqb⟩ := HREL.out.step hl.1 (by omega) hb1
      rw [← hx] at hstep hqb
      obtain ⟨R, hR⟩ : ∃ R, R = r * 4294967296 + x := ⟨_, rfl⟩
      rw [← hR] at hstep hqb
      obtain ⟨q, hq⟩ : ∃ q, q = R / b := ⟨_, rfl⟩
      obtain ⟨s, hs⟩ : ∃ s, s = R % b := ⟨_, rfl⟩
      rw [← hq, ← hs] at hstep
      rw [← hq] at hqb
      have hsb : s < b := by rw [hs]; exact Nat.mod_lt _ hb0
      have hRb : R < 18446744073709551616 := by rw [hR]; omega
      have e1 : bits .or .u64 ((r : Int) * 4294967296) (x : Int) = (R : Int) := by
        rw [or_32 _ _ (by omega) (by omega) (by omega) (by omega), hR]; omega
      have e2 : (R : Int) / (b : Int) = (q : Int) := by rw [hq]; exact (Int.natCast_ediv R b).symm
      have e3 : (R : Int) % (b : Int) = (s : Int) := by rw [hs]; exact (Int.natCast_emod R b).symm
      obtain ⟨hcz, hfz⟩ := own_cell HOWN.out j (by omega)
      have HST := Lib.hid hstep
      have jb : (j : Int) < (l.length : Int) := by omega
      have hbi : ((b : Int) == 0) = false := by rw [beq_eq_false_iff_ne]; omega
      clear hstep hR hq hs hx hi1 hi2 HREL hk0
      go_wp2
      go_roundw
      case rel => exact ⟨j, s, (j : Int) - 1, o.set j q, by omega, by omega, by omega, by go_num, by first | rfl | rw [e3], Lib.hid (own_store HOWN.out j q rfl), HST, Lib.hid (HB.out.setCell (Nat.le_refl _) _)⟩
      case measure => simp [intOf] <;> omega
theorem small_any (va : Value) (a b k0 : Nat) (w : World) (ha : NV w va a) (hka : a < 2 ^ k0) (hk0 : k0 ≤ 120000000000000) (hb0 : 0 < b) (hb1 : b < 4294967296) :
    Calls Tryz.prog 127 #[va, .int .u32 (b : Int)] w (RetNVr w (a / b) (a % b)) :=
  (small_c va a b k0 w ha hka hk0 hb0 hb1).mono fun e w' ⟨v, h1, h2, h3⟩ => ⟨v, h1, h2.nv, h3⟩
end Go.Proofs.YtofdjfdnckmmmaaGreatDoor
