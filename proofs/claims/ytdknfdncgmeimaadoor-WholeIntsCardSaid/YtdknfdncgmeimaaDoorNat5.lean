/-
  THE WALK of package nat: Times.
-/
import Derived.Test.YtdknfdncgmeimaaDoorPush
set_option linter.unusedVariables false
set_option linter.unusedSimpArgs false
namespace Go.Proofs.YtdknfdncgmeimaaDoor
open Go.RowKit Nt

theorem val_set (l : List Nat) (i d : Nat) (h : i < l.length) : val (l.set i d) + 2 ^ (32 * i) * l.getD i 0 = val l + 2 ^ (32 * i) * d := by
  induction l generalizing i with
  | nil => simp at h
  | cons e l ih =>
    cases i with
    | zero => simp [val]; omega
    | succ i =>
      have := ih i (by simpa using h)
      simp only [List.set_cons_succ, val, List.getD_cons_succ, pow32_succ]
      rw [Nat.mul_assoc, Nat.mul_assoc]
      omega
theorem lims_set {l : List Nat} (h : Lims l) (i d : Nat) (hd : d < 4294967296) : Lims (l.set i d) := by
  intro x hx
  rcases List.mem_or_eq_of_mem_set hx with h1 | h1
  · exact h x h1
  · rw [h1]; exact hd
theorem lims_zero (n : Nat) : Lims (List.replicate n 0) := by intro x hx; rw [List.eq_of_mem_replicate hx]; decide
theorem val_zero (n : Nat) : val (List.replicate n 0) = 0 := by
  induction n with
  | zero => rfl
  | succ n ih => simp [List.replicate_succ, val, ih]

/-- the rows of a product, one by one: all rows below i, and of row i the first j limbs -/
def TimesRel (p q : List Nat) (i j x : Nat) (o : List Nat) (c : Nat) : Prop :=
  o.length = p.length + q.length ∧ Lims o ∧ c < 4294967296 ∧ (∀ t, i + q.length ≤ t → o.getD t 0 = 0) ∧
    val o + 2 ^ (32 * (i + j)) * c = val (p.take i) * val q + 2 ^ (32 * i) * (x * val (q.take j))
theorem TimesRel.start (p q : List Nat) (x : Nat) : TimesRel p q 0 0 x (List.replicate (p.length + q.length) 0) 0 :=
  ⟨by simp, lims_zero _, by decide, fun t _ => by simp [List.getD, List.getElem?_replicate]; split <;> rfl, by simp [val, val_zero]⟩
theorem TimesRel.other {p q o : List Nat} {i x c : Nat} (h : TimesRel p q i 0 x o c) (y : Nat) (hc : c = 0) : TimesRel p q i 0 y o 0 := by
  obtain ⟨h1, h2, h3, h4, h5⟩ := h
  refine ⟨h1, h2, by decide, h4, ?_⟩
  subst hc
  simpa [val] using h5
theorem times_arith {V V' W c z xy Q R : Nat} (hs : V' + W * z = V + W * ((c + (xy + z)) % 4294967296)) (h : V + W * c = Q + R) :
    V' + 4294967296 * W * ((c + (xy + z)) / 4294967296) = Q + (R + W * xy) := by
  have h1 := Nat.div_add_mod (c + (xy + z)) 4294967296
  have h2 : W * ((c + (xy + z)) % 4294967296) + 4294967296 * W * ((c + (xy + z)) / 4294967296) = W * c + (W * xy + W * z) := by
    rw [Nat.mul_comm 4294967296 W, Nat.mul_assoc, ← Nat.mul_add, ← Nat.mul_add, ← Nat.mul_add]; congr 1; omega
  omega
theorem TimesRel.step {p q o : List Nat} {i j x y z c : Nat} (h : TimesRel p q i j x o c) (hi : i < p.length) (hj : j < q.length) (hx1 : x < 4294967296) (hy1 : y < 4294967296) (hy : y = q.getD j 0) (hz : z = o.getD (i + j) 0) :
    TimesRel p q i (j + 1) x (o.set (i + j) ((c + (x * y + z)) % 4294967296)) ((c + (x * y + z)) / 4294967296) := by
  obtain ⟨h1, h2, h3, h4, h5⟩ := h
  have hz1 : z < 4294967296 := by rw [hz]; exact h2.getD _
  have hxy : x * y ≤ 4294967295 * 4294967295 := Nat.mul_le_mul (by omega) (by omega)
  refine ⟨by rw [List.length_set]; exact h1, lims_set h2 _ _ (Nat.mod_lt _ (by decide)), by omega, ?_, ?_⟩
  · intro t ht
    rw [List.getD, List.getElem?_set_ne (by omega)]; exact h4 t ht
  · have hs := val_set o (i + j) ((c + (x * y + z)) % 4294967296) (by omega)
    rw [← hz] at hs
    have e1 : val (q.take (j + 1)) = val (q.take j) + 2 ^ (32 * j) * y := by
      rw [val_take_succ q j hj, hy]; simp [List.getD, hj]
    rw [e1, show 32 * (i + (j + 1)) = 32 * ((i + j) + 1) by omega, pow32_succ, times_arith hs h5]
    rw [show 32 * (i + j) = 32 * i + 32 * j by omega, Nat.pow_add, Nat.mul_add x, Nat.mul_add (2 ^ (32 * i)), Nat.mul_assoc (2 ^ (32 * i)), Nat.mul_left_comm x]
theorem TimesRel.row {p q o : List Nat} {i x c : Nat} (h : TimesRel p q i q.length x o c) (hi : i < p.length) (hx : x = p.getD i 0) (y : Nat) : TimesRel p q (i + 1) 0 y (o.set (i + q.length) c) 0 := by
  obtain ⟨h1, h2, h3, h4, h5⟩ := h
  refine ⟨by rw [List.length_set]; exact h1, lims_set h2 _ _ h3, by decide, ?_, ?_⟩
  · intro t ht
    rw [List.getD, List.getElem?_set_ne (by omega)]; exact h4 t (by omega)
  · have hs := val_set o (i + q.length) c (by omega)
    rw [h4 _ (Nat.le_refl _)] at hs
    have e1 : p[i] = x := by rw [hx]; simp [List.getD, hi]
    rw [List.take_length] at h5
    rw [val_take_succ p i hi, e1, Nat.add_mul, Nat.mul_assoc]
    simp [val]
    omega
theorem TimesRel.fin {p q o : List Nat} {x : Nat} (h : TimesRel p q p.length 0 x o 0) : Lims o ∧ val o = val p * val q := by
  obtain ⟨h1, h2, h3, h4, h5⟩ := h
  refine ⟨h2, ?_⟩
  rw [List.take_length] at h5
  simpa [val] using h5

set_option maxHeartbeats 4000000 in
theorem times_any (va vb : Value) (a b k0 : Nat) (w : World) (ha : NV w va a) (hb : NV w vb b) (hka : a < 2 ^ k0) (hkb : b < 2 ^ k0) (hk0 : k0 ≤ 3000000) :
    Calls Tryd.prog 93 #[va, vb] w (RetNV w (a * b)) := by
  obtain ⟨l, hl, el, ⟨-, aa, ca, rfl, hca, hma, hA⟩, hll⟩ := ha.len hka
  obtain ⟨m, hm, em, ⟨-, ab, cb, rfl, hcb, hmb, hB⟩, hml⟩ := hb.len hkb
  unfold maxLen at hma hmb
  have EL := Lib.hid el
  have EM := Lib.hid em
  clear ha hb hka hkb el em
  rcases hA with hP | ⟨bp, op, rfl, hbp, hcP⟩
  all_goals rcases hB with hQ | ⟨bq, oq, rfl, hbq, hcQ⟩
  all_goals
    go_enter Tryd.func93, Tryd.ntmps93
    go_wp2_with (refine wpList_make_limbs rfl _ _ rfl _ _ (l.length + m.length) (l.length + m.length) rfl rfl (by simp) (by simp) (Nat.le_refl _) (by omega) ?_; intro w1 hown1 hb1)
    go_loopw [19] (fun i wr => ∃ (k : Nat) (o : List Nat), k ≤ l.length ∧ i = .int .i64 k ∧ wr.ownsRow w.heap.size 71 1 (.slice (some ⟨w.heap.size, 0, none⟩) (l.length + m.length) (l.length + m.length)) (l.length + m.length) (lc o) ∧ TimesRel l m k 0 0 o 0 ∧ Below w.heap.size w wr)
      (fun i _ => l.length - (intOf i).toNat)
    case atStart => exact ⟨0, _, Nat.zero_le _, rfl, hown1, TimesRel.start _ _ _, hb1⟩
    case round =>
      obtain ⟨k, o, hk, rfl, hown, hrel, hbel⟩ := hrel
      have REL := Lib.hid hrel
      clear hrel
      obtain ⟨wo, rfl⟩ : ∃ wo : World, wo = wr := ⟨_, rfl⟩
      by_cases hkp : k < l.length
      · first
          | (exfalso; omega)
          | (obtain ⟨x, hx⟩ : ∃ x, x = l.getD k 0 := ⟨_, rfl⟩
             have hx1 : x < 4294967296 := by rw [hx]; exact hl.1.getD k
             have hcx := (hbel.cell (p := ⟨bp, op + k, none⟩) hbp).trans (hcP k hkp)
             rw [← hx] at hcx
             have HX := Lib.hid hx
             have HCP := Lib.hid hcP
             clear hx hcP
             try (have HCQ := Lib.hid hcQ; clear hcQ)
             go_wp2
             go_loopw [8, 26] (fun c i wr => ∃ (j cn : Nat) (o : List Nat), j ≤ m.length ∧ i = .int .i64 j ∧ c = .int .u64 ((cn : Nat) : Int) ∧ wr.ownsRow w.heap.size 71 1 (.slice (some ⟨w.heap.size, 0, none⟩) (l.length + m.length) (l.length + m.length)) (l.length + m.length) (lc o) ∧ TimesRel l m k j x o cn ∧ Below w.heap.size w wr)
               (fun _ i _ => m.length - (intOf i).toNat)
             case atStart => exact ⟨0, 0, o, Nat.zero_le _, rfl, rfl, hown, REL.out.other x rfl, hbel⟩
             case round =>
               clear hown hbel hcx
               clear REL
               obtain ⟨j, cn, o, hj, rfl, rfl, hown, hrel, hbel⟩ := hrel
               have hcn : cn < 4294967296 := hrel.2.2.1
               have REL := Lib.hid hrel
               clear hrel
               by_cases hjq : j < m.length
               · first
                   | (exfalso; omega)
                   | (obtain ⟨y, hy⟩ : ∃ y, y = m.getD j 0 := ⟨_, rfl⟩
                      have hy1 : y < 4294967296 := by rw [hy]; exact hm.1.getD j
                      have hcy := (hbel.cell (p := ⟨bq, oq + j, none⟩) hbq).trans (HCQ.out j hjq)
                      rw [← hy] at hcy
                      have HY := Lib.hid hy
                      obtain ⟨z, hz⟩ : ∃ z, z = o.getD (k + j) 0 := ⟨_, rfl⟩
                      have hz1 : z < 4294967296 := by rw [hz]; exact REL.out.2.1.getD _
                      obtain ⟨hcz, hfz⟩ := own_cell hown (k + j) (by omega)
                      rw [← hz] at hcz
                      have HZ := Lib.hid hz
                      have hxy1 : (x : Int) * (y : Int) ≤ 18446744065119617025 := by
                        have : x * y ≤ 4294967295 * 4294967295 := Nat.mul_le_mul (by omega) (by omega)
                        have h2 : ((x * y : Nat) : Int) ≤ 18446744065119617025 := by omega
                        rwa [Int.natCast_mul] at h2
                      have hxy0 : 0 ≤ (x : Int) * (y : Int) := by rw [← Int.natCast_mul]; omega
                      have hst := @own_store w w.heap.size w.heap.size
                      clear hst hy hz
                      have HOWN := Lib.hid hown
                      clear hown
                      go_wp2
                      go_roundw
                      case rel =>
                        refine ⟨j + 1, (cn + (x * y + z)) / 4294967296, _, by omega, by go_num, ?_, own_store HOWN.out (k + j) ((cn + (x * y + z)) % 4294967296) ?_, REL.out.step hkp hjq hx1 hy1 HY.out HZ.out, ?_⟩
                        · simp
                        · simp
                        · exact hbel.setCell (by simp) _
                      case measure => simp [intOf]; omega)
               · have hje : j = m.length := by omega
                 have hrow : TimesRel l m (k + 1) 0 0 (o.set (k + m.length) cn) 0 := by
                   have := REL.out; rw [hje] at this; exact this.row hkp HX.out 0
                 obtain ⟨hcz, hfz⟩ := own_cell hown (k + m.length) (by omega)
                 have ROW := Lib.hid hrow
                 have HOWN := Lib.hid hown
                 clear hje hrow hown
                 go_wp2
                 go_roundw
                 case rel => exact ⟨k + 1, _, by omega, by go_num, own_store HOWN.out (k + m.length) cn (by simp), ROW.out, hbel.setCell (by simp) _⟩
                 case measure => simp [intOf]; omega)
      · have hke : k = l.length := by omega
        have hfin : Lims o ∧ val o = a * b := by
          have := REL.out; rw [hke] at this
          have h2 := this.fin
          rw [EL.out, EM.out] at h2
          exact h2
        have FIN := Lib.hid hfin
        clear hke hfin
        try clear hcP
        try clear hcQ
        go_wp2_with fail
        refine (norm_any _ _ _ (own_lim2 hown FIN.out.1)).mono ?_
        rintro e w2 ⟨⟨v2, rfl, hn2⟩, rfl⟩
        rw [FIN.out.2] at hn2
        go_wp2
        go_ret
        exact ⟨v2, rfl, hn2, hbel⟩
end Go.Proofs.YtdknfdncgmeimaaDoor
