/-
  THE WALKS of package nat: Minus.
-/
import Derived.Test.YtdknfdncgmeimaaDoorPush
set_option linter.unusedVariables false
set_option linter.unusedSimpArgs false
namespace Go.Proofs.YtdknfdncgmeimaaDoor
open Go.RowKit Nt

/-- a borrow, limb by limb -/
def MinusRel (p q : List Nat) (k : Nat) (o : List Nat) (c : Nat) : Prop := o.length = k ∧ Lims o ∧ c ≤ 1 ∧ val o + val (q.take k) = val (p.take k) + 2 ^ (32 * k) * c
theorem MinusRel.start (p q : List Nat) : MinusRel p q 0 [] 0 := ⟨rfl, Lims.nil, by omega, by simp [val]⟩
theorem minus_arith {A W c x y d e P Q : Nat} (h : A + Q = P + W * c) (hd : d + c + y = x + 4294967296 * e) : A + W * d + (Q + W * y) = P + W * x + 4294967296 * W * e := by
  have h1 : W * (d + c + y) = W * (x + 4294967296 * e) := by rw [hd]
  rw [Nat.mul_add, Nat.mul_add, Nat.mul_add, ← Nat.mul_assoc, Nat.mul_comm W 4294967296] at h1
  omega
theorem MinusRel.step {p q o : List Nat} {k c x y d e : Nat} (h : MinusRel p q k o c) (hk : k < p.length) (hx : x = p.getD k 0) (hy : y = q.getD k 0)
    (hd : d + c + y = x + 4294967296 * e) (hd1 : d < 4294967296) (he : e ≤ 1) : MinusRel p q (k + 1) (o ++ [d]) e := by
  obtain ⟨h1, h2, h3, h4⟩ := h
  refine ⟨by rw [List.length_append, h1]; rfl, h2.snoc hd1, he, ?_⟩
  rw [val_snoc, h1, pow32_succ, val_take_succ p k hk]
  have e1 : p[k] = x := by rw [hx]; simp [List.getD, hk]
  have e2 : val (q.take (k + 1)) = val (q.take k) + 2 ^ (32 * k) * y := by
    by_cases hkq : k < q.length
    · rw [val_take_succ q k hkq, hy]; simp [List.getD, hkq]
    · rw [List.take_of_length_le (by omega), List.take_of_length_le (by omega), hy]; simp [List.getD, List.getElem?_eq_none (Nat.le_of_not_lt hkq)]
  rw [e1, e2]
  exact minus_arith h4 hd
theorem MinusRel.fin {p q o : List Nat} {c : Nat} (h : MinusRel p q p.length o c) (hq : q.length ≤ p.length) (hle : val q ≤ val p) : Lims o ∧ val o = val p - val q := by
  obtain ⟨h1, h2, h3, h4⟩ := h
  refine ⟨h2, ?_⟩
  rw [List.take_length, List.take_of_length_le hq] at h4
  have h5 := val_lt h2
  rw [h1] at h5
  have h6 : c = 0 ∨ c = 1 := by omega
  rcases h6 with h6 | h6 <;> subst h6 <;> omega
theorem len_le_of_val {l m : List Nat} (hl : Nrm l) (hm : Nrm m) (h : val m ≤ val l) : m.length ≤ l.length := by
  rcases Nat.lt_or_ge l.length m.length with h1 | h1
  · have := val_lt_len hl hm h1; omega
  · exact h1

set_option maxHeartbeats 2000000 in
theorem minus_any (va vb : Value) (a b k0 : Nat) (w : World) (ha : NV w va a) (hb : NV w vb b) (hle : b ≤ a) (hka : a < 2 ^ k0) (hk0 : k0 ≤ 3000000) :
    Calls Tryd.prog 92 #[va, vb] w (RetNV w (a - b)) := by
  obtain ⟨l, hl, el, ⟨-, aa, ca, rfl, hca, hma, hA⟩, hll⟩ := ha.len hka
  obtain ⟨m, hm, em, ⟨-, ab, cb, rfl, hcb, hmb, hB⟩, hml⟩ := hb.len (Nat.lt_of_le_of_lt hle hka)
  unfold maxLen at hma hmb
  have hlen : m.length ≤ l.length := len_le_of_val hl hm (by omega)
  have EL := Lib.hid el
  have EM := Lib.hid em
  have HLE := Lib.hid hle
  clear ha hb hka el em hle
  rcases hA with hP | ⟨bp, op, rfl, hbp, hcP⟩
  all_goals rcases hB with hQ | ⟨bq, oq, rfl, hbq, hcQ⟩
  all_goals first
    | (exfalso; omega)
    | skip
  all_goals
    go_enter Tryd.func92, Tryd.ntmps92
    go_wp2
    go_loopw [5, 6, 12] (fun v c i wr => ∃ (k cn : Nat) (o : List Nat), k ≤ l.length ∧ i = .int .i64 k ∧ c = .int .i64 ((cn : Nat) : Int) ∧ wr.ownsRow w.heap.size 71 1 v o.length (lc o) ∧ MinusRel l m k o cn ∧ Below w.heap.size w wr)
      (fun _ _ i _ => l.length - (intOf i).toNat)
    case atStart => exact ⟨0, 0, [], Nat.zero_le _, rfl, rfl, own_nil _ _, MinusRel.start _ _, Below.refl _ _⟩
    case round =>
      obtain ⟨k, cn, o, hk, rfl, rfl, hown, hrel, hbel⟩ := hrel
      have hcn : cn ≤ 1 := hrel.2.2.1
      have hol : o.length ≤ 1000000 := by rw [hrel.1]; omega
      have hsz := hbel.size
      have REL := Lib.hid hrel
      clear hrel
      by_cases hkp : k < l.length
      · first
          | (exfalso; omega)
          | (obtain ⟨x, hx⟩ : ∃ x, x = l.getD k 0 := ⟨_, rfl⟩
             have hx1 : x < 4294967296 := by rw [hx]; exact hl.1.getD k
             have hcx := (hbel.cell (p := ⟨bp, op + k, none⟩) hbp).trans (hcP k hkp)
             rw [← hx] at hcx
             have HX := Lib.hid hx
             obtain ⟨y, hy⟩ : ∃ y, y = m.getD k 0 := ⟨_, rfl⟩
             have hy1 : y < 4294967296 := by rw [hy]; exact hm.1.getD k
             have HY := Lib.hid hy
             by_cases hkq : k < m.length
             · first
                 | (exfalso; omega)
                 | (have hcy := (hbel.cell (p := ⟨bq, oq + k, none⟩) hbq).trans (hcQ k hkq)
                    rw [← hy] at hcy
                    clear hx hy hcP hcQ
                    by_cases hneg : x < cn + y
                    · go_wp2_with (at_builtin; refine wpList_push rfl _ _ rfl w.heap.size hsz _ o rfl hown (x + 4294967296 - cn - y) rfl (by omega) (by omega) ?_; intro v' w1 hown1 hb1)
                      go_roundw
                      case rel => exact ⟨k + 1, 1, _, by omega, by go_num, by simp, hown1, REL.out.step hkp HX.out HY.out (by omega) (by omega) (by omega), hbel.trans hb1⟩
                      case measure => simp [intOf]; omega
                    · go_wp2_with (at_builtin; refine wpList_push rfl _ _ rfl w.heap.size hsz _ o rfl hown (x - cn - y) rfl (by omega) (by omega) ?_; intro v' w1 hown1 hb1)
                      go_roundw
                      case rel => exact ⟨k + 1, 0, _, by omega, by go_num, by simp, hown1, REL.out.step hkp HX.out HY.out (by omega) (by omega) (by omega), hbel.trans hb1⟩
                      case measure => simp [intOf]; omega)
             · have hy0 : y = 0 := by rw [hy]; simp [List.getD, List.getElem?_eq_none (Nat.le_of_not_lt hkq)]
               have HY0 := Lib.hid hy0
               clear hx hy hcP hy0
               try clear hcQ
               by_cases hneg : x < cn
               · go_wp2_with (at_builtin; refine wpList_push rfl _ _ rfl w.heap.size hsz _ o rfl hown (x + 4294967296 - cn) rfl (by omega) (by omega) ?_; intro v' w1 hown1 hb1)
                 go_roundw
                 case rel => exact ⟨k + 1, 1, _, by omega, by go_num, by simp, hown1, REL.out.step hkp HX.out HY.out (by have := HY0.out; omega) (by omega) (by omega), hbel.trans hb1⟩
                 case measure => simp [intOf]; omega
               · go_wp2_with (at_builtin; refine wpList_push rfl _ _ rfl w.heap.size hsz _ o rfl hown (x - cn) rfl (by omega) (by omega) ?_; intro v' w1 hown1 hb1)
                 go_roundw
                 case rel => exact ⟨k + 1, 0, _, by omega, by go_num, by simp, hown1, REL.out.step hkp HX.out HY.out (by have := HY0.out; omega) (by omega) (by omega), hbel.trans hb1⟩
                 case measure => simp [intOf]; omega)
      · have hke : k = l.length := by omega
        have hfin : Lims o ∧ val o = a - b := by
          have := REL.out; rw [hke] at this
          have h2 := this.fin (by omega) (by rw [EL.out, EM.out]; exact HLE.out)
          rw [EL.out, EM.out] at h2
          exact h2
        have FIN := Lib.hid hfin
        clear hke hfin
        try clear hcP
        try clear hcQ
        go_wp2_with fail
        refine (norm_any _ _ _ (own_lim' hown FIN.out.1)).mono ?_
        rintro e w2 ⟨⟨v2, rfl, hn2⟩, rfl⟩
        rw [FIN.out.2] at hn2
        go_wp2
        go_ret
        exact ⟨v2, rfl, hn2, hbel⟩
end Go.Proofs.YtdknfdncgmeimaaDoor
