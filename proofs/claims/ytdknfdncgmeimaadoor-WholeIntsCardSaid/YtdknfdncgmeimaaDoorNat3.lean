/-
  THE WALKS of package nat: Plus.
-/
import Derived.Test.YtdknfdncgmeimaaDoorPush
set_option linter.unusedVariables false
set_option linter.unusedSimpArgs false
namespace Go.Proofs.YtdknfdncgmeimaaDoor
open Go.RowKit Nt

/-- a carry, limb by limb -/
def PlusRel (p q : List Nat) (k : Nat) (o : List Nat) (c : Nat) : Prop := o.length = k ∧ Lims o ∧ c ≤ 1 ∧ val o + 2 ^ (32 * k) * c = val (p.take k) + val (q.take k)
theorem PlusRel.start (p q : List Nat) : PlusRel p q 0 [] 0 := ⟨rfl, Lims.nil, by omega, by simp [val]⟩
theorem step_arith {A W c x y : Nat} {P Q : Nat} (h : A + W * c = P + Q) : A + W * ((c + x + y) % 4294967296) + 4294967296 * W * ((c + x + y) / 4294967296) = P + W * x + (Q + W * y) := by
  have h1 := Nat.div_add_mod (c + x + y) 4294967296
  have h2 : W * ((c + x + y) % 4294967296) + 4294967296 * W * ((c + x + y) / 4294967296) = W * (c + x + y) := by
    rw [Nat.mul_comm 4294967296 W, Nat.mul_assoc, ← Nat.mul_add]; congr 1; omega
  rw [Nat.mul_add, Nat.mul_add] at h2
  omega
theorem PlusRel.step {p q o : List Nat} {k c x y : Nat} (h : PlusRel p q k o c) (hk : k < p.length) (hx : x = p.getD k 0) (hy : y = q.getD k 0) (hp : Lims p) (hq : Lims q) :
    PlusRel p q (k + 1) (o ++ [(c + x + y) % 4294967296]) ((c + x + y) / 4294967296) := by
  obtain ⟨h1, h2, h3, h4⟩ := h
  have hx1 : x < 4294967296 := by rw [hx]; exact hp.getD k
  have hy1 : y < 4294967296 := by rw [hy]; exact hq.getD k
  refine ⟨by rw [List.length_append, h1]; rfl, h2.snoc (Nat.mod_lt _ (by decide)), by omega, ?_⟩
  rw [val_snoc, h1, pow32_succ, val_take_succ p k hk]
  have e1 : p[k] = x := by rw [hx]; simp [List.getD, hk]
  have e2 : val (q.take (k + 1)) = val (q.take k) + 2 ^ (32 * k) * y := by
    by_cases hkq : k < q.length
    · rw [val_take_succ q k hkq, hy]; simp [List.getD, hkq]
    · rw [List.take_of_length_le (by omega), List.take_of_length_le (by omega), hy]; simp [List.getD, List.getElem?_eq_none (Nat.le_of_not_lt hkq)]
  rw [e1, e2]
  exact step_arith h4
theorem PlusRel.fin {p q o : List Nat} {c : Nat} (h : PlusRel p q p.length o c) (hq : q.length ≤ p.length) : Lims (o ++ [c]) ∧ val (o ++ [c]) = val p + val q := by
  obtain ⟨h1, h2, h3, h4⟩ := h
  refine ⟨h2.snoc (by omega), ?_⟩
  rw [val_snoc, h1, h4, List.take_length, List.take_of_length_le hq]

set_option maxHeartbeats 2000000 in
theorem plus_any (va vb : Value) (a b k0 : Nat) (w : World) (ha : NV w va a) (hb : NV w vb b) (hka : a < 2 ^ k0) (hkb : b < 2 ^ k0) (hk0 : k0 ≤ 3000000) :
    Calls Tryd.prog 90 #[va, vb] w (RetNV w (a + b)) := by
  obtain ⟨l, hl, el, ⟨-, aa, ca, rfl, hca, hma, hA⟩, hll⟩ := ha.len hka
  obtain ⟨m, hm, em, ⟨-, ab, cb, rfl, hcb, hmb, hB⟩, hml⟩ := hb.len hkb
  unfold maxLen at hma hmb
  have EL := Lib.hid el
  have EM := Lib.hid em
  clear ha hb hka hkb el em
  by_cases hlt : l.length < m.length
  · rcases hB with hP | ⟨bp, op, rfl, hbp, hcP⟩
    all_goals rcases hA with hQ | ⟨bq, oq, rfl, hbq, hcQ⟩
    all_goals first
      | (exfalso; omega)
      | skip
    all_goals
      go_enter Tryd.func90, Tryd.ntmps90
      go_wp2
      go_loopw [5, 6, 18] (fun v c i wr => ∃ (k cn : Nat) (o : List Nat), k ≤ m.length ∧ i = .int .i64 k ∧ c = .int .u64 ((cn : Nat) : Int) ∧ wr.ownsRow w.heap.size 71 1 v o.length (lc o) ∧ PlusRel m l k o cn ∧ Below w.heap.size w wr)
        (fun _ _ i _ => m.length - (intOf i).toNat)
      case atStart => exact ⟨0, 0, [], Nat.zero_le _, rfl, rfl, own_nil _ _, PlusRel.start _ _, Below.refl _ _⟩
      case round =>
        obtain ⟨k, cn, o, hk, rfl, rfl, hown, hrel, hbel⟩ := hrel
        have hcn : cn ≤ 1 := hrel.2.2.1
        have hol : o.length ≤ 1000000 := by rw [hrel.1]; omega
        have hsz := hbel.size
        have REL := Lib.hid hrel
        clear hrel
        by_cases hkp : k < m.length
        · first
            | (exfalso; omega)
            | (obtain ⟨x, hx⟩ : ∃ x, x = m.getD k 0 := ⟨_, rfl⟩
               have hx1 : x < 4294967296 := by rw [hx]; exact hm.1.getD k
               have hcx := (hbel.cell (p := ⟨bp, op + k, none⟩) hbp).trans (hcP k hkp)
               rw [← hx] at hcx
               have HX := Lib.hid hx
               obtain ⟨y, hy⟩ : ∃ y, y = l.getD k 0 := ⟨_, rfl⟩
               have hy1 : y < 4294967296 := by rw [hy]; exact hl.1.getD k
               have HY := Lib.hid hy
               by_cases hkq : k < l.length
               · first
                   | (exfalso; omega)
                   | (have hcy := (hbel.cell (p := ⟨bq, oq + k, none⟩) hbq).trans (hcQ k hkq)
                      rw [← hy] at hcy
                      clear hx hy hcP hcQ
                      go_wp2_with (at_builtin; refine wpList_push rfl _ _ rfl w.heap.size hsz _ o rfl hown ((cn + x + y) % 4294967296) rfl (by omega) (by omega) ?_; intro v' w1 hown1 hb1)
                      go_roundw
                      case rel => exact ⟨k + 1, (cn + x + y) / 4294967296, _, by omega, by go_num, by simp, hown1, REL.out.step hkp HX.out HY.out hm.1 hl.1, hbel.trans hb1⟩
                      case measure => simp [intOf]; omega)
               · have hy0 : y = 0 := by rw [hy]; simp [List.getD, List.getElem?_eq_none (Nat.le_of_not_lt hkq)]
                 have HY0 := Lib.hid hy0
                 clear hx hy hcP hy0
                 try clear hcQ
                 go_wp2_with (at_builtin; refine wpList_push rfl _ _ rfl w.heap.size hsz _ o rfl hown ((cn + x) % 4294967296) rfl (by omega) (by omega) ?_; intro v' w1 hown1 hb1)
                 go_roundw
                 case rel =>
                   refine ⟨k + 1, (cn + x) / 4294967296, _, by omega, by go_num, by simp, hown1, ?_, hbel.trans hb1⟩
                   have := REL.out.step hkp HX.out HY.out hm.1 hl.1
                   rw [HY0.out] at this; exact this
                 case measure => simp [intOf]; omega)
        · have hke : k = m.length := by omega
          have hfin : Lims (o ++ [cn]) ∧ val (o ++ [cn]) = a + b := by
            have := REL.out; rw [hke] at this
            have h2 := this.fin (by omega)
            refine ⟨h2.1, ?_⟩
            rw [h2.2, Nat.add_comm, EL.out, EM.out]
          have FIN := Lib.hid hfin
          clear hke hfin
          try clear hcP
          try clear hcQ
          go_wp2_with (at_builtin; refine wpList_push rfl _ _ rfl w.heap.size hsz _ o rfl hown cn rfl (by omega) (by omega) ?_; intro v' w1 hown1 hb1)
          refine (norm_any _ _ _ (own_lim' hown1 FIN.out.1)).mono ?_
          rintro e w2 ⟨⟨v2, rfl, hn2⟩, rfl⟩
          rw [FIN.out.2] at hn2
          go_wp2
          go_ret
          exact ⟨v2, rfl, hn2, hbel.trans hb1⟩
  · rcases hA with hP | ⟨bp, op, rfl, hbp, hcP⟩
    all_goals rcases hB with hQ | ⟨bq, oq, rfl, hbq, hcQ⟩
    all_goals first
      | (exfalso; omega)
      | skip
    all_goals
      go_enter Tryd.func90, Tryd.ntmps90
      go_wp2
      go_loopw [5, 6, 18] (fun v c i wr => ∃ (k cn : Nat) (o : List Nat), k ≤ l.length ∧ i = .int .i64 k ∧ c = .int .u64 ((cn : Nat) : Int) ∧ wr.ownsRow w.heap.size 71 1 v o.length (lc o) ∧ PlusRel l m k o cn ∧ Below w.heap.size w wr)
        (fun _ _ i _ => l.length - (intOf i).toNat)
      case atStart => exact ⟨0, 0, [], Nat.zero_le _, rfl, rfl, own_nil _ _, PlusRel.start _ _, Below.refl _ _⟩
      case round =>
        obtain ⟨k, cn, o, hk, rfl, rfl, hown, hrel, hbel⟩ := hrel
        have hcn : cn ≤ 1 := hrel.2.2.1
        have hol : o.length ≤ 1000000 := by rw [hrel.1]; omega
        have hsz := hbel.size
        have REL := Lib.hid hrel
        clear hrel
        by_cases hkp : k < l.length
        · first
            | (exfalso; omega)
            | (obtain ⟨x, hx⟩ : ∃ x, x = l.getD k 0 := ⟨_, rfl⟩
               have hx1 : x < 4294967296 := by rw [hx]; exact hl.1.getD k
               have hcx := (hbel.cell (p := ⟨bp, op + k, none⟩) hbp).trans (hcP k hkp)
               rw [← hx] at hcx
               have HX := Lib.hid hx
               obtain ⟨y, hy⟩ : ∃ y, y = m.getD k 0 := ⟨_, rfl⟩
               have hy1 : y < 4294967296 := by rw [hy]; exact hm.1.getD k
               have HY := Lib.hid hy
               by_cases hkq : k < m.length
               · first
                   | (exfalso; omega)
                   | (have hcy := (hbel.cell (p := ⟨bq, oq + k, none⟩) hbq).trans (hcQ k hkq)
                      rw [← hy] at hcy
                      clear hx hy hcP hcQ
                      go_wp2_with (at_builtin; refine wpList_push rfl _ _ rfl w.heap.size hsz _ o rfl hown ((cn + x + y) % 4294967296) rfl (by omega) (by omega) ?_; intro v' w1 hown1 hb1)
                      go_roundw
                      case rel => exact ⟨k + 1, (cn + x + y) / 4294967296, _, by omega, by go_num, by simp, hown1, REL.out.step hkp HX.out HY.out hl.1 hm.1, hbel.trans hb1⟩
                      case measure => simp [intOf]; omega)
               · have hy0 : y = 0 := by rw [hy]; simp [List.getD, List.getElem?_eq_none (Nat.le_of_not_lt hkq)]
                 have HY0 := Lib.hid hy0
                 clear hx hy hcP hy0
                 try clear hcQ
                 go_wp2_with (at_builtin; refine wpList_push rfl _ _ rfl w.heap.size hsz _ o rfl hown ((cn + x) % 4294967296) rfl (by omega) (by omega) ?_; intro v' w1 hown1 hb1)
                 go_roundw
                 case rel =>
                   refine ⟨k + 1, (cn + x) / 4294967296, _, by omega, by go_num, by simp, hown1, ?_, hbel.trans hb1⟩
                   have := REL.out.step hkp HX.out HY.out hl.1 hm.1
                   rw [HY0.out] at this; exact this
                 case measure => simp [intOf]; omega)
        · have hke : k = l.length := by omega
          have hfin : Lims (o ++ [cn]) ∧ val (o ++ [cn]) = a + b := by
            have := REL.out; rw [hke] at this
            have h2 := this.fin (by omega)
            refine ⟨h2.1, ?_⟩
            rw [h2.2, EL.out, EM.out]
          have FIN := Lib.hid hfin
          clear hke hfin
          try clear hcP
          try clear hcQ
          go_wp2_with (at_builtin; refine wpList_push rfl _ _ rfl w.heap.size hsz _ o rfl hown cn rfl (by omega) (by omega) ?_; intro v' w1 hown1 hb1)
          refine (norm_any _ _ _ (own_lim' hown1 FIN.out.1)).mono ?_
          rintro e w2 ⟨⟨v2, rfl, hn2⟩, rfl⟩
          rw [FIN.out.2] at hn2
          go_wp2
          go_ret
          exact ⟨v2, rfl, hn2, hbel.trans hb1⟩
end Go.Proofs.YtdknfdncgmeimaaDoor
