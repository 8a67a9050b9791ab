/-
  SOME OF MY TEXTS in one: Nat1 Nat2 Push Nat3 Nat4 Nat5 Nat6 Nat8 NatC. Each says what it proves.
-/
import Derived.Test.YtofdjfdnckmmmaaGreatDoorChecked
import Derived.WalkKit
import Derived.WalkLawsBesides
import Derived.WalkSpells
import Derived.Handy
import Derived.BigQuiet
import Derived.Deep.QuietTactic
import Derived.Test.YtofdjfdnckmmmaaGreatDoorBa
import Derived.Maps.AppendAt
set_option linter.unusedVariables false
set_option linter.unusedSimpArgs false
/-
  THE WALKS of package nat: norm, Of, Check, Compare.
-/
namespace Go.Proofs.YtofdjfdnckmmmaaGreatDoor
open Go.RowKit Nt

theorem clip_any (ao : Option Addr) (n cap : Nat) (w : World) (h : n ≤ cap) (hm : cap ≤ 9223372036854775807) :
    Calls Tryz.prog 139 #[.slice ao n cap] w fun e w' => e = .returned (.slice ao n n) ∧ w = w' := by

  go_enter Tryz.func139, Tryz.ntmps139
  go_wp2
  go_ret
  exact ⟨by simp, rfl⟩

/-- what is taken off -/
theorem strip_step {l : List Nat} {k : Nat} (hk : k + 1 ≤ l.length) (h : val (l.take (k + 1)) = val l) (h0 : l[k]'(by omega) = 0) : val (l.take k) = val l := by
  rw [val_take_succ l k (by omega), h0] at h; omega
theorem strip_end {l : List Nat} {k : Nat} (hl : Lims l) (hk : k ≤ l.length) (h0 : ∀ j, k = j + 1 → l.getD j 0 ≠ 0) : Nrm (l.take k) := by
  refine ⟨hl.take k, ?_⟩
  rcases Nat.eq_zero_or_pos k with h | h
  · subst h; simp
  · obtain ⟨j, rfl⟩ : ∃ j, k = j + 1 := ⟨k - 1, by omega⟩
    have h1 := h0 j rfl
    rw [List.getLast?_eq_getElem?, List.length_take, Nat.min_eq_left hk, Nat.add_sub_cancel, List.getElem?_take]
    simp only [Nat.lt_succ_self, if_true]
    intro h2; apply h1; rw [List.getD, h2]; rfl
theorem lim_take {w : World} {ao : Option Addr} {l : List Nat} {cap k : Nat} (hl : Lims l) (hk : k ≤ l.length) (hc : l.length ≤ cap) (hm : cap ≤ maxLen)
    (h : l.length ≤ 0 ∨ ∃ b off, ao = some ⟨b, off, none⟩ ∧ b < w.heap.size ∧ ∀ i, i < l.length → w.cell? ⟨b, off + i, none⟩ = some (.int .u32 ((l.getD i 0 : Nat) : Int))) :
    Lim w (.slice ao k k) (l.take k) := by
  have hlen : (l.take k).length = k := by rw [List.length_take, Nat.min_eq_left hk]
  refine ⟨hl.take k, ao, k, by rw [hlen], by omega, by omega, ?_⟩
  rw [hlen]
  rcases h with h | ⟨b, off, h1, h2, h3⟩
  · left; omega
  · right; refine ⟨b, off, h1, h2, fun i hi => ?_⟩
    rw [h3 i (by omega)]
    simp [List.getD, List.getElem?_take, hi]

/-- .. as a number that has no room behind it -/
def NVc (B : Nat) (w : World) (v : Value) (n : Nat) : Prop := ∃ l ao, Nrm l ∧ val l = n ∧ Lim w v l ∧ v = .slice ao l.length l.length ∧ ∀ p, ao = some p → B ≤ p.block
theorem NVc.nv {B : Nat} {w : World} {v : Value} {n : Nat} (h : NVc B w v n) : NV w v n := by
  obtain ⟨l, ao, h1, h2, h3, h4, -⟩ := h
  exact ⟨l, h1, h2, h3⟩
theorem lim_clip {B : Nat} {w : World} {ao : Option Addr} {l : List Nat} {k n : Nat} (h : Lim w (.slice ao k k) (l.take k)) (hk : k ≤ l.length) (hn : Nrm (l.take k)) (hv : val (l.take k) = n) (hB : ∀ p, ao = some p → B ≤ p.block) : NVc B w (.slice ao k k) n :=
  ⟨l.take k, ao, hn, hv, h, by rw [List.length_take, Nat.min_eq_left hk], hB⟩
theorem norm_clip (v : Value) (l : List Nat) (B : Nat) (w : World) (hv : Lim w v l) (hBv : ∀ ao n c p, v = .slice ao n c → ao = some p → B ≤ p.block) :
    Calls Tryz.prog 104 #[v] w fun e w' => (∃ v', e = .returned v' ∧ NVc B w' v' (val l)) ∧ w = w' := by
  obtain ⟨hl, ao, cap, rfl, hcap, hm, hc⟩ := hv
  have HB := Lib.hid (fun p => hBv _ _ _ p rfl)
  clear hBv
  have hc0 := hc
  rcases hc with h0 | ⟨b, off, rfl, hb, hcell⟩
  all_goals
    have hm' := hm
    unfold maxLen at hm'
    have HM := Lib.hid hm
    have HC := Lib.hid hc0
    clear hm hc0
    go_enter Tryz.func104, Tryz.ntmps104
    go_wp2
    go_loop [0] (fun a => ∃ k : Nat, k ≤ l.length ∧ a = .slice _ k cap ∧ val (l.take k) = val l) (fun a => match a with | .slice _ n _ => n | _ => 0)
    case atStart => exact ⟨l.length, Nat.le_refl _, rfl, by rw [List.take_length]⟩
    case round =>
      obtain ⟨k, hk, rfl, hval⟩ := hrel
      have HV := Lib.hid hval
      clear hval
      by_cases hk0 : 0 < k
      · first
          | (exfalso; omega)
          | (obtain ⟨j, rfl⟩ : ∃ j, k = j + 1 := ⟨k - 1, by omega⟩
             obtain ⟨d, hd⟩ : ∃ d, d = l.getD j 0 := ⟨_, rfl⟩
             have hck := hcell j (by omega)
             rw [← hd] at hck
             have HD := Lib.hid hd
             clear hd
             by_cases hz : d = 0
             · subst hz
               go_wp2
               go_round
               case rel =>
                 refine ⟨j, by omega, by simp, strip_step (by omega) HV.out ?_⟩
                 have := HD.out
                 simp only [List.getD, List.getElem?_eq_getElem (show j < l.length by omega), Option.getD_some] at this
                 exact this.symm
               case measure => simp
             · have hz2 : ((d : Int) == 0) = false := by rw [beq_eq_false_iff_ne]; omega
               go_wp2_with (go_at_call 139; refine (clip_any _ _ _ _ (by omega) (by omega)).mono ?_; rintro e w' ⟨rfl, rfl⟩)
               go_ret
               refine ⟨⟨_, rfl, ?_⟩, rfl⟩
               have hn : Nrm (l.take (j + 1)) := strip_end hl (by omega) (fun i hi => by obtain rfl : i = j := by omega
                                                                                         rw [← HD.out]; exact hz)
               have := lim_clip (lim_take hl (show j + 1 ≤ l.length by omega) hcap HM.out HC.out) (by omega) hn HV.out HB.out
               simpa using this)
      · obtain rfl : k = 0 := by omega
        go_wp2_with (go_at_call 139; refine (clip_any _ _ _ _ (by omega) (by omega)).mono ?_; rintro e w' ⟨rfl, rfl⟩)
        go_ret
        refine ⟨⟨_, rfl, ?_⟩, rfl⟩
        have hn : Nrm (l.take 0) := strip_end hl (by omega) (fun i hi => by omega)
        have := lim_clip (lim_take hl (Nat.zero_le _) hcap HM.out HC.out) (Nat.zero_le _) hn HV.out HB.out
        simpa using this
theorem norm_any (v : Value) (l : List Nat) (w : World) (hv : Lim w v l) :
    Calls Tryz.prog 104 #[v] w fun e w' => (∃ v', e = .returned v' ∧ NV w v' (val l)) ∧ w = w' :=
  (norm_clip v l 0 w hv (fun _ _ _ _ _ _ => Nat.zero_le _)).mono fun e w1 ⟨⟨v1, h1, h2⟩, h3⟩ => ⟨⟨v1, h1, by rw [h3]; exact h2.nv⟩, h3⟩
end Go.Proofs.YtofdjfdnckmmmaaGreatDoor

/-
  THE WALKS of package nat: Of, Check, Compare.
-/
namespace Go.Proofs.YtofdjfdnckmmmaaGreatDoor
open Go.RowKit Nt

/-- a callee that only computes, called where some draws lie behind -/
theorem quiet_later {P : Program} {f : FuncId} {args : Array Value} {w : World} {a n : Nat} {v : Value} (h : ∀ W, Calls P f args W fun e w' => e = .returned v ∧ w' = W) :
    Calls P f args (w.drewN (a + n)) fun e w' => e = .returned v ∧ ∃ m, w' = w.drewN (a + m) :=
  (h _).mono fun _ _ ⟨he, hw⟩ => ⟨he, n, hw⟩

theorem lim_two {w : World} {x : Int} (T : TypeId) (h0 : 0 ≤ x) (h1 : x ≤ 18446744073709551615) :
    Lim (w.alloc (.cells #[.int .u32 (x % 4294967296), .int .u32 (x / 4294967296)] T)) (.slice (some ⟨w.heap.size, 0, none⟩) 2 2) [x.toNat % 4294967296, x.toNat / 4294967296] := by
  refine ⟨Lims.cons (by omega) (Lims.cons (by omega) Lims.nil), some ⟨w.heap.size, 0, none⟩, 2, rfl, by simp, by unfold maxLen; omega, Or.inr ⟨w.heap.size, 0, rfl, by simp, ?_⟩⟩
  obtain ⟨n, rfl⟩ := Int.eq_ofNat_of_zero_le h0
  intro i hi
  match i, hi with
  | 0, _ => simp [go_sem]
  | 1, _ => simp [go_sem]
theorem val_two (n : Nat) : val [n % 4294967296, n / 4294967296] = n := by simp only [val]; omega

theorem natOf_any (x : Int) (h0 : 0 ≤ x) (h1 : x ≤ 18446744073709551615) (w : World) :
    Calls Tryz.prog 61 #[.int .u64 x] w (RetNV w x.toNat) := by
  have hv := val_two x.toNat
  have hl := fun T => @lim_two w x T h0 h1
  have HV := Lib.hid hv
  have HL := Lib.hid hl
  clear hv hl
  go_enter Tryz.func61, Tryz.ntmps61
  go_wp2_with fail
  refine (norm_any _ _ _ (HL.out _)).mono ?_
  rintro e w' ⟨⟨v', rfl, hn⟩, rfl⟩
  rw [HV.out] at hn
  go_wp2_with fail
  go_ret
  exact ⟨v', rfl, hn, (Below.refl _ _).alloc (Nat.le_refl _) _⟩

/-- the comparison of two numbers -/
theorem sgn2_len {l m : List Nat} (hl : Nrm l) (hm : Nrm m) (h : l.length ≠ m.length) : sgn2 (l.length : Int) (m.length : Int) = sgn2 (val l : Int) (val m : Int) := by
  unfold sgn2
  rcases Nat.lt_or_gt_of_ne h with h | h
  · have := val_lt_len hl hm h; rw [if_pos (by omega), if_pos (by omega)]
  · have := val_lt_len hm hl h; rw [if_neg (by omega), if_pos (by omega), if_neg (by omega), if_pos (by omega)]
theorem sgn2_limb {l m : List Nat} (hl : Nrm l) (hm : Nrm m) (h : l.length = m.length) (j : Nat) (hj : j < l.length) (hd : l.drop (j + 1) = m.drop (j + 1)) (hne : l.getD j 0 ≠ m.getD j 0) :
    sgn2 ((l.getD j 0 : Nat) : Int) ((m.getD j 0 : Nat) : Int) = sgn2 (val l : Int) (val m : Int) := by
  have e1 : l.getD j 0 = l[j] := by simp [List.getD, hj]
  have e2 : m.getD j 0 = m[j]'(by omega) := by simp [List.getD, show j < m.length by omega]
  rw [e1, e2] at hne
  rw [e1, e2]
  unfold sgn2
  rcases Nat.lt_or_gt_of_ne hne with h3 | h3
  · have := val_lt_of hl.1 h j hj hd h3; rw [if_pos (by omega), if_pos (by omega)]
  · have := val_lt_of hm.1 h.symm j (by omega) hd.symm h3; rw [if_neg (by omega), if_pos (by omega), if_neg (by omega), if_pos (by omega)]

set_option maxHeartbeats 1000000 in
theorem compare_any (va vb : Value) (a b : Nat) (w : World) (ha : NV w va a) (hb : NV w vb b) :
    Calls Tryz.prog 101 #[va, vb] w fun e w' => e = .returned (.int .i64 (sgn2 a b)) ∧ ∃ n, w' = w.drewN n := by
  obtain ⟨l, hl, rfl, -, aa, ca, rfl, hca, hma, hA⟩ := ha
  obtain ⟨m, hm, rfl, -, ab, cb, rfl, hcb, hmb, hB⟩ := hb
  unfold maxLen at hma hmb
  by_cases hlt : l.length < m.length ∨ m.length < l.length
  · have e := sgn2_len hl hm (by omega)
    rw [← e]; clear e hA hB
    rcases hlt with hlt | hlt
    all_goals
      go_enter Tryz.func101, Tryz.ntmps101
      go_wp2_with (go_at_call 137; refine (cmp_int _ _ _).mono ?_; rintro e w' ⟨rfl, rfl⟩)
      go_ret
      exact ⟨rfl, 0, rfl⟩
  · have h1 : l.length ≤ m.length := by omega
    have h2 : m.length ≤ l.length := by omega
    have e := @sgn2_limb l m hl hm (by omega)
    have e0 : l = m → sgn2 (val l : Int) (val m : Int) = 0 := fun h => by rw [h]; unfold sgn2; omega
    generalize sgn2 (val l : Int) (val m : Int) = R at *
    have E := Lib.hid e
    have E0 := Lib.hid e0
    clear e e0 hlt
    rcases hA with hA | ⟨ba, oa, rfl, hba, hcA⟩
    all_goals rcases hB with hB | ⟨bb, ob, rfl, hbb, hcB⟩
    all_goals first
      | (exfalso; omega)
      | skip
    all_goals
      go_enter Tryz.func101, Tryz.ntmps101
      go_wp2
      go_loopw [5] (fun i wr => ∃ k : Nat, k ≤ l.length ∧ i = .int .i64 ((k : Int) - 1) ∧ l.drop k = m.drop k ∧ ∃ n, wr = w.drewN n) (fun i _ => (intOf i + 1).toNat)
      case atStart => exact ⟨l.length, Nat.le_refl _, rfl, by rw [List.drop_length, List.drop_of_length_le (by omega)], 0, rfl⟩
      case round =>
        obtain ⟨k, hk, rfl, hdr, nw, rfl⟩ := hrel
        have HDR := Lib.hid hdr
        clear hdr
        by_cases hk0 : 0 < k
        · first
            | (exfalso; omega)
            | (obtain ⟨j, rfl⟩ : ∃ j, k = j + 1 := ⟨k - 1, by omega⟩
               rw [show (((j + 1 : Nat) : Int) - 1) = (j : Int) from by omega]
               obtain ⟨x, hx⟩ : ∃ x, x = l.getD j 0 := ⟨_, rfl⟩
               obtain ⟨y, hy⟩ : ∃ y, y = m.getD j 0 := ⟨_, rfl⟩
               have hcx := hcA j (by omega)
               have hcy := hcB j (by omega)
               rw [← hx] at hcx
               rw [← hy] at hcy
               have HX := Lib.hid hx
               have HY := Lib.hid hy
               clear hx hy hcA hcB
               have i1 : (j : Int) < (l.length : Int) := by omega
               have i2 : (j : Int) < (m.length : Int) := by omega
               by_cases hxy : x = y
               · subst hxy
                 have hb0 : ((x : Int) != (x : Int)) = false := by simp
                 go_wp2
                 go_quiet (fail)
                 go_wp2
                 go_roundw
                 case rel =>
                   refine ⟨j, by omega, by simp, ?_, _, rfl⟩
                   rw [List.drop_eq_getElem_cons (show j < l.length by omega), List.drop_eq_getElem_cons (show j < m.length by omega), HDR.out]
                   have a1 := HX.out; have a2 := HY.out
                   simp only [List.getD, List.getElem?_eq_getElem (show j < l.length by omega), List.getElem?_eq_getElem (show j < m.length by omega), Option.getD_some] at a1 a2
                   rw [← a1, ← a2]
                 case measure => simp [intOf]
               · have hb0 : ((x : Int) != (y : Int)) = true := by simp; omega
                 have hR : sgn2 (x : Int) (y : Int) = R := by
                   have a1 := HX.out; have a2 := HY.out
                   have := E.out j (by omega) HDR.out (by rw [← a1, ← a2]; exact hxy)
                   rw [← a1, ← a2] at this; exact this
                 have HR := Lib.hid hR
                 clear hR
                 go_wp2
                 go_quiet (fail)
                 go_wp2
                 go_quiet ((go_at_call 138; exact quiet_later (cmp_uint32 _ _)))
                 go_wp2
                 go_ret
                 exact ⟨by rw [HR.out]; rfl, _, by rw [World.drewN_drewN, World.drewN_drewN]⟩)
        · obtain rfl : k = 0 := by omega
          have hR : R = 0 := E0.out (by have := HDR.out; simpa using this)
          have HR := Lib.hid hR
          clear hR
          go_wp2
          go_ret
          exact ⟨by rw [HR.out]; rfl, _, rfl⟩
end Go.Proofs.YtofdjfdnckmmmaaGreatDoor

/-
  A LAW FOR THE WALK: a limb appended to a list of limbs that the call itself has made.
-/
namespace Go.Proofs.YtofdjfdnckmmmaaGreatDoor
open Go.RowKit Nt

/-- the cells of some limbs -/
def lc (l : List Nat) : List Value := l.map fun d => Value.int .u32 ((d : Nat) : Int)
theorem lc_length (l : List Nat) : (lc l).length = l.length := by simp [lc]
theorem lc_append (l m : List Nat) : lc (l ++ m) = lc l ++ lc m := by simp [lc]

theorem infoU32 : (Tryz.prog.info? 102).map (fun i => (i.zero, i.size, i.bytes)) = some (some (.int .u32 0), 1, 4) := by kernel_rfl

theorem grown_below {B : Nat} {w w' : World} {row : Option Nat} (hg : w.grownBy w' row) (hB : B ≤ w.heap.size) (hr : ∀ k, row = some k → B ≤ k) : Below B w w' :=
  (Below.refl B w).grown hg hB hr

theorem wpList_push {ops : Array Oper} {rest : List Oper} {o : Oper} {a : Act} {Q : Exit → Act → World → Prop} {w0 : World} {X : Int} (hgd : o.guard = none) (s x : Operand)
    (ho : o.op = .call { callee := .builtin .append, args := #[s, x], argTypes := #[66, 66] })
    (base : Nat) (hbase : base ≤ w0.heap.size) (v : Value) (l : List Nat) (hs : a.eval s = v) (hown : w0.ownsRow base 102 1 v l.length (lc l))
    (d : Nat) (hx : a.eval x = .slice (some ⟨w0.heap.size, 0, none⟩) 1 1) (hX : X = (d : Int)) (hl : l.length ≤ 10000000000000)
    (h : ∀ v' w', w'.ownsRow base 102 1 v' (l ++ [d]).length (lc (l ++ [d])) → Below base w0 w' → wpList Tryz.prog ops Q rest (a.put o.dst v') w') :
    wpList Tryz.prog ops Q (o :: rest) a (w0.alloc (.cells #[.int .u32 X] 102)) := by
  obtain ⟨i0, hi, hz0, hz1, hz2⟩ := info_parts infoU32
  subst hX
  refine wpList_append_own _ hgd s x 66 ho base 102 i0 (.int .u32 0) 1 4 Tryz.underlying66 hi hz0 hz1 hz2 rfl (by decide) v l.length (lc l) hs (hown.alloc _) ⟨w0.heap.size, 0, none⟩ 1 1 [.int .u32 (d : Int)] hx rfl (cell_one_new _ _ _) (by intro u hu; simp at hu; subst hu; rfl) (by unfold maxLen; omega) (by omega) (by simp; omega) ?_
  intro v' w1 hown1 hgrow _
  refine h v' w1 ?_ ?_
  · rw [lc_append, List.length_append]; exact hown1
  · refine ((Below.refl base w0).alloc hbase _).trans (grown_below hgrow (by simp; omega) ?_)
    intro k hk
    exact (hown.lt k hk).1
theorem own_lim' {w : World} {base : Nat} {v : Value} {l : List Nat} (h : w.ownsRow base 102 1 v l.length (lc l)) (hl : Lims l) : Lim w v l := own_lim h hl
theorem own_nil (w : World) (base : Nat) : w.ownsRow base 102 1 (.slice none 0 0) ([] : List Nat).length (lc []) := World.ownsRow_nil _ _ _ _

theorem take_madeCells (n cap : Nat) (h : n ≤ cap) : (madeCells #[Value.int .u32 0] cap).toList.take n = lc (List.replicate n 0) := by
  rw [toList_madeCells_one, List.take_replicate, Nat.min_eq_left h]
  simp [lc]

theorem wpList_make_limbs {ops : Array Oper} {rest : List Oper} {o : Oper} {a : Act} {Q : Exit → Act → World → Prop} {w : World} (hg : o.guard = none) (l c : Operand)
    (hop : o.op = Op.makeSlice 66 l c) (LI CI : Int) (n cap : Nat) (hl : a.eval l = .int .i64 LI) (hc : a.eval c = .int .i64 CI) (hL : LI = (n : Int)) (hC : CI = (cap : Int)) (hle : n ≤ cap) (hcap : cap ≤ 10000000000000)
    (hK : ∀ w', w'.ownsRow w.heap.size 102 1 (.slice (some ⟨w.heap.size, 0, none⟩) n cap) n (lc (List.replicate n 0)) → Below w.heap.size w w' → wpList Tryz.prog ops Q rest (a.put o.dst (.slice (some ⟨w.heap.size, 0, none⟩) n cap)) w') :
    wpList Tryz.prog ops Q (o :: rest) a w := by
  obtain ⟨i0, hi, hz0, hz1, hz2⟩ := info_parts infoU32
  refine wpList_plain hg fun K hK' => ?_
  subst hL hC
  obtain ⟨w', hrun, r1, r2⟩ : ∃ w', (Instr.makeSlice 66 (.int .i64 (n : Int)) (.int .i64 (cap : Int))).run Tryz.prog w = .ok (.slice (some ⟨w.heap.size, 0, none⟩) n cap) w' ∧
      w'.ownsRow w.heap.size 102 1 (.slice (some ⟨w.heap.size, 0, none⟩) n cap) n (lc (List.replicate n 0)) ∧ Below w.heap.size w w' := by
    have hrun := run_make (P := Tryz.prog) w 66 102 i0 (.int .u32 0) Tryz.underlying66 hi hz0 .i64 .i64 n cap (by omega) (by omega) (by rw [hz2]; omega) (by omega)
    rw [Int.toNat_natCast, Int.toNat_natCast, hz1, Nat.mul_one] at hrun
    refine ⟨_, hrun, ?_, (Below.refl _ _).alloc (Nat.le_refl _) _⟩
    refine ⟨by rw [lc_length]; simp, Or.inr ⟨w.heap.size, cap, _, rfl, Nat.le_refl _, heap_alloc_new w _, hle, by unfold maxLen; omega, by rw [size_madeCells]; omega, ?_⟩⟩
    rw [Nat.mul_one]
    exact take_madeCells n cap hle
  unfold Oper.wp
  simp [execOp, hop, hl, hc, hrun, Result.andThen]
  exact hK' _ _ (hK w' r1 r2)

/-- a cell of what is owned -/
theorem own_cell {w : World} {base g n cap : Nat} {o : List Nat} (h : w.ownsRow base 102 1 (.slice (some ⟨g, 0, none⟩) n cap) n (lc o)) (j : Nat) (hj : j < n) :
    w.cell? ⟨g, j, none⟩ = some (.int .u32 ((o.getD j 0 : Nat) : Int)) ∧ w.frozen? ⟨g, j, none⟩ = false := by
  have hn : o.length = n := by have := h.1; rw [lc_length] at this; omega
  refine ⟨?_, h.frozenAt j⟩
  rw [h.cellAt j (by omega)]
  simp [lc, List.getD, show j < o.length by omega]
/-- a store into what is owned -/
theorem own_store {w : World} {base g n cap : Nat} {o : List Nat} (h : w.ownsRow base 102 1 (.slice (some ⟨g, 0, none⟩) n cap) n (lc o)) (j : Nat) {X : Int} (d : Nat) (hX : X = (d : Int)) :
    (w.setCell ⟨g, j, none⟩ (.int .u32 X)).ownsRow base 102 1 (.slice (some ⟨g, 0, none⟩) n cap) n (lc (o.set j d)) := by
  subst hX
  have := (h.stored j (.int .u32 (d : Int))).1
  have e : lc (o.set j d) = (lc o).set j (.int .u32 (d : Int)) := by unfold lc; rw [List.map_set]
  rw [e]; exact this
theorem own_lim2 {w : World} {base g n cap : Nat} {o : List Nat} (h : w.ownsRow base 102 1 (.slice (some ⟨g, 0, none⟩) n cap) n (lc o)) (hl : Lims o) : Lim w (.slice (some ⟨g, 0, none⟩) n cap) o := own_lim h hl
end Go.Proofs.YtofdjfdnckmmmaaGreatDoor

/-
  THE WALKS of package nat: Plus.
-/
namespace Go.Proofs.YtofdjfdnckmmmaaGreatDoor
open Go.RowKit Nt

/-- a carry, limb by limb -/
def PlusRel (p q : List Nat) (k : Nat) (o : List Nat) (c : Nat) : Prop := o.length = k ∧ Lims o ∧ c ≤ 1 ∧ val o + 2 ^ (32 * k) * c = val (p.take k) + val (q.take k)
theorem PlusRel.start (p q : List Nat) : PlusRel p q 0 [] 0 := ⟨rfl, Lims.nil, by omega, by simp [val]⟩
theorem step_arith {A W c x y : Nat} {P Q : Nat} (h : A + W * c = P + Q) : A + W * ((c + x + y) % 4294967296) + 4294967296 * W * ((c + x + y) / 4294967296) = P + W * x + (Q + W * y) := by
  have h1 := Nat.div_add_mod (c + x + y) 4294967296
  have h2 : W * ((c + x + y) % 4294967296) + 4294967296 * W * ((c + x + y) / 4294967296) = W * (c + x + y) := by
    rw [Nat.mul_comm 4294967296 W, Nat.mul_assoc, ← Nat.mul_add]; congr 1; omega
  rw [Nat.mul_add, Nat.mul_add] at h2
  omega
theorem PlusRel.step {p q o : List Nat} {k c x y : Nat} (h : PlusRel p q k o c) (hk : k < p.length) (hx : x = p.getD k 0) (hy : y = q.getD k 0) (hp : Lims p) (hq : Lims q) :
    PlusRel p q (k + 1) (o ++ [(c + x + y) % 4294967296]) ((c + x + y) / 4294967296) := by
  obtain ⟨h1, h2, h3, h4⟩ := h
  have hx1 : x < 4294967296 := by rw [hx]; exact hp.getD k
  have hy1 : y < 4294967296 := by rw [hy]; exact hq.getD k
  refine ⟨by rw [List.length_append, h1]; rfl, h2.snoc (Nat.mod_lt _ (by decide)), by omega, ?_⟩
  rw [val_snoc, h1, pow32_succ, val_take_succ p k hk]
  have e1 : p[k] = x := by rw [hx]; simp [List.getD, hk]
  have e2 : val (q.take (k + 1)) = val (q.take k) + 2 ^ (32 * k) * y := by
    by_cases hkq : k < q.length
    · rw [val_take_succ q k hkq, hy]; simp [List.getD, hkq]
    · rw [List.take_of_length_le (by omega), List.take_of_length_le (by omega), hy]; simp [List.getD, List.getElem?_eq_none (Nat.le_of_not_lt hkq)]
  rw [e1, e2]
  exact step_arith h4
theorem PlusRel.fin {p q o : List Nat} {c : Nat} (h : PlusRel p q p.length o c) (hq : q.length ≤ p.length) : Lims (o ++ [c]) ∧ val (o ++ [c]) = val p + val q := by
  obtain ⟨h1, h2, h3, h4⟩ := h
  refine ⟨h2.snoc (by omega), ?_⟩
  rw [val_snoc, h1, h4, List.take_length, List.take_of_length_le hq]

set_option maxHeartbeats 2000000 in
theorem plus_any (va vb : Value) (a b k0 : Nat) (w : World) (ha : NV w va a) (hb : NV w vb b) (hka : a < 2 ^ k0) (hkb : b < 2 ^ k0) (hk0 : k0 ≤ 120000000000000) :
    Calls Tryz.prog 103 #[va, vb] w (RetNV w (a + b)) := by
  obtain ⟨l, hl, el, ⟨-, aa, ca, rfl, hca, hma, hA⟩, hll⟩ := ha.len hka
  obtain ⟨m, hm, em, ⟨-, ab, cb, rfl, hcb, hmb, hB⟩, hml⟩ := hb.len hkb
  unfold maxLen at hma hmb
  have EL := Lib.hid el
  have EM := Lib.hid em
  clear ha hb hka hkb el em
  by_cases hlt : l.length < m.length
  · rcases hB with hP | ⟨bp, op, rfl, hbp, hcP⟩
    all_goals rcases hA with hQ | ⟨bq, oq, rfl, hbq, hcQ⟩
    all_goals first
      | (exfalso; omega)
      | skip
    all_goals
      go_enter Tryz.func103, Tryz.ntmps103
      go_wp2
      go_loopw [5, 6, 18] (fun v c i wr => ∃ (k cn : Nat) (o : List Nat), k ≤ m.length ∧ i = .int .i64 k ∧ c = .int .u64 ((cn : Nat) : Int) ∧ wr.ownsRow w.heap.size 102 1 v o.length (lc o) ∧ PlusRel m l k o cn ∧ Below w.heap.size w wr)
        (fun _ _ i _ => m.length - (intOf i).toNat)
      case atStart => exact ⟨0, 0, [], Nat.zero_le _, rfl, rfl, own_nil _ _, PlusRel.start _ _, Below.refl _ _⟩
      case round =>
        obtain ⟨k, cn, o, hk, rfl, rfl, hown, hrel, hbel⟩ := hrel
        have hcn : cn ≤ 1 := hrel.2.2.1
        have hol : o.length ≤ 10000000000000 := by rw [hrel.1]; omega
        have hsz := hbel.size
        have REL := Lib.hid hrel
        clear hrel
        by_cases hkp : k < m.length
        · first
            | (exfalso; omega)
            | (obtain ⟨x, hx⟩ : ∃ x, x = m.getD k 0 := ⟨_, rfl⟩
               have hx1 : x < 4294967296 := by rw [hx]; exact hm.1.getD k
               have hcx := (hbel.cell (p := ⟨bp, op + k, none⟩) hbp).trans (hcP k hkp)
               rw [← hx] at hcx
               have HX := Lib.hid hx
               obtain ⟨y, hy⟩ : ∃ y, y = l.getD k 0 := ⟨_, rfl⟩
               have hy1 : y < 4294967296 := by rw [hy]; exact hl.1.getD k
               have HY := Lib.hid hy
               by_cases hkq : k < l.length
               · first
                   | (exfalso; omega)
                   | (have hcy := (hbel.cell (p := ⟨bq, oq + k, none⟩) hbq).trans (hcQ k hkq)
                      rw [← hy] at hcy
                      clear hx hy hcP hcQ
                      go_wp2_with (at_builtin; refine wpList_push rfl _ _ rfl w.heap.size hsz _ o rfl hown ((cn + x + y) % 4294967296) rfl (by omega) (by omega) ?_; intro v' w1 hown1 hb1)
                      go_roundw
                      case rel => exact ⟨k + 1, (cn + x + y) / 4294967296, _, by omega, by go_num, by simp, hown1, REL.out.step hkp HX.out HY.out hm.1 hl.1, hbel.trans hb1⟩
                      case measure => simp [intOf]; omega)
               · have hy0 : y = 0 := by rw [hy]; simp [List.getD, List.getElem?_eq_none (Nat.le_of_not_lt hkq)]
                 have HY0 := Lib.hid hy0
                 clear hx hy hcP hy0
                 try clear hcQ
                 go_wp2_with (at_builtin; refine wpList_push rfl _ _ rfl w.heap.size hsz _ o rfl hown ((cn + x) % 4294967296) rfl (by omega) (by omega) ?_; intro v' w1 hown1 hb1)
                 go_roundw
                 case rel =>
                   refine ⟨k + 1, (cn + x) / 4294967296, _, by omega, by go_num, by simp, hown1, ?_, hbel.trans hb1⟩
                   have := REL.out.step hkp HX.out HY.out hm.1 hl.1
                   rw [HY0.out] at this; exact this
                 case measure => simp [intOf]; omega)
        · have hke : k = m.length := by omega
          have hfin : Lims (o ++ [cn]) ∧ val (o ++ [cn]) = a + b := by
            have := REL.out; rw [hke] at this
            have h2 := this.fin (by omega)
            refine ⟨h2.1, ?_⟩
            rw [h2.2, Nat.add_comm, EL.out, EM.out]
          have FIN := Lib.hid hfin
          clear hke hfin
          try clear hcP
          try clear hcQ
          go_wp2_with (at_builtin; refine wpList_push rfl _ _ rfl w.heap.size hsz _ o rfl hown cn rfl (by omega) (by omega) ?_; intro v' w1 hown1 hb1)
          refine (norm_any _ _ _ (own_lim' hown1 FIN.out.1)).mono ?_
          rintro e w2 ⟨⟨v2, rfl, hn2⟩, rfl⟩
          rw [FIN.out.2] at hn2
          go_wp2
          go_ret
          exact ⟨v2, rfl, hn2, hbel.trans hb1⟩
  · rcases hA with hP | ⟨bp, op, rfl, hbp, hcP⟩
    all_goals rcases hB with hQ | ⟨bq, oq, rfl, hbq, hcQ⟩
    all_goals first
      | (exfalso; omega)
      | skip
    all_goals
      go_enter Tryz.func103, Tryz.ntmps103
      go_wp2
      go_loopw [5, 6, 18] (fun v c i wr => ∃ (k cn : Nat) (o : List Nat), k ≤ l.length ∧ i = .int .i64 k ∧ c = .int .u64 ((cn : Nat) : Int) ∧ wr.ownsRow w.heap.size 102 1 v o.length (lc o) ∧ PlusRel l m k o cn ∧ Below w.heap.size w wr)
        (fun _ _ i _ => l.length - (intOf i).toNat)
      case atStart => exact ⟨0, 0, [], Nat.zero_le _, rfl, rfl, own_nil _ _, PlusRel.start _ _, Below.refl _ _⟩
      case round =>
        obtain ⟨k, cn, o, hk, rfl, rfl, hown, hrel, hbel⟩ := hrel
        have hcn : cn ≤ 1 := hrel.2.2.1
        have hol : o.length ≤ 10000000000000 := by rw [hrel.1]; omega
        have hsz := hbel.size
        have REL := Lib.hid hrel
        clear hrel
        by_cases hkp : k < l.length
        · first
            | (exfalso; omega)
            | (obtain ⟨x, hx⟩ : ∃ x, x = l.getD k 0 := ⟨_, rfl⟩
               have hx1 : x < 4294967296 := by rw [hx]; exact hl.1.getD k
               have hcx := (hbel.cell (p := ⟨bp, op + k, none⟩) hbp).trans (hcP k hkp)
               rw [← hx] at hcx
               have HX := Lib.hid hx
               obtain ⟨y, hy⟩ : ∃ y, y = m.getD k 0 := ⟨_, rfl⟩
               have hy1 : y < 4294967296 := by rw [hy]; exact hm.1.getD k
               have HY := Lib.hid hy
               by_cases hkq : k < m.length
               · first
                   | (exfalso; omega)
                   | (have hcy := (hbel.cell (p := ⟨bq, oq + k, none⟩) hbq).trans (hcQ k hkq)
                      rw [← hy] at hcy
                      clear hx hy hcP hcQ
                      go_wp2_with (at_builtin; refine wpList_push rfl _ _ rfl w.heap.size hsz _ o rfl hown ((cn + x + y) % 4294967296) rfl (by omega) (by omega) ?_; intro v' w1 hown1 hb1)
                      go_roundw
                      case rel => exact ⟨k + 1, (cn + x + y) / 4294967296, _, by omega, by go_num, by simp, hown1, REL.out.step hkp HX.out HY.out hl.1 hm.1, hbel.trans hb1⟩
                      case measure => simp [intOf]; omega)
               · have hy0 : y = 0 := by rw [hy]; simp [List.getD, List.getElem?_eq_none (Nat.le_of_not_lt hkq)]
                 have HY0 := Lib.hid hy0
                 clear hx hy hcP hy0
                 try clear hcQ
                 go_wp2_with (at_builtin; refine wpList_push rfl _ _ rfl w.heap.size hsz _ o rfl hown ((cn + x) % 4294967296) rfl (by omega) (by omega) ?_; intro v' w1 hown1 hb1)
                 go_roundw
                 case rel =>
                   refine ⟨k + 1, (cn + x) / 4294967296, _, by omega, by go_num, by simp, hown1, ?_, hbel.trans hb1⟩
                   have := REL.out.step hkp HX.out HY.out hl.1 hm.1
                   rw [HY0.out] at this; exact this
                 case measure => simp [intOf]; omega)
        · have hke : k = l.length := by omega
          have hfin : Lims (o ++ [cn]) ∧ val (o ++ [cn]) = a + b := by
            have := REL.out; rw [hke] at this
            have h2 := this.fin (by omega)
            refine ⟨h2.1, ?_⟩
            rw [h2.2, EL.out, EM.out]
          have FIN := Lib.hid hfin
          clear hke hfin
          try clear hcP
          try clear hcQ
          go_wp2_with (at_builtin; refine wpList_push rfl _ _ rfl w.heap.size hsz _ o rfl hown cn rfl (by omega) (by omega) ?_; intro v' w1 hown1 hb1)
          refine (norm_any _ _ _ (own_lim' hown1 FIN.out.1)).mono ?_
          rintro e w2 ⟨⟨v2, rfl, hn2⟩, rfl⟩
          rw [FIN.out.2] at hn2
          go_wp2
          go_ret
          exact ⟨v2, rfl, hn2, hbel.trans hb1⟩
end Go.Proofs.YtofdjfdnckmmmaaGreatDoor

/-
  THE WALKS of package nat: Minus.
-/
namespace Go.Proofs.YtofdjfdnckmmmaaGreatDoor
open Go.RowKit Nt

/-- a borrow, limb by limb -/
def MinusRel (p q : List Nat) (k : Nat) (o : List Nat) (c : Nat) : Prop := o.length = k ∧ Lims o ∧ c ≤ 1 ∧ val o + val (q.take k) = val (p.take k) + 2 ^ (32 * k) * c
theorem MinusRel.start (p q : List Nat) : MinusRel p q 0 [] 0 := ⟨rfl, Lims.nil, by omega, by simp [val]⟩
theorem minus_arith {A W c x y d e P Q : Nat} (h : A + Q = P + W * c) (hd : d + c + y = x + 4294967296 * e) : A + W * d + (Q + W * y) = P + W * x + 4294967296 * W * e := by
  have h1 : W * (d + c + y) = W * (x + 4294967296 * e) := by rw [hd]
  rw [Nat.mul_add, Nat.mul_add, Nat.mul_add, ← Nat.mul_assoc, Nat.mul_comm W 4294967296] at h1
  omega
theorem MinusRel.step {p q o : List Nat} {k c x y d e : Nat} (h : MinusRel p q k o c) (hk : k < p.length) (hx : x = p.getD k 0) (hy : y = q.getD k 0)
    (hd : d + c + y = x + 4294967296 * e) (hd1 : d < 4294967296) (he : e ≤ 1) : MinusRel p q (k + 1) (o ++ [d]) e := by
  obtain ⟨h1, h2, h3, h4⟩ := h
  refine ⟨by rw [List.length_append, h1]; rfl, h2.snoc hd1, he, ?_⟩
  rw [val_snoc, h1, pow32_succ, val_take_succ p k hk]
  have e1 : p[k] = x := by rw [hx]; simp [List.getD, hk]
  have e2 : val (q.take (k + 1)) = val (q.take k) + 2 ^ (32 * k) * y := by
    by_cases hkq : k < q.length
    · rw [val_take_succ q k hkq, hy]; simp [List.getD, hkq]
    · rw [List.take_of_length_le (by omega), List.take_of_length_le (by omega), hy]; simp [List.getD, List.getElem?_eq_none (Nat.le_of_not_lt hkq)]
  rw [e1, e2]
  exact minus_arith h4 hd
theorem MinusRel.fin {p q o : List Nat} {c : Nat} (h : MinusRel p q p.length o c) (hq : q.length ≤ p.length) (hle : val q ≤ val p) : Lims o ∧ val o = val p - val q := by
  obtain ⟨h1, h2, h3, h4⟩ := h
  refine ⟨h2, ?_⟩
  rw [List.take_length, List.take_of_length_le hq] at h4
  have h5 := val_lt h2
  rw [h1] at h5
  have h6 : c = 0 ∨ c = 1 := by omega
  rcases h6 with h6 | h6 <;> subst h6 <;> omega
theorem len_le_of_val {l m : List Nat} (hl : Nrm l) (hm : Nrm m) (h : val m ≤ val l) : m.length ≤ l.length := by
  rcases Nat.lt_or_ge l.length m.length with h1 | h1
  · have := val_lt_len hl hm h1; omega
  · exact h1

set_option maxHeartbeats 2000000 in
theorem minus_any (va vb : Value) (a b k0 : Nat) (w : World) (ha : NV w va a) (hb : NV w vb b) (hle : b ≤ a) (hka : a < 2 ^ k0) (hk0 : k0 ≤ 120000000000000) :
    Calls Tryz.prog 100 #[va, vb] w (RetNV w (a - b)) := by
  obtain ⟨l, hl, el, ⟨-, aa, ca, rfl, hca, hma, hA⟩, hll⟩ := ha.len hka
  obtain ⟨m, hm, em, ⟨-, ab, cb, rfl, hcb, hmb, hB⟩, hml⟩ := hb.len (Nat.lt_of_le_of_lt hle hka)
  unfold maxLen at hma hmb
  have hlen : m.length ≤ l.length := len_le_of_val hl hm (by omega)
  have EL := Lib.hid el
  have EM := Lib.hid em
  have HLE := Lib.hid hle
  clear ha hb hka el em hle
  rcases hA with hP | ⟨bp, op, rfl, hbp, hcP⟩
  all_goals rcases hB with hQ | ⟨bq, oq, rfl, hbq, hcQ⟩
  all_goals first
    | (exfalso; omega)
    | skip
  all_goals
    go_enter Tryz.func100, Tryz.ntmps100
    go_wp2
    go_loopw [5, 6, 12] (fun v c i wr => ∃ (k cn : Nat) (o : List Nat), k ≤ l.length ∧ i = .int .i64 k ∧ c = .int .i64 ((cn : Nat) : Int) ∧ wr.ownsRow w.heap.size 102 1 v o.length (lc o) ∧ MinusRel l m k o cn ∧ Below w.heap.size w wr)
      (fun _ _ i _ => l.length - (intOf i).toNat)
    case atStart => exact ⟨0, 0, [], Nat.zero_le _, rfl, rfl, own_nil _ _, MinusRel.start _ _, Below.refl _ _⟩
    case round =>
      obtain ⟨k, cn, o, hk, rfl, rfl, hown, hrel, hbel⟩ := hrel
      have hcn : cn ≤ 1 := hrel.2.2.1
      have hol : o.length ≤ 10000000000000 := by rw [hrel.1]; omega
      have hsz := hbel.size
      have REL := Lib.hid hrel
      clear hrel
      by_cases hkp : k < l.length
      · first
          | (exfalso; omega)
          | (obtain ⟨x, hx⟩ : ∃ x, x = l.getD k 0 := ⟨_, rfl⟩
             have hx1 : x < 4294967296 := by rw [hx]; exact hl.1.getD k
             have hcx := (hbel.cell (p := ⟨bp, op + k, none⟩) hbp).trans (hcP k hkp)
             rw [← hx] at hcx
             have HX := Lib.hid hx
             obtain ⟨y, hy⟩ : ∃ y, y = m.getD k 0 := ⟨_, rfl⟩
             have hy1 : y < 4294967296 := by rw [hy]; exact hm.1.getD k
             have HY := Lib.hid hy
             by_cases hkq : k < m.length
             · first
                 | (exfalso; omega)
                 | (have hcy := (hbel.cell (p := ⟨bq, oq + k, none⟩) hbq).trans (hcQ k hkq)
                    rw [← hy] at hcy
                    clear hx hy hcP hcQ
                    by_cases hneg : x < cn + y
                    · go_wp2_with (at_builtin; refine wpList_push rfl _ _ rfl w.heap.size hsz _ o rfl hown (x + 4294967296 - cn - y) rfl (by omega) (by omega) ?_; intro v' w1 hown1 hb1)
                      go_roundw
                      case rel => exact ⟨k + 1, 1, _, by omega, by go_num, by simp, hown1, REL.out.step hkp HX.out HY.out (by omega) (by omega) (by omega), hbel.trans hb1⟩
                      case measure => simp [intOf]; omega
                    · go_wp2_with (at_builtin; refine wpList_push rfl _ _ rfl w.heap.size hsz _ o rfl hown (x - cn - y) rfl (by omega) (by omega) ?_; intro v' w1 hown1 hb1)
                      go_roundw
                      case rel => exact ⟨k + 1, 0, _, by omega, by go_num, by simp, hown1, REL.out.step hkp HX.out HY.out (by omega) (by omega) (by omega), hbel.trans hb1⟩
                      case measure => simp [intOf]; omega)
             · have hy0 : y = 0 := by rw [hy]; simp [List.getD, List.getElem?_eq_none (Nat.le_of_not_lt hkq)]
               have HY0 := Lib.hid hy0
               clear hx hy hcP hy0
               try clear hcQ
               by_cases hneg : x < cn
               · go_wp2_with (at_builtin; refine wpList_push rfl _ _ rfl w.heap.size hsz _ o rfl hown (x + 4294967296 - cn) rfl (by omega) (by omega) ?_; intro v' w1 hown1 hb1)
                 go_roundw
                 case rel => exact ⟨k + 1, 1, _, by omega, by go_num, by simp, hown1, REL.out.step hkp HX.out HY.out (by have := HY0.out; omega) (by omega) (by omega), hbel.trans hb1⟩
                 case measure => simp [intOf]; omega
               · go_wp2_with (at_builtin; refine wpList_push rfl _ _ rfl w.heap.size hsz _ o rfl hown (x - cn) rfl (by omega) (by omega) ?_; intro v' w1 hown1 hb1)
                 go_roundw
                 case rel => exact ⟨k + 1, 0, _, by omega, by go_num, by simp, hown1, REL.out.step hkp HX.out HY.out (by have := HY0.out; omega) (by omega) (by omega), hbel.trans hb1⟩
                 case measure => simp [intOf]; omega)
      · have hke : k = l.length := by omega
        have hfin : Lims o ∧ val o = a - b := by
          have := REL.out; rw [hke] at this
          have h2 := this.fin (by omega) (by rw [EL.out, EM.out]; exact HLE.out)
          rw [EL.out, EM.out] at h2
          exact h2
        have FIN := Lib.hid hfin
        clear hke hfin
        try clear hcP
        try clear hcQ
        go_wp2_with fail
        refine (norm_any _ _ _ (own_lim' hown FIN.out.1)).mono ?_
        rintro e w2 ⟨⟨v2, rfl, hn2⟩, rfl⟩
        rw [FIN.out.2] at hn2
        go_wp2
        go_ret
        exact ⟨v2, rfl, hn2, hbel⟩
end Go.Proofs.YtofdjfdnckmmmaaGreatDoor

/-
  THE WALK of package nat: Times.
-/
namespace Go.Proofs.YtofdjfdnckmmmaaGreatDoor
open Go.RowKit Nt

theorem val_set (l : List Nat) (i d : Nat) (h : i < l.length) : val (l.set i d) + 2 ^ (32 * i) * l.getD i 0 = val l + 2 ^ (32 * i) * d := by
  induction l generalizing i with
  | nil => simp at h
  | cons e l ih =>
    cases i with
    | zero => simp [val]; omega
    | succ i =>
      have := ih i (by simpa using h)
      simp only [List.set_cons_succ, val, List.getD_cons_succ, pow32_succ]
      rw [Nat.mul_assoc, Nat.mul_assoc]
      omega
theorem lims_set {l : List Nat} (h : Lims l) (i d : Nat) (hd : d < 4294967296) : Lims (l.set i d) := by
  intro x hx
  rcases List.mem_or_eq_of_mem_set hx with h1 | h1
  · exact h x h1
  · rw [h1]; exact hd
theorem lims_zero (n : Nat) : Lims (List.replicate n 0) := by intro x hx; rw [List.eq_of_mem_replicate hx]; decide
theorem val_zero (n : Nat) : val (List.replicate n 0) = 0 := by
  induction n with
  | zero => rfl
  | succ n ih => simp [List.replicate_succ, val, ih]

/-- the rows of a product, one by one: all rows below i, and of row i the first j limbs -/
def TimesRel (p q : List Nat) (i j x : Nat) (o : List Nat) (c : Nat) : Prop :=
  o.length = p.length + q.length ∧ Lims o ∧ c < 4294967296 ∧ (∀ t, i + q.length ≤ t → o.getD t 0 = 0) ∧
    val o + 2 ^ (32 * (i + j)) * c = val (p.take i) * val q + 2 ^ (32 * i) * (x * val (q.take j))
theorem TimesRel.start (p q : List Nat) (x : Nat) : TimesRel p q 0 0 x (List.replicate (p.length + q.length) 0) 0 :=
  ⟨by simp, lims_zero _, by decide, fun t _ => by simp [List.getD, List.getElem?_replicate]; split <;> rfl, by simp [val, val_zero]⟩
theorem TimesRel.other {p q o : List Nat} {i x c : Nat} (h : TimesRel p q i 0 x o c) (y : Nat) (hc : c = 0) : TimesRel p q i 0 y o 0 := by
  obtain ⟨h1, h2, h3, h4, h5⟩ := h
  refine ⟨h1, h2, by decide, h4, ?_⟩
  subst hc
  simpa [val] using h5
theorem times_arith {V V' W c z xy Q R : Nat} (hs : V' + W * z = V + W * ((c + (xy + z)) % 4294967296)) (h : V + W * c = Q + R) :
    V' + 4294967296 * W * ((c + (xy + z)) / 4294967296) = Q + (R + W * xy) := by
  have h1 := Nat.div_add_mod (c + (xy + z)) 4294967296
  have h2 : W * ((c + (xy + z)) % 4294967296) + 4294967296 * W * ((c + (xy + z)) / 4294967296) = W * c + (W * xy + W * z) := by
    rw [Nat.mul_comm 4294967296 W, Nat.mul_assoc, ← Nat.mul_add, ← Nat.mul_add, ← Nat.mul_add]; congr 1; omega
  omega
theorem TimesRel.step {p q o : List Nat} {i j x y z c : Nat} (h : TimesRel p q i j x o c) (hi : i < p.length) (hj : j < q.length) (hx1 : x < 4294967296) (hy1 : y < 4294967296) (hy : y = q.getD j 0) (hz : z = o.getD (i + j) 0) :
    TimesRel p q i (j + 1) x (o.set (i + j) ((c + (x * y + z)) % 4294967296)) ((c + (x * y + z)) / 4294967296) := by
  obtain ⟨h1, h2, h3, h4, h5⟩ := h
  have hz1 : z < 4294967296 := by rw [hz]; exact h2.getD _
  have hxy : x * y ≤ 4294967295 * 4294967295 := Nat.mul_le_mul (by omega) (by omega)
  refine ⟨by rw [List.length_set]; exact h1, lims_set h2 _ _ (Nat.mod_lt _ (by decide)), by omega, ?_, ?_⟩
  · intro t ht
    rw [List.getD, List.getElem?_set_ne (by omega)]; exact h4 t ht
  · have hs := val_set o (i + j) ((c + (x * y + z)) % 4294967296) (by omega)
    rw [← hz] at hs
    have e1 : val (q.take (j + 1)) = val (q.take j) + 2 ^ (32 * j) * y := by
      rw [val_take_succ q j hj, hy]; simp [List.getD, hj]
    rw [e1, show 32 * (i + (j + 1)) = 32 * ((i + j) + 1) by omega, pow32_succ, times_arith hs h5]
    rw [show 32 * (i + j) = 32 * i + 32 * j by omega, Nat.pow_add, Nat.mul_add x, Nat.mul_add (2 ^ (32 * i)), Nat.mul_assoc (2 ^ (32 * i)), Nat.mul_left_comm x]
theorem TimesRel.row {p q o : List Nat} {i x c : Nat} (h : TimesRel p q i q.length x o c) (hi : i < p.length) (hx : x = p.getD i 0) (y : Nat) : TimesRel p q (i + 1) 0 y (o.set (i + q.length) c) 0 := by
  obtain ⟨h1, h2, h3, h4, h5⟩ := h
  refine ⟨by rw [List.length_set]; exact h1, lims_set h2 _ _ h3, by decide, ?_, ?_⟩
  · intro t ht
    rw [List.getD, List.getElem?_set_ne (by omega)]; exact h4 t (by omega)
  · have hs := val_set o (i + q.length) c (by omega)
    rw [h4 _ (Nat.le_refl _)] at hs
    have e1 : p[i] = x := by rw [hx]; simp [List.getD, hi]
    rw [List.take_length] at h5
    rw [val_take_succ p i hi, e1, Nat.add_mul, Nat.mul_assoc]
    simp [val]
    omega
theorem TimesRel.fin {p q o : List Nat} {x : Nat} (h : TimesRel p q p.length 0 x o 0) : Lims o ∧ val o = val p * val q := by
  obtain ⟨h1, h2, h3, h4, h5⟩ := h
  refine ⟨h2, ?_⟩
  rw [List.take_length] at h5
  simpa [val] using h5

set_option maxHeartbeats 4000000 in
theorem times_any (va vb : Value) (a b k0 : Nat) (w : World) (ha : NV w va a) (hb : NV w vb b) (hka : a < 2 ^ k0) (hkb : b < 2 ^ k0) (hk0 : k0 ≤ 120000000000000) :
    Calls Tryz.prog 63 #[va, vb] w (RetNV w (a * b)) := by
  obtain ⟨l, hl, el, ⟨-, aa, ca, rfl, hca, hma, hA⟩, hll⟩ := ha.len hka
  obtain ⟨m, hm, em, ⟨-, ab, cb, rfl, hcb, hmb, hB⟩, hml⟩ := hb.len hkb
  unfold maxLen at hma hmb
  have EL := Lib.hid el
  have EM := Lib.hid em
  clear ha hb hka hkb el em
  rcases hA with hP | ⟨bp, op, rfl, hbp, hcP⟩
  all_goals rcases hB with hQ | ⟨bq, oq, rfl, hbq, hcQ⟩
  all_goals
    go_enter Tryz.func63, Tryz.ntmps63
    go_wp2_with (refine wpList_make_limbs rfl _ _ rfl _ _ (l.length + m.length) (l.length + m.length) rfl rfl (by simp) (by simp) (Nat.le_refl _) (by omega) ?_; intro w1 hown1 hb1)
    go_loopw [19] (fun i wr => ∃ (k : Nat) (o : List Nat), k ≤ l.length ∧ i = .int .i64 k ∧ wr.ownsRow w.heap.size 102 1 (.slice (some ⟨w.heap.size, 0, none⟩) (l.length + m.length) (l.length + m.length)) (l.length + m.length) (lc o) ∧ TimesRel l m k 0 0 o 0 ∧ Below w.heap.size w wr)
      (fun i _ => l.length - (intOf i).toNat)
    case atStart => exact ⟨0, _, Nat.zero_le _, rfl, hown1, TimesRel.start _ _ _, hb1⟩
    case round =>
      obtain ⟨k, o, hk, rfl, hown, hrel, hbel⟩ := hrel
      have REL := Lib.hid hrel
      clear hrel
      obtain ⟨wo, rfl⟩ : ∃ wo : World, wo = wr := ⟨_, rfl⟩
      by_cases hkp : k < l.length
      · first
          | (exfalso; omega)
          | (obtain ⟨x, hx⟩ : ∃ x, x = l.getD k 0 := ⟨_, rfl⟩
             have hx1 : x < 4294967296 := by rw [hx]; exact hl.1.getD k
             have hcx := (hbel.cell (p := ⟨bp, op + k, none⟩) hbp).trans (hcP k hkp)
             rw [← hx] at hcx
             have HX := Lib.hid hx
             have HCP := Lib.hid hcP
             clear hx hcP
             try (have HCQ := Lib.hid hcQ; clear hcQ)
             go_wp2
             go_loopw [8, 26] (fun c i wr => ∃ (j cn : Nat) (o : List Nat), j ≤ m.length ∧ i = .int .i64 j ∧ c = .int .u64 ((cn : Nat) : Int) ∧ wr.ownsRow w.heap.size 102 1 (.slice (some ⟨w.heap.size, 0, none⟩) (l.length + m.length) (l.length + m.length)) (l.length + m.length) (lc o) ∧ TimesRel l m k j x o cn ∧ Below w.heap.size w wr)
               (fun _ i _ => m.length - (intOf i).toNat)
             case atStart => exact ⟨0, 0, o, Nat.zero_le _, rfl, rfl, hown, REL.out.other x rfl, hbel⟩
             case round =>
               clear hown hbel hcx
               clear REL
               obtain ⟨j, cn, o, hj, rfl, rfl, hown, hrel, hbel⟩ := hrel
               have hcn : cn < 4294967296 := hrel.2.2.1
               have REL := Lib.hid hrel
               clear hrel
               by_cases hjq : j < m.length
               · first
                   | (exfalso; omega)
                   | (obtain ⟨y, hy⟩ : ∃ y, y = m.getD j 0 := ⟨_, rfl⟩
                      have hy1 : y < 4294967296 := by rw [hy]; exact hm.1.getD j
                      have hcy := (hbel.cell (p := ⟨bq, oq + j, none⟩) hbq).trans (HCQ.out j hjq)
                      rw [← hy] at hcy
                      have HY := Lib.hid hy
                      obtain ⟨z, hz⟩ : ∃ z, z = o.getD (k + j) 0 := ⟨_, rfl⟩
                      have hz1 : z < 4294967296 := by rw [hz]; exact REL.out.2.1.getD _
                      obtain ⟨hcz, hfz⟩ := own_cell hown (k + j) (by omega)
                      rw [← hz] at hcz
                      have HZ := Lib.hid hz
                      have hxy1 : (x : Int) * (y : Int) ≤ 18446744065119617025 := by
                        have : x * y ≤ 4294967295 * 4294967295 := Nat.mul_le_mul (by omega) (by omega)
                        have h2 : ((x * y : Nat) : Int) ≤ 18446744065119617025 := by omega
                        rwa [Int.natCast_mul] at h2
                      have hxy0 : 0 ≤ (x : Int) * (y : Int) := by rw [← Int.natCast_mul]; omega
                      have hst := @own_store w w.heap.size w.heap.size
                      clear hst hy hz
                      have HOWN := Lib.hid hown
                      clear hown
                      go_wp2
                      go_roundw
                      case rel =>
                        refine ⟨j + 1, (cn + (x * y + z)) / 4294967296, _, by omega, by go_num, ?_, own_store HOWN.out (k + j) ((cn + (x * y + z)) % 4294967296) ?_, REL.out.step hkp hjq hx1 hy1 HY.out HZ.out, ?_⟩
                        · simp
                        · simp
                        · exact hbel.setCell (by simp) _
                      case measure => simp [intOf]; omega)
               · have hje : j = m.length := by omega
                 have hrow : TimesRel l m (k + 1) 0 0 (o.set (k + m.length) cn) 0 := by
                   have := REL.out; rw [hje] at this; exact this.row hkp HX.out 0
                 obtain ⟨hcz, hfz⟩ := own_cell hown (k + m.length) (by omega)
                 have ROW := Lib.hid hrow
                 have HOWN := Lib.hid hown
                 clear hje hrow hown
                 go_wp2
                 go_roundw
                 case rel => exact ⟨k + 1, _, by omega, by go_num, own_store HOWN.out (k + m.length) cn (by simp), ROW.out, hbel.setCell (by simp) _⟩
                 case measure => simp [intOf]; omega)
      · have hke : k = l.length := by omega
        have hfin : Lims o ∧ val o = a * b := by
          have := REL.out; rw [hke] at this
          have h2 := this.fin
          rw [EL.out, EM.out] at h2
          exact h2
        have FIN := Lib.hid hfin
        clear hke hfin
        try clear hcP
        try clear hcQ
        go_wp2_with fail
        refine (norm_any _ _ _ (own_lim2 hown FIN.out.1)).mono ?_
        rintro e w2 ⟨⟨v2, rfl, hn2⟩, rfl⟩
        rw [FIN.out.2] at hn2
        go_wp2
        go_ret
        exact ⟨v2, rfl, hn2, hbel⟩
end Go.Proofs.YtofdjfdnckmmmaaGreatDoor

/-
  THE WALK of package nat: Left.
-/
namespace Go.Proofs.YtofdjfdnckmmmaaGreatDoor
open Go.RowKit Nt

theorem or_shift {c x s : Nat} (hc : c < 2 ^ s) (hs : s < 32) (hx : x < 4294967296) :
    bits .or .u64 (c : Int) (IntKind.u64.wrap ((x : Int) * 2 ^ s)) = ((c + x * 2 ^ s : Nat) : Int) ∧ c + x * 2 ^ s < 9223372036854775808 := by
  have h1 : 2 ^ s ≤ 2 ^ 31 := Nat.pow_le_pow_right (by decide) (by omega)
  have h2 : x * 2 ^ s ≤ 4294967295 * 2 ^ 31 := Nat.mul_le_mul (by omega) h1
  have h3 : ((x : Int) * 2 ^ s) = ((x * 2 ^ s : Nat) : Int) := by simp
  have h4 : c + x * 2 ^ s < 9223372036854775808 := by omega
  refine ⟨?_, h4⟩
  rw [h3, IntWalk.u64_in _ (by omega), bits_or_u64_nat _ _ (by omega) (by omega)]
  congr 1
  rw [Nat.or_comm, Nat.mul_comm, ← Nat.two_pow_add_eq_or_of_lt hc, Nat.add_comm]

/-- limbs shifted, one by one -/
def LeftRel (l : List Nat) (n k : Nat) (o : List Nat) (c : Nat) : Prop :=
  o.length = n / 32 + k ∧ Lims o ∧ c < 2 ^ (n % 32) ∧ val o + 2 ^ (32 * (n / 32 + k)) * c = 2 ^ n * val (l.take k)
theorem lims_zeros (n : Nat) : Lims (List.replicate n 0) := by intro x hx; rw [List.eq_of_mem_replicate hx]; decide
theorem val_zeros (n : Nat) : val (List.replicate n 0) = 0 := by
  induction n with
  | zero => rfl
  | succ n ih => simp [List.replicate_succ, val, ih]
theorem LeftRel.start (l : List Nat) (n : Nat) : LeftRel l n 0 (List.replicate (n / 32) 0) 0 :=
  ⟨by simp, lims_zeros _, Nat.two_pow_pos _, by simp [val, val_zeros]⟩
theorem left_arith {V W c x S N P : Nat} (h : V + W * c = P) (hN : N = W * S) :
    V + W * ((c + x * S) % 4294967296) + 4294967296 * W * ((c + x * S) / 4294967296) = P + N * x := by
  have h1 := Nat.div_add_mod (c + x * S) 4294967296
  have h2 : W * ((c + x * S) % 4294967296) + 4294967296 * W * ((c + x * S) / 4294967296) = W * c + W * S * x := by
    rw [Nat.mul_comm 4294967296 W, Nat.mul_assoc, ← Nat.mul_add, Nat.mul_assoc, ← Nat.mul_add]; congr 1
    rw [Nat.mul_comm S x]; omega
  subst hN; omega
theorem LeftRel.step {l o : List Nat} {n k c x : Nat} (h : LeftRel l n k o c) (hk : k < l.length) (hx : x = l.getD k 0) (hl : Lims l) :
    LeftRel l n (k + 1) (o ++ [(c + x * 2 ^ (n % 32)) % 4294967296]) ((c + x * 2 ^ (n % 32)) / 4294967296) := by
  obtain ⟨h1, h2, h3, h4⟩ := h
  have hx1 : x < 4294967296 := by rw [hx]; exact hl.getD k
  refine ⟨by rw [List.length_append, h1]; rfl, h2.snoc (Nat.mod_lt _ (by decide)), ?_, ?_⟩
  · rw [Nat.div_lt_iff_lt_mul (by decide)]
    have : (x + 1) * 2 ^ (n % 32) ≤ 4294967296 * 2 ^ (n % 32) := Nat.mul_le_mul_right _ (by omega)
    rw [Nat.add_mul] at this
    rw [Nat.mul_comm (2 ^ (n % 32)) 4294967296]; omega
  · rw [val_snoc, h1, ← Nat.add_assoc, pow32_succ, val_take_succ l k hk]
    have e1 : l[k] = x := by rw [hx]; simp [List.getD, hk]
    rw [e1, Nat.mul_add (2 ^ n), ← Nat.mul_assoc (2 ^ n)]
    apply left_arith h4
    rw [← Nat.pow_add, ← Nat.pow_add]; congr 1; omega
theorem LeftRel.fin {l o : List Nat} {n c : Nat} (h : LeftRel l n l.length o c) : Lims (o ++ [c]) ∧ val (o ++ [c]) = val l * 2 ^ n := by
  obtain ⟨h1, h2, h3, h4⟩ := h
  have h5 : 2 ^ (n % 32) ≤ 2 ^ 31 := Nat.pow_le_pow_right (by decide) (by omega)
  refine ⟨h2.snoc (by omega), ?_⟩
  rw [val_snoc, h1, h4, List.take_length, Nat.mul_comm]

/-- a call that tells a number, in new memory, with no room behind it -/
def RetNVc (w : World) (n : Nat) (e : Ending) (w' : World) : Prop := ∃ v, e = .returned v ∧ NVc w.heap.size w' v n ∧ Below w.heap.size w w'
theorem NVc.nil (B : Nat) (w : World) : NVc B w (.slice none 0 0) 0 := ⟨[], none, Nrm.nil, rfl, ⟨Lims.nil, none, 0, rfl, Nat.zero_le _, Nat.zero_le _, Or.inl (by simp)⟩, rfl, fun p h => by cases h⟩
theorem own_base {w : World} {base n : Nat} {v : Value} {xs : List Value} (h : w.ownsRow base 102 1 v n xs) : ∀ ao m c p, v = .slice ao m c → ao = some p → base ≤ p.block := by
  rintro ao m c p rfl rfl
  exact (h.lt p.block rfl).1
set_option maxHeartbeats 4000000 in
set_option maxRecDepth 100000 in
theorem left_clip (va : Value) (a n k0 : Nat) (x : Int) (w : World) (ha : NV w va a) (hx : x = (n : Int)) (hka : a < 2 ^ k0) (hk0 : k0 ≤ 120000000000000) (hn : n ≤ 120000000000000) :
    Calls Tryz.prog 98 #[va, .int .i64 x] w (RetNVc w (a * 2 ^ n)) := by
  subst hx
  obtain ⟨l, hl, el, ⟨-, aa, ca, rfl, hca, hma, hA⟩, hll⟩ := ha.len hka
  unfold maxLen at hma
  have EL := Lib.hid el
  clear ha hka el
  have hll2 : l.length ≤ 4000000000000 := by omega
  rcases hA with hP | ⟨bp, op, rfl, hbp, hcP⟩
  · have h0 : a = 0 := by rw [← EL.out, List.length_eq_zero_iff.1 (by omega : l.length = 0)]; rfl
    have H0 := Lib.hid h0
    clear h0
    go_enter Tryz.func98, Tryz.ntmps98
    go_wp2
    go_ret
    exact ⟨_, rfl, by rw [H0.out, Nat.zero_mul]; exact NVc.nil _ _, Below.refl _ _⟩
  · by_cases hl0 : l.length ≤ 0
    · have h0 : a = 0 := by rw [← EL.out, List.length_eq_zero_iff.1 (by omega : l.length = 0)]; rfl
      have H0 := Lib.hid h0
      clear h0 hcP
      go_enter Tryz.func98, Tryz.ntmps98
      go_wp2
      go_ret
      exact ⟨_, rfl, by rw [H0.out, Nat.zero_mul]; exact NVc.nil _ _, Below.refl _ _⟩
    · have hl1 : 0 < l.length := by omega
      clear hl0
      go_enter Tryz.func98, Tryz.ntmps98
      go_wp2_with (refine wpList_make_limbs rfl _ _ rfl _ _ (n / 32) (n / 32 + l.length + 1) rfl rfl (by simp) (by simp) (by omega) (by omega) ?_; intro w1 hown1 hb1)
      go_loopw [5, 6, 23] (fun v c i wr => ∃ (k cn : Nat) (o : List Nat), k ≤ l.length ∧ i = .int .i64 k ∧ c = .int .u64 ((cn : Nat) : Int) ∧ wr.ownsRow w.heap.size 102 1 v o.length (lc o) ∧ LeftRel l n k o cn ∧ Below w.heap.size w wr)
        (fun _ _ i _ => l.length - (intOf i).toNat)
      case atStart => exact ⟨0, 0, _, Nat.zero_le _, rfl, rfl, by rw [List.length_replicate]; exact hown1, LeftRel.start _ _, hb1⟩
      case round =>
        obtain ⟨k, cn, o, hk, rfl, rfl, hown, hrel, hbel⟩ := hrel
        have hol : o.length ≤ 10000000000000 := by rw [hrel.1]; omega
        have hcn : cn < 2147483648 := Nat.lt_of_lt_of_le hrel.2.2.1 (Nat.pow_le_pow_right (n := 2) (by decide) (show n % 32 ≤ 31 by omega))
        have hsz := hbel.size
        have REL := Lib.hid hrel
        clear hrel
        by_cases hkp : k < l.length
        · obtain ⟨x, hx⟩ : ∃ x, x = l.getD k 0 := ⟨_, rfl⟩
          have hx1 : x < 4294967296 := by rw [hx]; exact hl.1.getD k
          have hcx := (hbel.cell (p := ⟨bp, op + k, none⟩) hbp).trans (hcP k hkp)
          rw [← hx] at hcx
          have HX := Lib.hid hx
          obtain ⟨e1, e2⟩ := or_shift REL.out.2.2.1 (show n % 32 < 32 by omega) hx1
          have hst := REL.out.step hkp HX.out hl.1
          generalize hy : cn + x * 2 ^ (n % 32) = y at *
          have ST := Lib.hid hst
          clear hst hx hcP hy
          go_wp2_with (at_builtin; refine wpList_push rfl _ _ rfl w.heap.size hsz _ o rfl hown (y % 4294967296) rfl (by omega) (by omega) ?_; intro v' w1 hown1 hb1)
          go_roundw
          case rel => exact ⟨k + 1, y / 4294967296, _, by omega, by go_num, by simp, hown1, ST.out, hbel.trans hb1⟩
          case measure => simp [intOf]; omega
        · have hke : k = l.length := by omega
          have hfin : Lims (o ++ [cn]) ∧ val (o ++ [cn]) = a * 2 ^ n := by
            have := REL.out; rw [hke] at this
            have h2 := this.fin
            rw [EL.out] at h2
            exact h2
          have FIN := Lib.hid hfin
          clear hke hfin hcP
          go_wp2_with (at_builtin; refine wpList_push rfl _ _ rfl w.heap.size hsz _ o rfl hown cn rfl (by omega) (by omega) ?_; intro v' w1 hown1 hb1)
          refine (norm_clip _ _ w.heap.size _ (own_lim' hown1 FIN.out.1) (own_base hown1)).mono ?_
          rintro e w2 ⟨⟨v2, rfl, hn2⟩, rfl⟩
          rw [FIN.out.2] at hn2
          go_wp2
          go_ret
          exact ⟨v2, rfl, hn2, hbel.trans hb1⟩
theorem left_any (va : Value) (a n k0 : Nat) (x : Int) (w : World) (ha : NV w va a) (hx : x = (n : Int)) (hka : a < 2 ^ k0) (hk0 : k0 ≤ 120000000000000) (hn : n ≤ 120000000000000) :
    Calls Tryz.prog 98 #[va, .int .i64 x] w (RetNV w (a * 2 ^ n)) :=
  (left_clip va a n k0 x w ha hx hka hk0 hn).mono fun e w' ⟨v, h1, h2, h3⟩ => ⟨v, h1, h2.nv, h3⟩
end Go.Proofs.YtofdjfdnckmmmaaGreatDoor

/-
  THE WALK of package nat: Right.
-/
namespace Go.Proofs.YtofdjfdnckmmmaaGreatDoor
open Go.RowKit Nt

/-- a call that tells a number, in new memory, and a bool -/
def RetNVB (w : World) (n : Nat) (b : Bool) (e : Ending) (w' : World) : Prop := ∃ v, e = .returned (.tuple #[v, .bool b]) ∧ NV w' v n ∧ Below w.heap.size w w'

/-- is something lost? -/
def lostB (a n : Nat) : Bool := decide (a % 2 ^ n ≠ 0)

theorem and_low (x s : Nat) (hs : s < 32) (hx : x < 4294967296) :
    bits .and .u32 (x : Int) (((2 : Int) ^ s - 1) % 4294967296) = ((x % 2 ^ s : Nat) : Int) := by
  have h1 : 2 ^ s ≤ 2 ^ 31 := Nat.pow_le_pow_right (by decide) (by omega)
  have h2 : ((2 : Int) ^ s) = ((2 ^ s : Nat) : Int) := by simp
  have h0 := Nat.two_pow_pos s
  rw [h2, show (((2 ^ s : Nat) : Int) - 1) % 4294967296 = ((2 ^ s - 1 : Nat) : Int) by omega, u32_and_nat _ _ hx (by omega), Nat.and_two_pow_sub_one_eq_mod]
theorem or_high (x y : Nat) (hx : x < 4294967296) (hy : y < 4294967296) : bits .or .u64 (x : Int) ((y : Int) * 4294967296) = ((x + y * 4294967296 : Nat) : Int) := by
  have h3 : ((y : Int) * 4294967296) = ((y * 4294967296 : Nat) : Int) := by simp
  rw [h3, bits_or_u64_nat _ _ (by omega) (by omega)]
  congr 1
  have := Nat.two_pow_add_eq_or_of_lt (show x < 2 ^ 32 by omega) y
  rw [Nat.or_comm, Nat.mul_comm, show (4294967296 : Nat) = 2 ^ 32 by decide, ← this]; omega

theorem mod_zero_step {l : List Nat} {n k : Nat} (hl : Lims l) (hk : k < l.length) :
    (k < n / 32 → (val (l.take (k + 1)) % 2 ^ n ≠ 0 ↔ val (l.take k) % 2 ^ n ≠ 0 ∨ l.getD k 0 ≠ 0)) ∧
    (k = n / 32 → (val (l.take (k + 1)) % 2 ^ n ≠ 0 ↔ val (l.take k) % 2 ^ n ≠ 0 ∨ l.getD k 0 % 2 ^ (n % 32) ≠ 0)) ∧
    (n / 32 < k → val (l.take (k + 1)) % 2 ^ n = val (l.take k) % 2 ^ n) := by
  have e1 : l[k] = l.getD k 0 := by simp [List.getD, hk]
  have hv := val_take_succ l k hk
  rw [e1] at hv
  have ht := val_lt (hl.take k)
  rw [List.length_take, Nat.min_eq_left (by omega)] at ht
  have hp := Nat.two_pow_pos (32 * k)
  refine ⟨fun h => ?_, fun h => ?_, fun h => ?_⟩
  · have h2 : 2 ^ (32 * k) * 4294967296 ≤ 2 ^ n := by
      rw [show (4294967296 : Nat) = 2 ^ 32 by decide, ← Nat.pow_add]; exact Nat.pow_le_pow_right (by decide) (by omega)
    have hd := hl.getD k
    rw [show l[k]?.getD 0 = l.getD k 0 from rfl] at hd
    have h3 : 2 ^ (32 * k) * (l.getD k 0 + 1) ≤ 2 ^ (32 * k) * 4294967296 := Nat.mul_le_mul_left _ (by omega)
    rw [Nat.mul_add] at h3
    rw [hv, Nat.mod_eq_of_lt (by omega), Nat.mod_eq_of_lt (by omega)]
    have h4 : 2 ^ (32 * k) * l.getD k 0 = 0 ↔ l.getD k 0 = 0 := by rw [Nat.mul_eq_zero]; omega
    omega
  · have e2 : 2 ^ n = 2 ^ (32 * k) * 2 ^ (n % 32) := by rw [← Nat.pow_add]; congr 1; omega
    have h3 : val (l.take k) % 2 ^ n = val (l.take k) := Nat.mod_eq_of_lt (Nat.lt_of_lt_of_le ht (by rw [e2]; exact Nat.le_mul_of_pos_right _ (Nat.two_pow_pos _)))
    have h5 : val (l.take (k + 1)) % 2 ^ n = val (l.take k) + 2 ^ (32 * k) * (l.getD k 0 % 2 ^ (n % 32)) := by
      rw [hv, e2, Nat.mod_mul, Nat.add_mul_mod_self_left, Nat.mod_eq_of_lt ht, Nat.add_mul_div_left _ _ hp, Nat.div_eq_of_lt ht, Nat.zero_add]
    rw [h5, h3]
    have h4 : 2 ^ (32 * k) * (l.getD k 0 % 2 ^ (n % 32)) = 0 ↔ l.getD k 0 % 2 ^ (n % 32) = 0 := by rw [Nat.mul_eq_zero]; omega
    omega
  · have e2 : 2 ^ (32 * k) = 2 ^ n * 2 ^ (32 * k - n) := by rw [← Nat.pow_add]; congr 1; omega
    rw [hv, e2, Nat.mul_assoc, Nat.add_mul_mod_self_left]

/-- limbs shifted down, one by one -/
def RightRel (l : List Nat) (n k : Nat) (o : List Nat) : Prop :=
  n / 32 + o.length = k ∧ Lims o ∧ val o = val l / 2 ^ n % 2 ^ (32 * o.length)
theorem RightRel.start (l : List Nat) (n : Nat) : RightRel l n (n / 32) [] := ⟨by simp, Lims.nil, by simp [val, Nat.mod_one]⟩
theorem drop_val {l : List Nat} (hl : Lims l) (k : Nat) (hk : k ≤ l.length) : val l / 2 ^ (32 * k) = val (l.drop k) := by
  have h1 := val_take_drop l k hk
  have ht := val_lt (hl.take k)
  rw [List.length_take, Nat.min_eq_left hk] at ht
  rw [h1, Nat.add_mul_div_left _ _ (Nat.two_pow_pos _), Nat.div_eq_of_lt ht, Nat.zero_add]
theorem limb_of {A R s : Nat} (hs : s < 32) : (A + 18446744073709551616 * R) / 2 ^ s % 4294967296 = A / 2 ^ s % 4294967296 := by
  have e : 18446744073709551616 = 2 ^ s * (4294967296 * 2 ^ (32 - s)) := by
    rw [show (4294967296 : Nat) = 2 ^ 32 by decide, ← Nat.pow_add, ← Nat.pow_add, show s + (32 + (32 - s)) = 64 by omega]
  rw [e, Nat.mul_assoc, Nat.add_mul_div_left _ _ (Nat.two_pow_pos _), Nat.mul_assoc, Nat.add_mul_mod_self_left]
theorem RightRel.step {l o : List Nat} {n k x y : Nat} (h : RightRel l n k o) (hk : k < l.length) (hl : Lims l) (hx : x = l.getD k 0) (hy : y = l.getD (k + 1) 0) :
    RightRel l n (k + 1) (o ++ [(x + y * 4294967296) / 2 ^ (n % 32) % 4294967296]) := by
  obtain ⟨h1, h2, h3⟩ := h
  refine ⟨by rw [List.length_append]; simp; omega, h2.snoc (Nat.mod_lt _ (by decide)), ?_⟩
  have hlimb : (x + y * 4294967296) / 2 ^ (n % 32) % 4294967296 = val l / 2 ^ n / 2 ^ (32 * o.length) % 4294967296 := by
    have e1 : val l / 2 ^ n / 2 ^ (32 * o.length) = val (l.drop k) / 2 ^ (n % 32) := by
      rw [← drop_val hl k (by omega), Nat.div_div_eq_div_mul, Nat.div_div_eq_div_mul, ← Nat.pow_add, ← Nat.pow_add]
      congr 2; omega
    rw [e1, val_drop l k hk]
    have ex : l[k] = x := by rw [hx]; simp [List.getD, hk]
    rw [ex]
    by_cases hk1 : k + 1 < l.length
    · rw [val_drop l (k + 1) hk1]
      have ey : l[k + 1] = y := by rw [hy]; simp [List.getD, hk1]
      rw [ey, Nat.mul_add, ← Nat.add_assoc, ← Nat.mul_assoc, show 4294967296 * 4294967296 = 18446744073709551616 by decide, limb_of (Nat.mod_lt _ (by decide)), Nat.mul_comm y]
    · rw [List.drop_of_length_le (by omega)]
      have ey : y = 0 := by rw [hy]; simp [List.getD, List.getElem?_eq_none (Nat.le_of_not_lt hk1)]
      rw [ey]; simp [val]
  rw [val_snoc, List.length_append, List.length_singleton, h3, hlimb]
  rw [show 32 * (o.length + 1) = 32 * o.length + 32 by omega, Nat.pow_add, Nat.mod_mul]
theorem RightRel.fin {l o : List Nat} {n : Nat} (h : RightRel l n l.length o) (hl : Lims l) : Lims o ∧ val o = val l / 2 ^ n := by
  obtain ⟨h1, h2, h3⟩ := h
  refine ⟨h2, ?_⟩
  rw [h3, Nat.mod_eq_of_lt]
  rw [Nat.div_lt_iff_lt_mul (Nat.two_pow_pos _), ← Nat.pow_add]
  exact Nat.lt_of_lt_of_le (val_lt hl) (Nat.pow_le_pow_right (by decide) (by omega))
theorem right_out {l : List Nat} {n : Nat} (hl : Lims l) (h : l.length ≤ n / 32) : val l / 2 ^ n = 0 :=
  Nat.div_eq_of_lt (Nat.lt_of_lt_of_le (val_lt hl) (Nat.pow_le_pow_right (by decide) (by omega)))

set_option maxHeartbeats 8000000 in
set_option maxRecDepth 100000 in
theorem right_any (va : Value) (a n k0 : Nat) (x : Int) (w : World) (ha : NV w va a) (hx : x = (n : Int)) (hka : a < 2 ^ k0) (hk0 : k0 ≤ 120000000000000) (hn : n ≤ 120000000000000) :
    Calls Tryz.prog 99 #[va, .int .i64 x] w (RetNVB w (a / 2 ^ n) (lostB a n)) := by
  subst hx
  obtain ⟨l, hl, el, ⟨-, aa, ca, rfl, hca, hma, hA⟩, hll⟩ := ha.len hka
  unfold maxLen at hma
  have EL := Lib.hid el
  clear ha hka el
  have hll2 : l.length ≤ 4000000000000 := by omega
  rcases hA with hP | ⟨bp, op, rfl, hbp, hcP⟩
  all_goals
    go_enter Tryz.func99, Tryz.ntmps99
    go_wp2
    go_loop [6, 14] (fun v i => ∃ (k : Nat) (L : Bool), k ≤ l.length ∧ i = .int .i64 k ∧ v = .bool L ∧ L = lostB (val (l.take k)) n)
      (fun _ i => l.length - (intOf i).toNat)
    case atStart => exact ⟨0, false, Nat.zero_le _, rfl, rfl, by simp [val, lostB]⟩
    case round =>
      obtain ⟨k, L, hk, rfl, rfl, hL⟩ := hrel
      by_cases hkp : k < l.length
      · first
          | (exfalso; omega)
          | (have hst := @mod_zero_step l n k hl.1 hkp
             obtain ⟨x, hx⟩ : ∃ x, x = l.getD k 0 := ⟨_, rfl⟩
             have hx1 : x < 4294967296 := by rw [hx]; exact hl.1.getD k
             have hcx := hcP k hkp
             rw [← hx] at hcx hst
             have e1 := and_low x (n % 32) (Nat.mod_lt _ (by decide)) hx1
             have ST := Lib.hid hst
             have HL := Lib.hid hL
             have HCP := Lib.hid hcP
             clear hst hx hL hcP
             rcases Nat.lt_trichotomy k (n / 32) with hlt | heq | hgt
             · by_cases hx0 : x = 0
               · subst hx0
                 cases L
                 all_goals
                   go_wp2
                   go_round
                   case rel =>
                     refine ⟨k + 1, _, by omega, by go_num, rfl, ?_⟩
                     have h1 := ST.out.1 hlt; have h2 := HL.out
                     unfold lostB at h2 ⊢; simp_all
                   case measure => simp [intOf]; omega
               · have hx2 : ((x : Int) != 0) = true := by simp; omega
                 cases L
                 all_goals
                   go_wp2
                   go_round
                   case rel =>
                     refine ⟨k + 1, _, by omega, by go_num, rfl, ?_⟩
                     have h1 := ST.out.1 hlt; have h2 := HL.out
                     unfold lostB at h2 ⊢; simp_all
                   case measure => simp [intOf]; omega
             · subst heq
               by_cases hx0 : x % 2 ^ (n % 32) = 0
               · rw [hx0] at e1
                 have HX0 := Lib.hid hx0
                 clear hx0
                 cases L
                 all_goals
                   go_wp2
                   go_round
                   case rel =>
                     refine ⟨n / 32 + 1, _, by omega, by go_num, rfl, ?_⟩
                     have h1 := ST.out.2.1 rfl; have h2 := HL.out; have h3 := HX0.out
                     unfold lostB at h2 ⊢; simp_all
                   case measure => simp [intOf]; omega
               · generalize hr : x % 2 ^ (n % 32) = r at *
                 have hx2 : ((r : Int) != 0) = true := by simp; omega
                 have HR := Lib.hid hr
                 clear hr
                 cases L
                 all_goals
                   go_wp2
                   go_round
                   case rel =>
                     refine ⟨n / 32 + 1, _, by omega, by go_num, rfl, ?_⟩
                     have h1 := ST.out.2.1 rfl; have h2 := HL.out; have h3 := HR.out
                     unfold lostB at h2 ⊢; simp_all
                   case measure => simp [intOf]; omega
             · have hb0 : ((k : Int) == (n : Int) / 32) = false := by rw [beq_eq_false_iff_ne]; omega
               clear e1
               go_wp2
               go_round
               case rel =>
                 refine ⟨k + 1, _, by omega, by go_num, rfl, ?_⟩
                 have h1 := ST.out.2.2 hgt; have h2 := HL.out
                 unfold lostB at h2 ⊢; rw [h1]; exact h2
               case measure => simp [intOf]; omega)
      · have hke : k = l.length := by omega
        have hL2 : L = lostB a n := by rw [hL, hke, List.take_length, EL.out]
        have HL := Lib.hid hL2
        clear hke hL hL2
        by_cases hout : l.length ≤ n / 32
        · have h0 : a / 2 ^ n = 0 := by rw [← EL.out]; exact right_out hl.1 hout
          have H0 := Lib.hid h0
          clear h0
          try clear hcP
          go_wp2
          go_ret2
          exact ⟨_, by rw [← HL.out]; rfl, by rw [H0.out]; exact NV.nil _, Below.refl _ _⟩
        · first
            | (exfalso; omega)
            | (have hin : n / 32 < l.length := by omega
               have HCP := Lib.hid hcP
               clear hcP
               go_wp2
               go_loopw [9, 10] (fun v i wr => ∃ (k : Nat) (o : List Nat), k ≤ l.length ∧ i = .int .i64 k ∧ wr.ownsRow w.heap.size 102 1 v o.length (lc o) ∧ RightRel l n k o ∧ Below w.heap.size w wr)
                 (fun _ i _ => l.length - (intOf i).toNat)
               case atStart => exact ⟨n / 32, [], by omega, by go_num, own_nil _ _, RightRel.start _ _, Below.refl _ _⟩
               case round =>
                 obtain ⟨k, o, hk, rfl, hown, hrel, hbel⟩ := hrel
                 have hol : o.length ≤ 10000000000000 := by have := hrel.1; omega
                 have hsz := hbel.size
                 have REL := Lib.hid hrel
                 clear hrel
                 by_cases hkp : k < l.length
                 · obtain ⟨x, hx⟩ : ∃ x, x = l.getD k 0 := ⟨_, rfl⟩
                   have hx1 : x < 4294967296 := by rw [hx]; exact hl.1.getD k
                   obtain ⟨y, hy⟩ : ∃ y, y = l.getD (k + 1) 0 := ⟨_, rfl⟩
                   have hy1 : y < 4294967296 := by rw [hy]; exact hl.1.getD (k + 1)
                   have hcx := (hbel.cell (p := ⟨bp, op + k, none⟩) hbp).trans (HCP.out k hkp)
                   rw [← hx] at hcx
                   have hst := REL.out.step hkp hl.1 hx hy
                   have hp1 : 1 ≤ 2 ^ (n % 32) := Nat.two_pow_pos _
                   by_cases hk1 : k + 1 < l.length
                   · have hcy := (hbel.cell (p := ⟨bp, op + (k + 1), none⟩) hbp).trans (HCP.out (k + 1) hk1)
                     rw [← hy] at hcy
                     have e2 := or_high x y hx1 hy1
                     generalize hz : x + y * 4294967296 = z at *
                     have ST := Lib.hid hst
                     clear hst hx hy hz
                     go_wp2_with (at_builtin; refine wpList_push rfl _ _ rfl w.heap.size hsz _ o rfl hown (z / 2 ^ (n % 32) % 4294967296) rfl (by simp) (by omega) ?_; intro v' w1 hown1 hb1)
                     go_roundw
                     case rel => exact ⟨k + 1, _, by omega, by go_num, hown1, ST.out, hbel.trans hb1⟩
                     case measure => simp [intOf]; omega
                   · have hy0 : y = 0 := by rw [hy]; simp [List.getD, List.getElem?_eq_none (Nat.le_of_not_lt hk1)]
                     rw [hy0, Nat.zero_mul, Nat.add_zero] at hst
                     have ST := Lib.hid hst
                     clear hst hx hy hy0
                     go_wp2_with (at_builtin; refine wpList_push rfl _ _ rfl w.heap.size hsz _ o rfl hown (x / 2 ^ (n % 32) % 4294967296) rfl (by simp) (by omega) ?_; intro v' w1 hown1 hb1)
                     go_roundw
                     case rel => exact ⟨k + 1, _, by omega, by go_num, hown1, ST.out, hbel.trans hb1⟩
                     case measure => simp [intOf]; omega
                 · have hke : k = l.length := by omega
                   have hfin : Lims o ∧ val o = a / 2 ^ n := by
                     have := REL.out; rw [hke] at this
                     have h2 := this.fin hl.1
                     rw [EL.out] at h2
                     exact h2
                   have FIN := Lib.hid hfin
                   clear hke hfin
                   go_wp2_with fail
                   refine (norm_any _ _ _ (own_lim' hown FIN.out.1)).mono ?_
                   rintro e w2 ⟨⟨v2, rfl, hn2⟩, rfl⟩
                   rw [FIN.out.2] at hn2
                   go_wp2
                   go_ret2
                   exact ⟨v2, by rw [← HL.out]; rfl, hn2, hbel⟩)
end Go.Proofs.YtofdjfdnckmmmaaGreatDoor

/-
  THE WALK of nat.Check.
-/
namespace Go.Proofs.YtofdjfdnckmmmaaGreatDoor
open Go.RowKit Nt

/-- a slice that may stand for a number: it has a form, but its last limb may be 0 -/
def checkN (l : List Nat) : Int := if 400 < l.length then 2 else if l.getLast? = some 0 then 3 else 0

theorem checkN_nrm {l : List Nat} (h : checkN l = 0) (hl : Lims l) : Nrm l ∧ l.length ≤ 400 := by
  unfold checkN at h
  split at h
  · omega
  · split at h
    · omega
    · exact ⟨⟨hl, by assumption⟩, by omega⟩


end Go.Proofs.YtofdjfdnckmmmaaGreatDoor
