/-
  SOME OF MY TEXTS in one: Rd. Each says what it proves.
-/
import Derived.Test.YthkcbjhjhkpclaaGreatDoorBf
import Derived.Test.YthkcbjhjhkpclaaGreatDoorBd
set_option linter.unusedVariables false
set_option linter.unusedSimpArgs false
/-
  EXACT NUMBERS that are handed in, or told: what Check says of them; dyad.check, dyad.bounded.
-/
namespace Go.Proofs.YthkcbjhjhkpclaaGreatDoor
open Go.RowKit Nt Fm

/-- in its form, and within the bounds -/
def Fit (d : D) : Prop := d.Nf ∧ d.m < 2 ^ 12800 ∧ -10000 ≤ d.e ∧ d.e ≤ 10000
/-- the struct v: Check says c of it; if that is 0 it is the number d -/
def RD (w : World) (v : Value) (c : Int) (d : D) : Prop := ∃ g ao n cp x, v = .agg #[.bool g, .slice ao n cp, .int .i64 x] ∧ n ≤ cp ∧ cp ≤ 9223372036854775807 ∧ (∃ l, l.length = n ∧ Lim w (.slice ao n cp) l ∧ chkE g l x = c) ∧ (c = 0 → NV w (.slice ao n cp) d.m ∧ g = d.neg ∧ x = d.e ∧ Fit d) ∧ -9223372036854775808 ≤ x ∧ x ≤ 9223372036854775807
theorem Fit.nz : Fit nz := ⟨Or.inl rfl, @lt_pow 0 0 12800 (by decide) (Nat.zero_le _), by decide, by decide⟩
theorem RD.below {w w' : World} {v : Value} {c : Int} {d : D} (h : RD w v c d) (hb : Below w.heap.size w w') : RD w' v c d := by
  obtain ⟨g, ao, n, cp, x, h1, h2, h3, ⟨l, h4, h5, h6⟩, h7, h8⟩ := h
  exact ⟨g, ao, n, cp, x, h1, h2, h3, ⟨l, h4, h5.below hb, h6⟩, fun hc => ⟨(h7 hc).1.below hb, (h7 hc).2⟩, h8⟩
theorem RD.dv {w : World} {v : Value} {d : D} (h : RD w v 0 d) : DV w v d := by
  obtain ⟨g, ao, n, cp, x, h1, h2, h3, -, h7, -⟩ := h
  obtain ⟨h8, rfl, rfl, -⟩ := h7 rfl
  exact ⟨_, h1, h8⟩
theorem RD.fit {w : World} {v : Value} {d : D} (h : RD w v 0 d) : Fit d := by
  obtain ⟨g, ao, n, cp, x, h1, h2, h3, -, h7, -⟩ := h
  exact (h7 rfl).2.2.2
theorem SV.rd {w : World} {v : Value} {g : Bool} {l : List Nat} {x : Int} (h : SV w v g l x) (h0 : -9223372036854775808 ≤ x) (h1 : x ≤ 9223372036854775807) : RD w v (chkE g l x) ⟨g, val l, x⟩ := by
  obtain ⟨s, rfl, hl⟩ := h
  have hl' := hl
  obtain ⟨a1, ao, cp, rfl, a2, a3, a4⟩ := hl
  unfold maxLen at a3
  refine ⟨g, ao, l.length, cp, x, rfl, a2, by omega, ⟨l, rfl, hl', rfl⟩, fun hc => ?_, h0, h1⟩
  have hf := chkE_form a1 hc
  exact ⟨hl'.nrm hf.1, rfl, rfl, hf.2.2.2.2.1, hf.2.2.2.2.2.1, hf.2.2.1, hf.2.2.2.1⟩
theorem chkE_fit {d : D} {l : List Nat} (hl : Nrm l) (hv : val l = d.m) (hf : Fit d) : chkE d.neg l d.e = 0 := by
  obtain ⟨h1, h2, h3, h4⟩ := hf
  rw [← hv] at h2
  have hlen : l.length ≤ 400 := by
    have := hl.len h2; omega
  unfold chkE
  rw [if_neg (by omega)]
  by_cases h0 : l.length = 0
  · rw [if_pos h0]
    have hm : d.m = 0 := by rw [← hv, List.length_eq_zero_iff.1 h0]; rfl
    rcases h1 with h1 | h1
    · rw [h1]; decide
    · omega
  · rw [if_neg h0, if_neg]
    intro h
    rcases h with h | h
    · apply hl.2
      have hlt : l.length - 1 < l.length := by omega
      have e : l.getD (l.length - 1) 0 = l[l.length - 1] := by simp [List.getD, hlt]
      rw [List.getLast?_eq_getElem?, List.getElem?_eq_getElem hlt, ← e, h]
    · have hodd : d.m % 2 = 1 := by
        rcases h1 with h1 | h1
        · exfalso; rw [h1] at hv
          exact h0 (by rw [val_eq_zero hl hv]; rfl)
        · exact h1
      rw [← hv] at hodd
      cases l with
      | nil => simp at h0
      | cons a l => simp [val] at hodd h; omega
theorem rd_of {w : World} {d : D} {ao : Option Addr} {n c : Nat} (hv : NV w (.slice ao n c) d.m) (hf : Fit d) : RD w (.agg #[.bool d.neg, .slice ao n c, .int .i64 d.e]) 0 d := by
  have hv' := hv
  obtain ⟨l, h1, h2, h3⟩ := hv
  have h3' := h3
  obtain ⟨a1, ao', cp, a0, a2, a3, a4⟩ := h3
  obtain ⟨rfl, rfl, rfl⟩ : ao = ao' ∧ n = l.length ∧ c = cp := by simpa using a0
  unfold maxLen at a3
  obtain ⟨f1, f2, f3, f4⟩ := hf
  exact ⟨d.neg, _, _, _, d.e, rfl, a2, by omega, ⟨l, rfl, h3', chkE_fit h1 h2 ⟨f1, f2, f3, f4⟩⟩, fun _ => ⟨hv', rfl, rfl, f1, f2, f3, f4⟩, by omega, by omega⟩
theorem RD.zero (w : World) : RD w (.agg #[.bool false, .slice none 0 0, .int .i64 0]) 0 nz := rd_of (d := nz) (NV.nil w) Fit.nz
theorem RD.check {w : World} {v : Value} {c : Int} {d : D} (h : RD w v c d) : Calls Tryz.prog 117 #[v] w fun r w' => r = .returned (.int .i64 c) ∧ Below w.heap.size w w' := by
  obtain ⟨g, ao, n, cp, x, rfl, h2, h3, ⟨l, rfl, h5, rfl⟩, -, -⟩ := h
  exact check_any _ g l x w ⟨_, rfl, h5⟩

/-- a call that tells an exact number and an error -/
def RetR (w : World) (E : Int) (R : D) (r : Ending) (w' : World) : Prop := ∃ ao n c, r = .returned (.tuple #[.agg #[.bool R.neg, .slice ao n c, .int .i64 R.e], .int .i64 E]) ∧ NV w' (.slice ao n c) R.m ∧ Below w.heap.size w w'
def ck2 (a b : Int) : Int := if a = 0 then b else a
def fitE (d : D) : Int := if 2 ^ 12800 ≤ d.m ∨ d.e < -10000 ∨ 10000 < d.e then 2 else 0
def opE (c1 c2 : Int) (S : D) : Int := if c1 = 0 then (if c2 = 0 then fitE S else c2) else c1
def opR (c1 c2 : Int) (S : D) : D := if opE c1 c2 S = 0 then S else nz
theorem fitE_fit {d : D} (h : d.Nf) (hf : fitE d = 0) : Fit d := by
  unfold fitE at hf
  split at hf
  · omega
  · exact ⟨h, by omega, by omega, by omega⟩
theorem fitE_of {d : D} (h : Fit d) : fitE d = 0 := by
  obtain ⟨h1, h2, h3, h4⟩ := h
  unfold fitE; rw [if_neg (by omega)]
theorem chkB_fitE {d : D} {l : List Nat} (hl : Nrm l) (hv : val l = d.m) : chkB l d.e = fitE d := by
  unfold chkB fitE
  obtain ⟨K, hK⟩ : ∃ K : Nat, K = 12800 := ⟨_, rfl⟩
  rw [← hK]
  have h : 400 < l.length ↔ 2 ^ K ≤ d.m := by
    constructor
    · intro h
      have := hl.ge (l.length - 1) (by omega)
      have h2 : 2 ^ K ≤ 2 ^ (32 * (l.length - 1)) := Nat.pow_le_pow_right (by decide) (by omega)
      omega
    · intro h
      have h2 := val_lt hl.1
      rw [hv] at h2
      have h3 := (Nat.pow_lt_pow_iff_right (by decide : 1 < 2)).1 (Nat.lt_of_le_of_lt h h2)
      omega
  by_cases hc : 400 < l.length ∨ d.e < -10000 ∨ 10000 < d.e
  · rw [if_pos hc, if_pos (Or.imp h.1 id hc)]
  · rw [if_neg hc, if_neg (fun h2 => hc (Or.imp h.2 id h2))]

set_option maxHeartbeats 2000000 in
theorem check2_any (v1 v2 : Value) (c1 c2 : Int) (d1 d2 : D) (w : World) (h1 : RD w v1 c1 d1) (h2 : RD w v2 c2 d2) :
    Calls Tryz.prog 66 #[v1, v2] w fun r w' => r = .returned (.int .i64 (ck2 c1 c2)) ∧ Below w.heap.size w w' := by
  have k1 := fun w' hb => (RD.below h1 (w' := w') hb).check
  have k2 := fun w' hb => (RD.below h2 (w' := w') hb).check
  obtain ⟨g1, a1, n1, p1, x1, rfl, -⟩ := h1
  obtain ⟨g2, a2, n2, p2, x2, rfl, -⟩ := h2
  have K1 := Lib.hid k1
  have K2 := Lib.hid k2
  clear k1 k2
  by_cases hc : c1 = 0
  · subst hc
    have e : ck2 0 c2 = c2 := rfl
    rw [e]; clear e
    go_enter Tryz.func66, Tryz.ntmps66
    go_wp2_with fail
    refine (K1.out _ (bl_alloc2 _ _ _)).mono ?_
    rintro r w1 ⟨rfl, hb⟩
    have B1 := Lib.hid (bl_thru (bl_alloc2 w _ _) (Nat.le_refl _) hb)
    have X := Lib.hid ((Box.new2 w _ _ _ _ _).below hb)
    obtain ⟨q0, q1, q2, f0, f1, f2⟩ := X.out.cells
    clear hb
    go_wp2_with fail
    refine (K2.out _ B1.out).mono ?_
    rintro r w2 ⟨rfl, hb⟩
    have B2 := Lib.hid (bl_thru B1.out (Nat.le_refl _) hb)
    clear hb
    go_wp2
    go_ret
    exact ⟨rfl, B2.out⟩
  · have e : ck2 c1 c2 = c1 := by unfold ck2; rw [if_neg hc]
    rw [e]; clear e
    have hc2 : (c1 != 0) = true := by rw [bne_iff_ne]; exact hc
    clear hc
    go_enter Tryz.func66, Tryz.ntmps66
    go_wp2_with fail
    refine (K1.out _ (bl_alloc2 _ _ _)).mono ?_
    rintro r w1 ⟨rfl, hb⟩
    have B1 := Lib.hid (bl_thru (bl_alloc2 w _ _) (Nat.le_refl _) hb)
    clear hb
    go_wp2
    go_ret
    exact ⟨rfl, B1.out⟩

set_option maxHeartbeats 2000000 in
theorem bounded_any (v : Value) (d : D) (w : World) (h : DV w v d) :
    Calls Tryz.prog 67 #[v] w (RetR w (fitE d) (if fitE d = 0 then d else nz)) := by
  obtain ⟨g, m, x⟩ := d
  obtain ⟨s, rfl, l, hn, hv, hl⟩ := h
  simp only at hv
  have hl' := hl
  obtain ⟨a1, ao, cp, rfl, a2, a3, a4⟩ := hl
  unfold maxLen at a3
  have hb0 := fun w' (hb : Below w.heap.size w w') => bounds_any (.agg #[.bool g, .slice ao l.length cp, .int .i64 x]) g l x w' ⟨_, rfl, hl'.below hb⟩
  have hq : chkB l x = fitE ⟨g, m, x⟩ := chkB_fitE (d := ⟨g, m, x⟩) hn hv
  rw [hq] at hb0
  have hnv : NV w (.slice ao l.length cp) m := ⟨l, hn, hv, hl'⟩
  have KB := Lib.hid hb0
  have HV := Lib.hid hnv
  clear hb0 hl' hnv hq a4
  generalize hE : fitE ⟨g, m, x⟩ = E at *
  clear hE
  by_cases hc : E = 0
  · subst hc
    rw [if_pos rfl]
    go_enter Tryz.func67, Tryz.ntmps67
    go_wp2_with fail
    refine (KB.out _ (bl_alloc2 _ _ _)).mono ?_
    rintro r w1 ⟨rfl, hb⟩
    have B1 := Lib.hid (bl_thru (bl_alloc2 w _ _) (Nat.le_refl _) hb)
    have X := Lib.hid (((Box.new w _ _ _ _).alloc _).below hb)
    have Z := Lib.hid ((Box.new2 w _ _ _ _ _).below hb)
    obtain ⟨q0, q1, q2, f0, f1, f2⟩ := X.out.cells
    obtain ⟨p0, p1, p2, g0, g1, g2⟩ := Z.out.cells
    clear hb
    go_wp2
    refine bodyPost_ret (v := .tuple #[.agg #[.bool g, .slice ao l.length cp, .int .i64 x], .int .i64 0]) (by simp [results, Tryz.results67, go_sem, p0, p1, p2]) rfl ?_
    exact ⟨ao, _, cp, rfl, (HV.out.below B1.out).setD Z.out, bl_set3 B1.out (by omega) _ _ _⟩
  · rw [if_neg hc]
    have hc2 : (E != 0) = true := by rw [bne_iff_ne]; exact hc
    clear hc
    go_enter Tryz.func67, Tryz.ntmps67
    go_wp2_with fail
    refine (KB.out _ (bl_alloc2 _ _ _)).mono ?_
    rintro r w1 ⟨rfl, hb⟩
    have B1 := Lib.hid (bl_thru (bl_alloc2 w _ _) (Nat.le_refl _) hb)
    have Z := Lib.hid ((Box.new2 w _ _ _ _ _).below hb)
    obtain ⟨p0, p1, p2, g0, g1, g2⟩ := Z.out.cells
    clear hb
    go_wp2
    refine bodyPost_ret (v := .tuple #[.agg #[.bool false, .slice none 0 0, .int .i64 0], .int .i64 E]) (by simp [results, Tryz.results67, go_sem, p0, p1, p2]) rfl ?_
    exact ⟨none, 0, 0, rfl, NV.nil _, bl_set3 B1.out (by omega) _ _ _⟩
end Go.Proofs.YthkcbjhjhkpclaaGreatDoor
