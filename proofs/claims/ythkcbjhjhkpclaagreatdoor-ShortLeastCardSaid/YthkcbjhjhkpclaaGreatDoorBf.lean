/-
  SOME OF MY TEXTS in one: Ck To. Each says what it proves.
-/
import Derived.Test.YthkcbjhjhkpclaaGreatDoorRd2
set_option linter.unusedVariables false
set_option linter.unusedSimpArgs false
/-
  THE WALKS of dyad.bounds, dyad.Check, dyad.Sign: of any struct.
-/
namespace Go.Proofs.YthkcbjhjhkpclaaGreatDoor
open Go.RowKit Nt Fm

/-- the struct value v has these fields -/
def SV (w : World) (v : Value) (neg : Bool) (l : List Nat) (e : Int) : Prop := ∃ s, v = .agg #[.bool neg, s, .int .i64 e] ∧ Lim w s l
theorem SV.below {w w' : World} {v : Value} {neg : Bool} {l : List Nat} {e : Int} (h : SV w v neg l e) (hb : Below w.heap.size w w') : SV w' v neg l e := by
  obtain ⟨s, h1, h2⟩ := h; exact ⟨s, h1, h2.below hb⟩
def chkB (l : List Nat) (e : Int) : Int := if 400 < l.length ∨ e < -10000 ∨ 10000 < e then 2 else 0
def chkE (neg : Bool) (l : List Nat) (e : Int) : Int :=
  if 400 < l.length ∨ e < -10000 ∨ 10000 < e then 2 else if l.length = 0 then (if e ≠ 0 ∨ neg = true then 3 else 0) else if l.getD (l.length - 1) 0 = 0 ∨ l.getD 0 0 % 2 = 0 then 3 else 0

theorem lt_pow {n a b : Nat} (h : n < 2 ^ a) (hab : a ≤ b) : n < 2 ^ b := Nat.lt_of_lt_of_le h (Nat.pow_le_pow_right (by decide) hab)
theorem chkE_form {neg : Bool} {l : List Nat} {e : Int} (hl : Lims l) (h : chkE neg l e = 0) : Nrm l ∧ l.length ≤ 400 ∧ -10000 ≤ e ∧ e ≤ 10000 ∧ (⟨neg, val l, e⟩ : D).Nf ∧ val l < 2 ^ 12800 ∧ (val l = 0 → l = []) := by
  have hbd : l.length ≤ 400 → val l < 2 ^ 12800 := fun h => by
    have h2 : 32 * l.length ≤ 12800 := by omega
    exact @lt_pow (val l) (32 * l.length) 12800 (val_lt hl) h2
  unfold chkE at h
  split at h
  · omega
  · rename_i h1
    have hv := hbd (by omega)
    clear hbd
    split at h
    · rename_i h2
      have := List.length_eq_zero_iff.1 h2; subst this
      split at h
      · omega
      · rename_i h3
        have e1 : e = 0 := by omega
        have e2 : neg = false := by
          cases neg
          · rfl
          · exact absurd (Or.inr rfl) h3
        subst e1 e2
        exact ⟨Nrm.nil, by simp, by omega, by omega, Or.inl rfl, hv, fun _ => rfl⟩
    · rename_i h2
      split at h
      · omega
      · rename_i h3
        have hn : Nrm l := by
          refine ⟨hl, ?_⟩
          rw [List.getLast?_eq_getElem?]
          intro h4
          apply h3; left
          rw [List.getD, h4]; rfl
        refine ⟨hn, by omega, by omega, by omega, Or.inr ?_, ?_, val_eq_zero hn⟩
        · have h5 : l.getD 0 0 % 2 = 1 := by omega
          cases l with
          | nil => simp at h2
          | cons d l => simp only [val]; simp at h5; omega
        · exact hv

/-- what is in order reads as an exact number -/
theorem SV.dv {w : World} {v : Value} {neg : Bool} {l : List Nat} {e : Int} (h : SV w v neg l e) (hc : chkE neg l e = 0) : DV w v ⟨neg, val l, e⟩ := by
  obtain ⟨s, h1, h2⟩ := h
  exact ⟨s, h1, l, (chkE_form h2.1 hc).1, rfl, h2⟩

theorem bounds_any (v : Value) (neg : Bool) (l : List Nat) (e : Int) (w : World) (h : SV w v neg l e) :
    Calls Tryz.prog 120 #[v] w fun r w' => r = .returned (.int .i64 (chkB l e)) ∧ Below w.heap.size w w' := by
  obtain ⟨s, rfl, hl, ao, cap, rfl, hcap, hm, hc⟩ := h
  unfold maxLen at hm
  clear hc
  by_cases h1 : 400 < l.length
  · have q : chkB l e = 2 := by unfold chkB; rw [if_pos (by omega)]
    rw [q]; clear q
    go_enter Tryz.func120, Tryz.ntmps120
    go_wp2
    go_ret
    exact ⟨rfl, (Below.refl _ _).alloc (Nat.le_refl _) _⟩
  · by_cases h2 : e < -10000
    · have q : chkB l e = 2 := by unfold chkB; rw [if_pos (by omega)]
      rw [q]; clear q
      go_enter Tryz.func120, Tryz.ntmps120
      go_wp2
      go_ret
      exact ⟨rfl, (Below.refl _ _).alloc (Nat.le_refl _) _⟩
    · by_cases h3 : 10000 < e
      · have q : chkB l e = 2 := by unfold chkB; rw [if_pos (by omega)]
        rw [q]; clear q
        go_enter Tryz.func120, Tryz.ntmps120
        go_wp2
        go_ret
        exact ⟨rfl, (Below.refl _ _).alloc (Nat.le_refl _) _⟩
      · have q : chkB l e = 0 := by unfold chkB; rw [if_neg (by omega)]
        rw [q]; clear q
        go_enter Tryz.func120, Tryz.ntmps120
        go_wp2
        go_ret
        exact ⟨rfl, (Below.refl _ _).alloc (Nat.le_refl _) _⟩

set_option maxHeartbeats 4000000 in
theorem check_any (v : Value) (neg : Bool) (l : List Nat) (e : Int) (w : World) (h : SV w v neg l e) :
    Calls Tryz.prog 117 #[v] w fun r w' => r = .returned (.int .i64 (chkE neg l e)) ∧ Below w.heap.size w w' := by
  have h' := h
  obtain ⟨s, rfl, hl, ao, cap, rfl, hcap, hm, hc⟩ := h
  unfold maxLen at hm
  have HS := Lib.hid h'
  clear h'
  have hbn := fun o => bounds_any _ neg l e (w.alloc o) (HS.out.below ((Below.refl _ _).alloc (Nat.le_refl _) o))
  by_cases hB : 400 < l.length ∨ e < -10000 ∨ 10000 < e
  · have q : chkE neg l e = 2 := by unfold chkE; rw [if_pos hB]
    have q2 : chkB l e = 2 := by unfold chkB; rw [if_pos hB]
    simp only [q2] at hbn
    have HBN := Lib.hid hbn
    rw [q]; clear q q2 hB hc hbn
    go_enter Tryz.func117, Tryz.ntmps117
    go_wp2_with fail
    refine (HBN.out _).mono ?_
    rintro r w1 ⟨rfl, hb⟩
    have HB := Lib.hid hb
    obtain ⟨q0, q1, q2, f0, f1, f2⟩ := cells3 hb
    clear hb
    go_wp2
    go_ret
    exact ⟨rfl, ((Below.refl _ _).alloc (Nat.le_refl _) _).trans (HB.out.mono (by simp))⟩
  · have q2 : chkB l e = 0 := by unfold chkB; rw [if_neg hB]
    have q : chkE neg l e = if l.length = 0 then (if e ≠ 0 ∨ neg = true then 3 else 0) else if l.getD (l.length - 1) 0 = 0 ∨ l.getD 0 0 % 2 = 0 then 3 else 0 := by unfold chkE; rw [if_neg hB]
    simp only [q2] at hbn
    have HBN := Lib.hid hbn
    clear hbn q2 hB
    have hcases : (l.length ≤ 0 ∧ ((l.length : Int) == 0) = true ∧ ((e ≠ 0 ∧ (e == 0) = false ∧ chkE neg l e = 3) ∨ (e = 0 ∧ neg = true ∧ chkE neg l e = 3) ∨ (e = 0 ∧ neg = false ∧ chkE neg l e = 0))) ∨
       (1 ≤ l.length ∧ ((l.length : Int) == 0) = false ∧ ∃ (b off : Nat) (x y : Int), ao = some ⟨b, off, none⟩ ∧ b < w.heap.size ∧ w.cell? ⟨b, off + (l.length - 1), none⟩ = some (.int .u32 x) ∧ w.cell? ⟨b, off, none⟩ = some (.int .u32 y) ∧ 0 ≤ y ∧ y < 4294967296 ∧ 0 ≤ x ∧ x < 4294967296 ∧
        ((x = 0 ∧ chkE neg l e = 3) ∨ (x ≠ 0 ∧ (x == 0) = false ∧ y % 2 = 0 ∧ chkE neg l e = 3) ∨ (x ≠ 0 ∧ (x == 0) = false ∧ y % 2 = 1 ∧ chkE neg l e = 0))) := by
      by_cases h0 : l.length = 0
      · left; refine ⟨by omega, by rw [beq_iff_eq]; omega, ?_⟩
        rw [if_pos h0] at q
        by_cases he : e = 0
        · right
          cases neg
          · right; rw [if_neg (by simp [he])] at q; exact ⟨he, rfl, q⟩
          · left; rw [if_pos (by simp)] at q; exact ⟨he, rfl, q⟩
        · left; rw [if_pos (Or.inl he)] at q; exact ⟨he, by simpa using he, q⟩
      · right; refine ⟨by omega, by rw [beq_eq_false_iff_ne]; omega, ?_⟩
        rw [if_neg h0] at q
        rcases hc with hc | ⟨b, off, rfl, hb, hcell⟩
        · omega
        · refine ⟨b, off, ((l.getD (l.length - 1) 0 : Nat) : Int), ((l.getD 0 0 : Nat) : Int), rfl, hb, hcell _ (by omega), hcell 0 (by omega), by omega, by have := hl.getD 0; simp only [List.getD]; omega, by omega, by have := hl.getD (l.length - 1); simp only [List.getD]; omega, ?_⟩
          by_cases hx : l.getD (l.length - 1) 0 = 0
          · left; rw [if_pos (Or.inl hx)] at q; exact ⟨by omega, q⟩
          · right
            by_cases hy : l.getD 0 0 % 2 = 0
            · left; rw [if_pos (Or.inr hy)] at q; exact ⟨by omega, by rw [beq_eq_false_iff_ne]; omega, by omega, q⟩
            · right; rw [if_neg (by omega)] at q; exact ⟨by omega, by rw [beq_eq_false_iff_ne]; omega, by omega, q⟩
    clear hc q
    generalize chkE neg l e = E at *
    rcases hcases with ⟨h0, h0b, ⟨he, he2, rfl⟩ | ⟨he, rfl, rfl⟩ | ⟨he, rfl, rfl⟩⟩ | ⟨h0, h0b, b, off, x, y, rfl, hbl, cx, cy, hy0, hy, hxx, hx, ⟨rfl, rfl⟩ | ⟨hx0, hx2, hy2, rfl⟩ | ⟨hx0, hx2, hy2, rfl⟩⟩
    all_goals
      try subst he
      go_enter Tryz.func117, Tryz.ntmps117
      go_wp2_with fail
      refine (HBN.out _).mono ?_
      rintro r w1 ⟨rfl, hb⟩
      have HB := Lib.hid hb
      obtain ⟨q0, q1, q2, f0, f1, f2⟩ := cells3 hb
      clear hb
      try have cx := ((HB.out.cell (p := ⟨b, off + (l.length - 1), none⟩) (show b < _ by simp; omega)).trans (((Below.refl w.heap.size w).alloc (Nat.le_refl _) _).cell (p := ⟨b, off + (l.length - 1), none⟩) hbl)).trans cx
      try have cy := ((HB.out.cell (p := ⟨b, off, none⟩) (show b < _ by simp; omega)).trans (((Below.refl w.heap.size w).alloc (Nat.le_refl _) _).cell (p := ⟨b, off, none⟩) hbl)).trans cy
      go_wp2
      go_ret
      exact ⟨rfl, ((Below.refl _ _).alloc (Nat.le_refl _) _).trans (HB.out.mono (by simp))⟩

end Go.Proofs.YthkcbjhjhkpclaaGreatDoor

/-
  THE WALKS of round.To, round.Beside.
-/
namespace Go.Proofs.YthkcbjhjhkpclaaGreatDoor
open Go.RowKit Nt Fm

def roE (c mode : Int) : Int := if c = 0 then (if mode < 0 ∨ 4 < mode then 1 else 0) else c
def roV (c mode : Int) (d : D) : Int := if roE c mode = 0 then numR d mode else 0
def roC (c mode : Int) (d : D) : Bool := if roE c mode = 0 then numC d else false

theorem nf_e {d : D} (h : d.Nf) (hz : d.m = 0) : d.e ≤ 1000 := by
  rcases h with rfl | h
  · show (0 : Int) ≤ 1000; decide
  · omega

set_option maxHeartbeats 4000000 in
theorem to_any (v : Value) (neg : Bool) (l : List Nat) (e mode : Int) (w : World) (h : SV w v neg l e) (m0 : -9223372036854775808 ≤ mode) (m1 : mode ≤ 9223372036854775807) :
    Calls Tryz.prog 64 #[v, .int .i64 mode] w fun r w' => r = .returned (.tuple #[.int .u64 (roV (chkE neg l e) mode ⟨neg, val l, e⟩), .bool (roC (chkE neg l e) mode ⟨neg, val l, e⟩), .int .i64 (roE (chkE neg l e) mode)]) ∧ Below w.heap.size w w' := by
  have h' := h
  obtain ⟨s, rfl, hl⟩ := h
  obtain ⟨hlims, ao, cap, rfl, hcap, hm, hc⟩ := hl
  unfold maxLen at hm
  clear hc
  have hck := fun o => check_any _ neg l e (w.alloc o) (h'.below ((Below.refl _ _).alloc (Nat.le_refl _) o))
  by_cases hz : chkE neg l e = 0
  · have hform := chkE_form hlims hz
    by_cases hmode : mode < 0 ∨ 4 < mode
    · have q : roE (chkE neg l e) mode = 1 := by unfold roE; rw [if_pos hz, if_pos hmode]
      have q1 : roV (chkE neg l e) mode ⟨neg, val l, e⟩ = 0 := by unfold roV; rw [q]; rfl
      have q2 : roC (chkE neg l e) mode ⟨neg, val l, e⟩ = false := by unfold roC; rw [q]; rfl
      rw [q, q1, q2]
      rw [hz] at hck
      have HCK := Lib.hid hck
      clear q q1 q2 hck hform h' hz
      have hkn : knownB mode = false := by
        unfold knownB; rcases hmode with h | h
        · simp; omega
        · simp; omega
      go_enter Tryz.func64, Tryz.ntmps64
      go_wp2_with fail
      refine (HCK.out _).mono ?_
      rintro r w1 ⟨rfl, hb⟩
      have HB := Lib.hid hb
      obtain ⟨p0, p1, p2, f0, f1, f2⟩ := cells3 hb
      clear hb
      go_wp2_with (go_at_call 46; refine (known_any _ _).mono ?_; rintro e w' ⟨rfl, rfl⟩)
      go_ret3
      exact ⟨rfl, ((Below.refl _ _).alloc (Nat.le_refl _) _).trans (HB.out.mono (by simp))⟩
    · have q : roE (chkE neg l e) mode = 0 := by unfold roE; rw [if_pos hz, if_neg hmode]
      have q1 : roV (chkE neg l e) mode ⟨neg, val l, e⟩ = numR ⟨neg, val l, e⟩ mode := by unfold roV; rw [q]; rfl
      have q2 : roC (chkE neg l e) mode ⟨neg, val l, e⟩ = numC ⟨neg, val l, e⟩ := by unfold roC; rw [q]; rfl
      rw [q, q1, q2]
      have hdv := h'.dv hz
      rw [hz] at hck
      obtain ⟨g1, g2, g3, g4, g5, g6, g7⟩ := hform
      have hnum := fun w1 hd => number_any (.agg #[.bool neg, .slice ao l.length cap, .int .i64 e]) ⟨neg, val l, e⟩ 12800 mode w1 hd g6 (by decide) (by simp only; omega) (by simp only; omega) (fun hz2 => nf_e g5 hz2) (by omega) (by omega)
      generalize numR ⟨neg, val l, e⟩ mode = R at *
      generalize numC ⟨neg, val l, e⟩ = C at *
      have HCK := Lib.hid hck
      have HNUM := Lib.hid hnum
      have HDV := Lib.hid hdv
      clear q q1 q2 hck h' hz hdv hnum g1 g2 g3 g4 g5 g6 g7
      have hkn : knownB mode = true := by unfold knownB; simp; omega
      go_enter Tryz.func64, Tryz.ntmps64
      go_wp2_with fail
      refine (HCK.out _).mono ?_
      rintro r w1 ⟨rfl, hb⟩
      have hbw : Below w.heap.size w w1 := ((Below.refl _ _).alloc (Nat.le_refl _) _).trans (hb.mono (by simp))
      have HB := Lib.hid hbw
      obtain ⟨p0, p1, p2, f0, f1, f2⟩ := cells3 hb
      clear hb hbw
      go_wp2_with (go_at_call 46; refine (known_any _ _).mono ?_; rintro e w' ⟨rfl, rfl⟩)
      refine (HNUM.out _ (HDV.out.below HB.out)).mono ?_
      rintro r w2 ⟨rfl, hb⟩
      have HB2 := Lib.hid hb
      clear hb
      go_wp2
      go_ret3
      exact ⟨rfl, HB.out.trans (HB2.out.mono HB.out.size)⟩
  · have q : roE (chkE neg l e) mode = chkE neg l e := by unfold roE; rw [if_neg hz]
    have q1 : roV (chkE neg l e) mode ⟨neg, val l, e⟩ = 0 := by unfold roV; rw [q, if_neg hz]
    have q2 : roC (chkE neg l e) mode ⟨neg, val l, e⟩ = false := by unfold roC; rw [q, if_neg hz]
    rw [q, q1, q2]
    generalize chkE neg l e = E at *
    have hz2 : (E != 0) = true := by rw [bne_iff_ne]; exact hz
    have HCK := Lib.hid hck
    clear q q1 q2 hck h'
    go_enter Tryz.func64, Tryz.ntmps64
    go_wp2_with fail
    refine (HCK.out _).mono ?_
    rintro r w1 ⟨rfl, hb⟩
    have HB := Lib.hid hb
    obtain ⟨p0, p1, p2, f0, f1, f2⟩ := cells3 hb
    clear hb
    go_wp2
    go_ret3
    exact ⟨rfl, ((Below.refl _ _).alloc (Nat.le_refl _) _).trans (HB.out.mono (by simp))⟩
end Go.Proofs.YthkcbjhjhkpclaaGreatDoor
