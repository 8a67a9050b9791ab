/-
  THE WALKS of round.To, round.Beside.
-/
import Derived.Test.YtdknfdncgmeimaaDoorCk
set_option linter.unusedVariables false
set_option linter.unusedSimpArgs false
namespace Go.Proofs.YtdknfdncgmeimaaDoor
open Go.RowKit Nt Fm

def roE (c mode : Int) : Int := if c = 0 then (if mode < 0 ∨ 4 < mode then 1 else 0) else c
def roV (c mode : Int) (d : D) : Int := if roE c mode = 0 then numR d mode else 0
def roC (c mode : Int) (d : D) : Bool := if roE c mode = 0 then numC d else false

theorem nf_e {d : D} (h : d.Nf) (hz : d.m = 0) : d.e ≤ 1000 := by
  rcases h with rfl | h
  · show (0 : Int) ≤ 1000; decide
  · omega

set_option maxHeartbeats 4000000 in
theorem to_any (v : Value) (neg : Bool) (l : List Nat) (e mode : Int) (w : World) (h : SV w v neg l e) (m0 : -9223372036854775808 ≤ mode) (m1 : mode ≤ 9223372036854775807) :
    Calls Tryd.prog 27 #[v, .int .i64 mode] w fun r w' => r = .returned (.tuple #[.int .u64 (roV (chkE neg l e) mode ⟨neg, val l, e⟩), .bool (roC (chkE neg l e) mode ⟨neg, val l, e⟩), .int .i64 (roE (chkE neg l e) mode)]) ∧ Below w.heap.size w w' := by
  have h' := h
  obtain ⟨s, rfl, hl⟩ := h
  obtain ⟨hlims, ao, cap, rfl, hcap, hm, hc⟩ := hl
  unfold maxLen at hm
  clear hc
  have hck := fun o => check_any _ neg l e (w.alloc o) (h'.below ((Below.refl _ _).alloc (Nat.le_refl _) o))
  by_cases hz : chkE neg l e = 0
  · have hform := chkE_form hlims hz
    by_cases hmode : mode < 0 ∨ 4 < mode
    · have q : roE (chkE neg l e) mode = 1 := by unfold roE; rw [if_pos hz, if_pos hmode]
      have q1 : roV (chkE neg l e) mode ⟨neg, val l, e⟩ = 0 := by unfold roV; rw [q]; rfl
      have q2 : roC (chkE neg l e) mode ⟨neg, val l, e⟩ = false := by unfold roC; rw [q]; rfl
      rw [q, q1, q2]
      rw [hz] at hck
      have HCK := Lib.hid hck
      clear q q1 q2 hck hform h' hz
      have hkn : knownB mode = false := by
        unfold knownB; rcases hmode with h | h
        · simp; omega
        · simp; omega
      go_enter Tryd.func27, Tryd.ntmps27
      go_wp2_with fail
      refine (HCK.out _).mono ?_
      rintro r w1 ⟨rfl, hb⟩
      have HB := Lib.hid hb
      obtain ⟨p0, p1, p2, f0, f1, f2⟩ := cells3 hb
      clear hb
      go_wp2_with (go_at_call 64; refine (known_any _ _).mono ?_; rintro e w' ⟨rfl, rfl⟩)
      go_ret3
      exact ⟨rfl, ((Below.refl _ _).alloc (Nat.le_refl _) _).trans (HB.out.mono (by simp))⟩
    · have q : roE (chkE neg l e) mode = 0 := by unfold roE; rw [if_pos hz, if_neg hmode]
      have q1 : roV (chkE neg l e) mode ⟨neg, val l, e⟩ = numR ⟨neg, val l, e⟩ mode := by unfold roV; rw [q]; rfl
      have q2 : roC (chkE neg l e) mode ⟨neg, val l, e⟩ = numC ⟨neg, val l, e⟩ := by unfold roC; rw [q]; rfl
      rw [q, q1, q2]
      have hdv := h'.dv hz
      rw [hz] at hck
      obtain ⟨g1, g2, g3, g4, g5, g6, g7⟩ := hform
      have hnum := fun w1 hd => number_any (.agg #[.bool neg, .slice ao l.length cap, .int .i64 e]) ⟨neg, val l, e⟩ 12800 mode w1 hd g6 (by decide) (by simp only; omega) (by simp only; omega) (fun hz2 => nf_e g5 hz2) (by omega) (by omega)
      generalize numR ⟨neg, val l, e⟩ mode = R at *
      generalize numC ⟨neg, val l, e⟩ = C at *
      have HCK := Lib.hid hck
      have HNUM := Lib.hid hnum
      have HDV := Lib.hid hdv
      clear q q1 q2 hck h' hz hdv hnum g1 g2 g3 g4 g5 g6 g7
      have hkn : knownB mode = true := by unfold knownB; simp; omega
      go_enter Tryd.func27, Tryd.ntmps27
      go_wp2_with fail
      refine (HCK.out _).mono ?_
      rintro r w1 ⟨rfl, hb⟩
      have hbw : Below w.heap.size w w1 := ((Below.refl _ _).alloc (Nat.le_refl _) _).trans (hb.mono (by simp))
      have HB := Lib.hid hbw
      obtain ⟨p0, p1, p2, f0, f1, f2⟩ := cells3 hb
      clear hb hbw
      go_wp2_with (go_at_call 64; refine (known_any _ _).mono ?_; rintro e w' ⟨rfl, rfl⟩)
      refine (HNUM.out _ (HDV.out.below HB.out)).mono ?_
      rintro r w2 ⟨rfl, hb⟩
      have HB2 := Lib.hid hb
      clear hb
      go_wp2
      go_ret3
      exact ⟨rfl, HB.out.trans (HB2.out.mono HB.out.size)⟩
  · have q : roE (chkE neg l e) mode = chkE neg l e := by unfold roE; rw [if_neg hz]
    have q1 : roV (chkE neg l e) mode ⟨neg, val l, e⟩ = 0 := by unfold roV; rw [q, if_neg hz]
    have q2 : roC (chkE neg l e) mode ⟨neg, val l, e⟩ = false := by unfold roC; rw [q, if_neg hz]
    rw [q, q1, q2]
    generalize chkE neg l e = E at *
    have hz2 : (E != 0) = true := by rw [bne_iff_ne]; exact hz
    have HCK := Lib.hid hck
    clear q q1 q2 hck h'
    go_enter Tryd.func27, Tryd.ntmps27
    go_wp2_with fail
    refine (HCK.out _).mono ?_
    rintro r w1 ⟨rfl, hb⟩
    have HB := Lib.hid hb
    obtain ⟨p0, p1, p2, f0, f1, f2⟩ := cells3 hb
    clear hb
    go_wp2
    go_ret3
    exact ⟨rfl, ((Below.refl _ _).alloc (Nat.le_refl _) _).trans (HB.out.mono (by simp))⟩
end Go.Proofs.YtdknfdncgmeimaaDoor
