/-
  THE WALK of round.Part, with nothing, or a part, more.
-/
import Derived.Test.YtdknfdncgmeimaaBes
import Derived.Test.YtdknfdncgmeimaaPar
import Derived.Deep.RegionWith
set_option linter.unusedVariables false
set_option linter.unusedSimpArgs false
namespace Go.Proofs.Ytdknfdncgmeimaa
open Go.RowKit Nt Fm

/-- the error of Part with a part that is in order -/
def paE (c : Int) (n : Nat) (mode : Int) : Int := if c = 0 then (if mode < 0 ∨ 4 < mode then 1 else if 390 < n then 2 else 0) else c

theorem bes_bd (d : D) (side : Int) (h : d.Nf) (hm : d.m < 2 ^ 12800) (e0 : -10000 ≤ d.e) (e1 : d.e ≤ 10000) :
    ∃ k1, k1 ≤ 400000 ∧ (besD d side).m < 2 ^ k1 ∧ -400000 ≤ (besD d side).e ∧ (besD d side).e ≤ 400000 ∧ ((besD d side).m = 0 → (besD d side).e ≤ 1000) := by
  unfold besD
  split
  · exact ⟨12800, by decide, hm, by omega, by omega, nf_e h⟩
  · split
    · exact ⟨1, by omega, by simp, by simp, by simp, fun h => by simp at h⟩
    · rename_i hz
      obtain ⟨k, hk⟩ : ∃ k : Nat, k = 12800 := ⟨_, rfl⟩
      rw [← hk] at hm
      refine ⟨k + 65, by omega, ?_, by simp only; omega, by simp only; omega, ?_⟩
      · simp only
        have : besM d.neg d.m side ≤ d.m * 2 ^ 64 + 1 := by unfold besM; split <;> omega
        rw [Nat.pow_add]
        generalize 2 ^ k = Y at *
        omega
      · simp only
        have : 1 ≤ besM d.neg d.m side := by unfold besM; split <;> omega
        omega

set_option maxHeartbeats 4000000 in
theorem part_any (v : Value) (neg : Bool) (l : List Nat) (e : Int) (vm : Value) (nm : Bool) (lm : List Nat) (mode : Int) (w : World) (h : SV w v neg l e) (hm : SV w vm nm lm 0) (hl : lm = [] ∧ nm = false ∨ lm = [1]) (m0 : -9223372036854775808 ≤ mode) (m1 : mode ≤ 9223372036854775807) (side : Int) (hs : side = sign ⟨nm, val lm, 0⟩) (x : Int) (c : Bool)
    (hx : x = if paE (chkE neg l e) l.length mode = 0 then numR (besD ⟨neg, val l, e⟩ side) mode else 0) (hcc : c = if paE (chkE neg l e) l.length mode = 0 then numC (besD ⟨neg, val l, e⟩ side) else false) :
    Calls Try.prog 11 #[v, vm, .int .i64 mode] w fun r w' => r = .returned (.tuple #[.int .u64 x, .bool c, .int .i64 (paE (chkE neg l e) l.length mode)]) ∧ Below w.heap.size w w' := by
  have h' := h
  have hm' := hm
  obtain ⟨s, rfl, hlims, ao, cap, rfl, hcap, hmx, hcell⟩ := h
  obtain ⟨sm, rfl, hlimsm, am, cm, rfl, hcapm, hmm, hcellm⟩ := hm
  unfold maxLen at hmx hmm
  clear hcell
  have hckm : chkE nm lm 0 = 0 := by
    rcases hl with ⟨rfl, rfl⟩ | rfl
    · decide
    · cases nm <;> decide
  have hdm : DV w (.agg #[.bool nm, .slice am lm.length cm, .int .i64 0]) ⟨nm, val lm, 0⟩ := hm'.dv hckm
  have hck := fun w1 h1 => check_any (.agg #[.bool neg, .slice ao l.length cap, .int .i64 e]) neg l e w1 h1
  have hck2 := fun w1 h1 => check_any (.agg #[.bool nm, .slice am lm.length cm, .int .i64 0]) nm lm 0 w1 h1
  rw [hckm] at hck2
  have H := Lib.hid h'
  have HMM := Lib.hid hm'
  have HDM := Lib.hid hdm
  have HCK2 := Lib.hid hck2
  by_cases hz : chkE neg l e = 0
  · have hdd : DV w (.agg #[.bool neg, .slice ao l.length cap, .int .i64 e]) ⟨neg, val l, e⟩ := h'.dv hz
    have hform := chkE_form hlims hz
    rw [hz] at hck
    have HDD := Lib.hid hdd
    have HCK := Lib.hid hck
    have hlim : (lm.length = 0) ∨ (lm.length = 1 ∧ ∃ b off, am = some ⟨b, off, none⟩ ∧ b < w.heap.size ∧ w.cell? ⟨b, off, none⟩ = some (.int .u32 1)) := by
      rcases hl with ⟨rfl, -⟩ | rfl
      · exact Or.inl rfl
      · right; refine ⟨rfl, ?_⟩
        rcases hcellm with h | ⟨b, off, h1, h2, h3⟩
        · simp at h
        · exact ⟨b, off, h1, h2, by have := h3 0 (by simp); simpa using this⟩
    have HL := Lib.hid hl
    generalize hnn : lm.length = nn at *
    clear hl hnn
    by_cases hmode : 0 ≤ mode ∧ mode ≤ 4
    · have hkn : knownB mode = true := by unfold knownB; simp; omega
      by_cases hlong : 390 < l.length
      · have q : paE (chkE neg l e) l.length mode = 2 := by unfold paE; rw [if_pos hz, if_neg (by omega), if_pos hlong]
        rw [q, if_neg (by decide)] at hx hcc
        rw [q]
        subst hx hcc
        clear q hz hform hs hdd hck hck2 h' hm' hdm hcellm hckm hmode
        rcases hlim with rfl | ⟨rfl, b, off, rfl, hb0, hcb⟩
        all_goals
          go_enter Try.func11, Try.ntmps11
          go_wp2_with fail
          refine (HCK.out _ (H.out.below ((((Below.refl _ _).alloc (Nat.le_refl _) _).alloc (by simp) _)))).mono ?_
          rintro r w1 ⟨rfl, hb⟩
          have HB := Lib.hid (bl_thru (((Below.refl w.heap.size w).alloc (Nat.le_refl _) _).alloc (by simp) _) (Nat.le_refl _) hb)
          have BX := ((Box.new (w.alloc (.cells #[.bool neg, .slice ao l.length cap, .int .i64 e] 24)) _ _ _ _).below hb)
          have BD := (((Box.new w _ _ _ _).alloc (.cells _ 24)).below hb)
          rw [size_alloc] at BX
          have HX := Lib.hid BX
          have HD := Lib.hid BD
          obtain ⟨q0, q1, q2, f0, f1, f2⟩ := BX.cells
          clear hb BX BD
          go_wp2_with fail
          refine (HCK2.out _ (HMM.out.below HB.out)).mono ?_
          rintro r w2 ⟨rfl, hb⟩
          have HB2 := Lib.hid (bl_thru HB.out (Nat.le_refl _) hb)
          have HX2 := Lib.hid (HX.out.below hb)
          have HD2 := Lib.hid (HD.out.below hb)
          obtain ⟨q0, q1, q2, f0, f1, f2⟩ := HX2.out.cells
          obtain ⟨p0, p1, p2, g0, g1, g2⟩ := HD2.out.cells
          clear hb
          try have hcb := (HB2.out.cell (p := ⟨b, off, none⟩) hb0).trans hcb
          go_wp2_with (go_at_call 13; refine (known_any _ _).mono ?_; rintro e w' ⟨rfl, rfl⟩)
          go_ret3
          exact ⟨rfl, HB2.out⟩
      · have q : paE (chkE neg l e) l.length mode = 0 := by unfold paE; rw [if_pos hz, if_neg (by omega), if_neg hlong]
        rw [q, if_pos rfl] at hx hcc
        rw [q]
        obtain ⟨k1, b1, b2, b3, b4, b5⟩ := bes_bd ⟨neg, val l, e⟩ side hform.2.2.2.2.1 hform.2.2.2.2.2.1 hform.2.2.1 hform.2.2.2.1
        have hbes := fun w1 hd => beside_any (.agg #[.bool neg, .slice ao l.length cap, .int .i64 e]) ⟨neg, val l, e⟩ 12800 side w1 hd hform.2.2.2.2.2.1 (by decide) (by have := hform.2.2.1; simp only; omega) (by have := hform.2.2.2.1; simp only; omega)
        have hnum := fun v w1 hd => number_any v (besD ⟨neg, val l, e⟩ side) k1 mode w1 hd b2 b1 b3 b4 b5 hmode.1 hmode.2
        have hsgn := fun w1 hd => sign_any (.agg #[.bool nm, .slice am nn cm, .int .i64 0]) ⟨nm, val lm, 0⟩ w1 hd
        rw [← hs] at hsgn
        rw [← hx, ← hcc] at hnum
        generalize besD ⟨neg, val l, e⟩ side = bd at *
        have HBES := Lib.hid hbes
        have HNUM := Lib.hid hnum
        have HSGN := Lib.hid hsgn
        clear q hz hform hs hdd hck hck2 h' hm' hdm hcellm hckm hx hcc b1 b2 b3 b4 b5 hbes hnum hsgn
        rcases hlim with rfl | ⟨rfl, b, off, rfl, hb0, hcb⟩
        all_goals
          go_enter Try.func11, Try.ntmps11
          go_wp2_with fail
          refine (HCK.out _ (H.out.below ((((Below.refl _ _).alloc (Nat.le_refl _) _).alloc (by simp) _)))).mono ?_
          rintro r w1 ⟨rfl, hb⟩
          have HB := Lib.hid (bl_thru (((Below.refl w.heap.size w).alloc (Nat.le_refl _) _).alloc (by simp) _) (Nat.le_refl _) hb)
          have BX := ((Box.new (w.alloc (.cells #[.bool neg, .slice ao l.length cap, .int .i64 e] 24)) _ _ _ _).below hb)
          have BD := (((Box.new w _ _ _ _).alloc (.cells _ 24)).below hb)
          rw [size_alloc] at BX
          have HX := Lib.hid BX
          have HD := Lib.hid BD
          obtain ⟨q0, q1, q2, f0, f1, f2⟩ := BX.cells
          clear hb BX BD
          go_wp2_with fail
          refine (HCK2.out _ (HMM.out.below HB.out)).mono ?_
          rintro r w2 ⟨rfl, hb⟩
          have HB2 := Lib.hid (bl_thru HB.out (Nat.le_refl _) hb)
          have HX2 := Lib.hid (HX.out.below hb)
          have HD2 := Lib.hid (HD.out.below hb)
          obtain ⟨q0, q1, q2, f0, f1, f2⟩ := HX2.out.cells
          obtain ⟨p0, p1, p2, g0, g1, g2⟩ := HD2.out.cells
          clear hb
          try have hcb := (HB2.out.cell (p := ⟨b, off, none⟩) hb0).trans hcb
          go_wp2_with (go_at_call 13; refine (known_any _ _).mono ?_; rintro e w' ⟨rfl, rfl⟩)
          have HB2d : Hid (Below w.heap.size w w2.drew) := Lib.hid (HB2.out.drew)
          go_region_with (first
            | (go_at_call 18; refine (HSGN.out _ (HDM.out.below HB2d.out)).mono ?_; rintro r w3 ⟨rfl, hb⟩; have HB3 := Lib.hid (bl_thru HB2d.out (Nat.le_refl _) hb); have HD3 := Lib.hid (HD2.out.below (w := w2.drew) hb); obtain ⟨p0, p1, p2, g0, g1, g2⟩ := HD3.out.cells; clear hb)
            | (go_at_call 17; refine (HBES.out _ (HDD.out.below HB3.out)).mono ?_; rintro r w4 ⟨v4, rfl, hv, hb⟩; have HB4 := Lib.hid (bl_thru HB3.out (Nat.le_refl _) hb); have HV4 := Lib.hid hv; clear hv hb)
            | (go_at_call 14; refine (HNUM.out _ _ HV4.out).mono ?_; rintro r w5 ⟨rfl, hb⟩; have HB5 := Lib.hid (bl_thru HB4.out (Nat.le_refl _) hb); clear hb))
          all_goals
            go_wp2
            go_ret3
            exact ⟨rfl, HB5.out⟩
    · have q : paE (chkE neg l e) l.length mode = 1 := by unfold paE; rw [if_pos hz, if_pos (by omega)]
      rw [q, if_neg (by decide)] at hx hcc
      rw [q]
      subst hx hcc
      have hkn : knownB mode = false := by unfold knownB; simp; omega
      clear q hz hform hs hdd hck hck2 h' hm' hdm hcellm hckm hmode
      rcases hlim with rfl | ⟨rfl, b, off, rfl, hb0, hcb⟩
      all_goals
        go_enter Try.func11, Try.ntmps11
        go_wp2_with fail
        refine (HCK.out _ (H.out.below ((((Below.refl _ _).alloc (Nat.le_refl _) _).alloc (by simp) _)))).mono ?_
        rintro r w1 ⟨rfl, hb⟩
        have HB := Lib.hid (bl_thru (((Below.refl w.heap.size w).alloc (Nat.le_refl _) _).alloc (by simp) _) (Nat.le_refl _) hb)
        have BX := ((Box.new (w.alloc (.cells #[.bool neg, .slice ao l.length cap, .int .i64 e] 24)) _ _ _ _).below hb)
        rw [size_alloc] at BX
        have HX := Lib.hid BX
        obtain ⟨q0, q1, q2, f0, f1, f2⟩ := BX.cells
        clear hb BX
        go_wp2_with fail
        refine (HCK2.out _ (HMM.out.below HB.out)).mono ?_
        rintro r w2 ⟨rfl, hb⟩
        have HB2 := Lib.hid (bl_thru HB.out (Nat.le_refl _) hb)
        have HX2 := Lib.hid (HX.out.below hb)
        obtain ⟨q0, q1, q2, f0, f1, f2⟩ := HX2.out.cells
        clear hb
        try have hcb := (HB2.out.cell (p := ⟨b, off, none⟩) hb0).trans hcb
        go_wp2_with (go_at_call 13; refine (known_any _ _).mono ?_; rintro e w' ⟨rfl, rfl⟩)
        go_ret3
        exact ⟨rfl, HB2.out⟩
  · have q : paE (chkE neg l e) l.length mode = chkE neg l e := by unfold paE; rw [if_neg hz]
    rw [q, if_neg hz] at hx hcc
    rw [q]
    generalize chkE neg l e = E at *
    subst hx hcc
    have hE : (E != 0) = true := by rw [bne_iff_ne]; exact hz
    have HCK := Lib.hid hck
    clear hck hck2 h' hm' hdm hcellm q hs hl hz hckm
    go_enter Try.func11, Try.ntmps11
    go_wp2_with fail
    refine (HCK.out _ (H.out.below ((((Below.refl _ _).alloc (Nat.le_refl _) _).alloc (by simp) _)))).mono ?_
    rintro r w1 ⟨rfl, hb⟩
    have HB := Lib.hid (bl_thru (((Below.refl w.heap.size w).alloc (Nat.le_refl _) _).alloc (by simp) _) (Nat.le_refl _) hb)
    clear hb
    go_wp2
    go_ret3
    exact ⟨rfl, HB.out⟩
end Go.Proofs.Ytdknfdncgmeimaa
