/-
  THE WALK of nat.Sqrt.
-/
import Derived.Test.YtgbkaamgobnhbaaDoorOv
import Derived.Test.YtgbkaamgobnhbaaDoorNw
import Derived.Test.YtgbkaamgobnhbaaDoorNa
set_option linter.unusedVariables false
set_option linter.unusedSimpArgs false
namespace Go.Proofs.YtgbkaamgobnhbaaDoor
open Go.RowKit Nt Fm

theorem eps_nv {w : World} {v : Value} {n : Nat} (h : NV w v n) : (Classical.epsilon fun k => NV w v k) = n :=
  NV.inj (Classical.epsilon_spec (p := fun k => NV w v k) ⟨n, h⟩) h
theorem nv_one (w : World) (T : TypeId) : NV (w.alloc (.cells #[.int .u32 1] T)) (.slice (some ⟨w.heap.size, 0, none⟩) 1 1) 1 := by
  refine ⟨[1], ⟨Lims.cons (by decide) Lims.nil, by decide⟩, rfl, Lims.cons (by decide) Lims.nil, some ⟨w.heap.size, 0, none⟩, 1, rfl, by simp, by unfold maxLen; omega, Or.inr ⟨w.heap.size, 0, rfl, by simp, ?_⟩⟩
  intro i hi
  match i, hi with
  | 0, _ => simp [go_sem]
theorem blen_le {a k : Nat} (h : a < 2 ^ k) : blen a ≤ k := by
  unfold blen; split
  · omega
  · rename_i h0
    have := (Nat.log2_lt h0).2 h
    omega
theorem isq_blen (a : Nat) : isq a ≤ 2 ^ ((blen a + 1) / 2) := by
  have h : a < 2 ^ blen a := by
    unfold blen; split
    · omega
    · exact Nat.lt_log2_self
  exact Nat.le_of_lt (isq_pow h)
set_option maxRecDepth 100000 in
set_option maxHeartbeats 8000000 in
theorem nsqrt_any (va : Value) (a k0 : Nat) (w : World) (ha : NV w va a) (hka : a < 2 ^ k0) (hk0 : k0 ≤ 900000) :
    Calls Tryd.prog 36 #[va] w (RetNV w (isq a)) := by
  obtain ⟨l, hl, el, ⟨-, aa, ca, hva, hca, hma, hA⟩, hll⟩ := ha.len hka
  obtain ⟨n, hn⟩ : ∃ n, n = l.length := ⟨_, rfl⟩
  rw [← hn] at hva
  subst hva
  have HA := Lib.hid ha
  by_cases h0 : n ≤ 0
  · have ha0 : a = 0 := by rw [← el, List.length_eq_zero_iff.1 (by omega : l.length = 0)]; rfl
    subst ha0
    obtain rfl : n = 0 := by omega
    clear hA hca hma hl el hll hn ha
    go_enter Tryd.func36, Tryd.ntmps36
    go_wp2
    go_ret
    exact ⟨_, rfl, NV.nil _, Below.refl _ _⟩
  · have ha0 : a ≠ 0 := by
      intro h; rw [← el] at h
      have := val_eq_zero hl h
      subst this; simp at hn; omega
    have hn1 : 1 ≤ n := by omega
    have LEN := Lib.hid (fun w' h => natLen_any (.slice aa n ca) a k0 w' h hka (by omega))
    have hbl := blen_le hka
    obtain ⟨sh, hsh⟩ : ∃ sh, sh = (blen a + 1) / 2 := ⟨_, rfl⟩
    have hsh1 : sh ≤ k0 + 1 := by omega
    have esh : ((blen a : Int) + 1) / 2 = (sh : Int) := by omega
    have X0 : Hid (isq a ≤ 2 ^ sh ∧ 0 < 2 ^ sh ∧ 2 ^ sh < 2 ^ (k0 + 2)) := Lib.hid ⟨by rw [hsh]; exact isq_blen a, Nat.two_pow_pos _, Nat.pow_lt_pow_right (by decide) (by omega)⟩
    have OV := Lib.hid (fun xv x w' (h : NV w' (.slice aa n ca) a) (hx : NV w' xv x) (hx0 : 0 < x) => over_any (.slice aa n ca) xv a x k0 w' h hx hx0 hka (by omega))
    have LE1 := Lib.hid (fun w' v (h : NV w' v 1) => left_any v 1 sh 1 (sh : Int) w' h rfl (by decide) (by decide) (by omega))
    have HAQ : Hid (∀ x, 0 < x → a / x < 2 ^ (k0 + 2) ∧ True) := Lib.hid (fun x hx => ⟨Nat.lt_of_le_of_lt (Nat.div_le_self _ _) (Nat.lt_trans hka (Nat.pow_lt_pow_right (by decide) (by omega))), trivial⟩)
    have NE := Lib.hid (fun x (h1 : isq a ≤ x) (h2 : 0 < x) h3 => newton_end (a := a) h1 h2 h3)
    have NL := Lib.hid (fun x (h : 0 < x) => And.intro (newton_low (a := a) h) (newton_pos (a := a) ha0 h))
    clear ha hA hca hma hl el hll hn hka hbl hsh ha0 h0
    go_enter Tryd.func36, Tryd.ntmps36
    go_wp2_with fail
    refine (LEN.out _ (HA.out.alloc _)).mono ?_
    rintro e w1 ⟨rfl, rfl⟩
    go_wp2_with fail
    rw [show 2 ^ sh = 1 * 2 ^ sh by omega] at X0
    refine (LE1.out _ _ (nv_one _ _)).mono ?_
    rintro e w2 ⟨v2, rfl, h2, hb2⟩
    have H2 := Lib.hid h2
    have B2 := Lib.hid (bl_thru ((Below.refl w.heap.size w).alloc (Nat.le_refl _) _) (Nat.le_refl _) hb2)
    clear h2 hb2
    go_wp2_with fail
    go_loopw [3] (fun xv wr => ∃ x, Hid (NV wr xv x) ∧ Hid (isq a ≤ x ∧ 0 < x ∧ x < 2 ^ (k0 + 2)) ∧ Hid (Below w.heap.size w wr)) (fun xv wr => Classical.epsilon fun k => NV wr xv k)
    case atStart => exact ⟨_, H2, X0, B2⟩
    case round =>
      obtain ⟨x, HX, XF, BX⟩ := hrel
      clear H2 X0 B2
      go_wp2_with fail
      refine (OV.out u3 x wr (HA.out.below BX.out) HX.out XF.out.2.1).mono ?_
      rintro e w3 ⟨vq, vr, rfl, hq, hr, hb⟩
      have Q := Lib.hid hq
      have HX3 := Lib.hid (HX.out.below hb)
      have B3 := Lib.hid (bl_thru BX.out (Nat.le_refl _) hb)
      clear hq hr hb
      go_wp2_with fail
      refine (plus_any _ _ x (a / x) (k0 + 2) _ HX3.out Q.out XF.out.2.2 (HAQ.out x XF.out.2.1).1 (by omega)).mono ?_
      rintro e w4 ⟨v4, rfl, h4, hb⟩
      have H4 := Lib.hid h4
      have HX4 := Lib.hid (HX3.out.below hb)
      have B4 := Lib.hid (bl_thru B3.out (Nat.le_refl _) hb)
      clear h4 hb
      have hsum : Hid (x + a / x < 2 ^ (k0 + 3) ∧ True) := Lib.hid ⟨by
        have h1 := XF.out.2.2; have h2 := (HAQ.out x XF.out.2.1).1
        rw [show k0 + 3 = (k0 + 2) + 1 by omega, Nat.pow_succ]; omega, trivial⟩
      go_wp2_with fail
      refine (right_any _ (x + a / x) 1 (k0 + 3) 1 _ H4.out rfl hsum.out.1 (by omega) (by decide)).mono ?_
      rintro e w5 ⟨v5, rfl, h5, hb⟩
      rw [Nat.pow_one] at h5
      obtain ⟨y, hy⟩ : ∃ y, y = (x + a / x) / 2 := ⟨_, rfl⟩
      rw [← hy] at h5
      have FA : Hid (isq a ≤ y ∧ 0 < y ∧ (x ≤ y → x = isq a)) := Lib.hid (by rw [hy]; exact ⟨(NL.out x XF.out.2.1).1, (NL.out x XF.out.2.1).2, fun h => NE.out x XF.out.1 XF.out.2.1 h⟩)
      have H5 := Lib.hid h5
      have HX5 := Lib.hid (HX4.out.below hb)
      have B5 := Lib.hid (bl_thru B4.out (Nat.le_refl _) hb)
      clear h5 hb hy
      have CM := Lib.hid (compare_any _ _ y x _ H5.out HX5.out)
      have hsg : (x ≤ y ∧ 0 ≤ sgn2 (y : Int) (x : Int)) ∨ (y < x ∧ sgn2 (y : Int) (x : Int) < 0) := by
        unfold sgn2
        rcases Nat.lt_or_ge y x with h | h
        · right; rw [if_pos (by omega)]; exact ⟨h, by decide⟩
        · left; rw [if_neg (by omega)]; refine ⟨h, ?_⟩; split <;> decide
      generalize sgn2 (y : Int) (x : Int) = sg at *
      go_wp2_with fail
      refine CM.out.mono ?_
      clear CM
      rintro e w6 ⟨rfl, n6, rfl⟩
      rcases hsg with ⟨hyx, hsg⟩ | ⟨hyx, hsg⟩
      · have EX : Hid (x = isq a ∧ True) := Lib.hid ⟨FA.out.2.2 hyx, trivial⟩
        clear hyx
        go_wp2
        go_ret
        exact ⟨_, rfl, by rw [← EX.out.1]; exact HX5.out.drewN _, below_to_drewN B5.out⟩
      · have hlt : Hid (y < x ∧ True) := Lib.hid ⟨hyx, trivial⟩
        clear hyx
        go_wp2
        go_roundw
        case rel => exact ⟨y, Lib.hid (H5.out.drewN _), Lib.hid ⟨FA.out.1, FA.out.2.1, Nat.lt_trans hlt.out.1 XF.out.2.2⟩, Lib.hid (below_to_drewN B5.out)⟩
        case measure =>
          rw [eps_nv (H5.out.drewN _), eps_nv HX.out]
          exact hlt.out.1
end Go.Proofs.YtgbkaamgobnhbaaDoor
