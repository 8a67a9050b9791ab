/-
  THE WALK of the law ProdDots.
-/
import Derived.Test.YtapdjclhpcakeaaDoorDw
import Derived.Test.YtapdjclhpcakeaaDoorDp
import Derived.Test.YtapdjclhpcakeaaDoorUl
import Derived.Deep.RegionWith
import Derived.Deep.RegionHeld3
import Derived.Deep.AppendLies
import Derived.Deep.DrawnRows
set_option linter.unusedVariables false
set_option linter.unusedSimpArgs false
namespace Go.Proofs.YtapdjclhpcakeaaDoor
open Go.RowKit Nt Fm Fl

theorem rev_two {l : List Int} {j k : Nat} (h : k + 2 * j + 1 = l.length) (hk : 0 < k) : l.reverse.take (2 * j) ++ [l.getD k 0, l.getD (k - 1) 0] = l.reverse.take (2 * (j + 1)) := by
  have h1 : 2 * j < l.reverse.length := by rw [List.length_reverse]; omega
  have h2 : 2 * j + 1 < l.reverse.length := by rw [List.length_reverse]; omega
  rw [show 2 * (j + 1) = 2 * j + 1 + 1 from by omega, List.take_succ_eq_append_getElem h2, List.take_succ_eq_append_getElem h1]
  have k1 : k < l.length := by omega
  have e1 : l.reverse[2 * j] = l.getD k 0 := by
    rw [List.getElem_reverse]; simp [List.getD, k1]; congr 1; omega
  have e2 : l.reverse[2 * j + 1] = l.getD (k - 1) 0 := by
    rw [List.getElem_reverse]; simp [List.getD, show k - 1 < l.length by omega]; congr 1; omega
  rw [e1, e2, List.append_assoc]; rfl
/-- what the loop holds: the last pairs, each turned round -/
def Pairs (w : World) (base : Nat) (l : List Int) (j : Nat) (v : Value) (wr : World) : Prop :=
  wr.ownsRow base 23 1 v (2 * j) (lu (l.reverse.take (2 * j))) ∧ Below base w wr
set_option maxRecDepth 100000 in
set_option maxHeartbeats 8000000 in
theorem walkProdDots (v : Value) (l : List Int) (mode : Int) (mode0 : -9223372036854775808 ≤ mode) (mode1 : mode ≤ 9223372036854775807) (w : World) (hT : Tab w) (hv : LU w v l) (hr : l.length * 8 ≤ 140737488351232) :
    Calls Tryd.prog 3 #[v, .int .i64 mode] w fun e w' => e = .returned (.bool true) ∧ Below w.heap.size w w' := by
  have hu := hv.1
  have hur : ∀ d ∈ l.reverse, 0 ≤ d ∧ d ≤ 18446744073709551615 := fun d hd => hu d (List.mem_reverse.1 hd)
  have H1 := Lib.hid (fun v w' h0 h1 => dot_any v l mode w' h0 h1)
  have H2 := Lib.hid (fun v w' h0 h1 => by
    have := dot_any v l.reverse mode w' h0 h1
    rw [(dt_rev l mode).1, (dt_rev l mode).2.1, (dt_rev l mode).2.2] at this; exact this)
  obtain ⟨a0, a1⟩ := slVbd (l := l) mode hu
  have K : Hid ((dtE l mode ≠ 0 ∧ dtV l mode = 0) ∨ dtE l mode = 0) := Lib.hid (by
    by_cases h : dtE l mode = 0
    · exact Or.inr h
    · left; exact ⟨h, by unfold dtV; rw [if_neg h]⟩)
  have KT : Hid (∀ x y, l = [x, y] → dtE l mode = 0 → adE mode = 0 ∧ muC x y mode = dtC l mode ∧ (muV x y mode = dtV l mode ∨ (muV x y mode ≠ dtV l mode ∧ fcls (muV x y mode) = 1 ∧ fcls (dtV l mode) = 1))) := Lib.hid (by
    rintro x y rfl h
    obtain ⟨h1, h2, h3⟩ := dt_two h
    refine ⟨h1, h2, ?_⟩
    by_cases h4 : muV x y mode = dtV [x, y] mode
    · exact Or.inl h4
    · right; rcases h3 with h3 | h3
      · exact absurd h3 h4
      · exact ⟨h4, h3⟩)
  have KE : Hid (dtE l mode = 0 → l.length % 2 = 0 ∧ l.length ≤ 200) := Lib.hid (by
    intro h; unfold dtE at h
    split at h
    · split at h
      · exact absurd h (by decide)
      · split at h
        · exact absurd h (by decide)
        · omega
    · exact absurd h (by decide))
  have HCA := Lib.hid (fun w' => class_any (dtV l mode) a0 a1 w')
  have HUR := Lib.hid hur
  have HU := Lib.hid hu
  have HV := Lib.hid hv
  have HT := Lib.hid hT
  obtain ⟨-, ao, cap, rfl, hcap, hmx, hc⟩ := hv
  unfold maxLen at hmx
  have HC := Lib.hid hc
  generalize dtV l mode = A at *
  generalize dtC l mode = Bb at *
  generalize dtE l mode = E at *
  obtain ⟨i0, hi, hz0, hz1, hz2⟩ := info_parts infoU64
  have HI := Lib.hid hi
  have HZ0 := Lib.hid hz0
  have HZ1 := Lib.hid hz1
  have HZ2 := Lib.hid hz2
  clear hT hu hur hr hi hz0 hz1 hz2 hc
  rcases K.out with ⟨he, rfl⟩ | rfl
  all_goals
    clear K
    go_enter Tryd.func3, Tryd.ntmps3
    go_wp2_with fail
    refine (H1.out _ _ HT.out HV.out).mono ?_
    rintro r w1 ⟨rfl, hb⟩
    have B1 : Hid (Below w.heap.size w w1) := Lib.hid hb
    clear hb
    go_wp2_with fail
    refine (prodLives_any _ (HT.out.below B1.out)).mono ?_
    rintro r w2 ⟨rfl, hb⟩
    have B2 : Hid (Below w.heap.size w w2) := Lib.hid (bl_thru B1.out (Nat.le_refl _) hb)
    clear hb
  · go_wp2_with fail
    refine (prodLives_any _ (HT.out.below B2.out)).mono ?_
    rintro r w3 ⟨rfl, hb⟩
    have B3 : Hid (Below w.heap.size w w3) := Lib.hid (bl_thru B2.out (Nat.le_refl _) hb)
    clear hb
    go_wp2
    go_ret
    exact ⟨rfl, B3.out⟩
  · obtain ⟨hev, hle⟩ := KE.out (by trivial)
    have HEV := Lib.hid hev
    clear hev KE
    have hlm : IntKind.i64.wrap ((l.length : Int) - 1) = (l.length : Int) - 1 := IntWalk.i64_in _ (by omega)
    go_wp2
    go_loopw [8, 9] (fun s6 s7 wr => ∃ (j : Nat) (kz : Int), kz + 2 * j + 1 = (l.length : Int) ∧ -1 ≤ kz ∧ s7 = .int .i64 kz ∧ Hid (Pairs w w.heap.size l j s6 wr)) (fun _ s7 _ => (intOf s7).toNat + 1)
    case atStart => exact ⟨0, (l.length : Int) - 1, by omega, by omega, by go_num, Lib.hid ⟨own_nil64 w2 _ _, B2.out⟩⟩
    case round =>
      obtain ⟨j, kz, hj, hk1, rfl, HP⟩ := hrel
      by_cases hk : 0 < kz
      · obtain ⟨k, rfl⟩ : ∃ k : Nat, kz = k := ⟨kz.toNat, by omega⟩
        obtain ⟨x, hx⟩ : ∃ x, x = l.getD k 0 := ⟨_, rfl⟩
        obtain ⟨y, hy⟩ : ∃ y, y = l.getD (k - 1) 0 := ⟨_, rfl⟩
        have hrv := rev_two (l := l) (j := j) (k := k) (by omega) (by omega)
        rw [← hx, ← hy] at hrv
        have HRV := Lib.hid hrv
        obtain ⟨hown, hbel⟩ := HP.out
        have HO := Lib.hid hown
        have HB := Lib.hid hbel
        have hcx : ∃ b off, ao = some ⟨b, off, none⟩ ∧ b < w.heap.size ∧ wr.cell? ⟨b, off + k, none⟩ = some (.int .u64 x) ∧ wr.cell? ⟨b, off + (k - 1), none⟩ = some (.int .u64 y) := by
          rcases HC.out with h | ⟨b, off, h1, h2, h3⟩
          · omega
          · exact ⟨b, off, h1, h2, by rw [hx]; exact (hbel.cell (p := ⟨b, off + k, none⟩) h2).trans (h3 _ (by omega)), by rw [hy]; exact (hbel.cell (p := ⟨b, off + (k - 1), none⟩) h2).trans (h3 _ (by omega))⟩
        obtain ⟨b, off, rfl, hbw, hcx, hcy⟩ := hcx
        have kb : (k : Int) < (l.length : Int) := by omega
        have kb0 : 0 ≤ (k : Int) - 1 := by omega
        have kb2 : 1 ≤ (k : Int) := by omega
        have hszr := HB.out.size
        have kb1 : (k : Int) - 1 < (l.length : Int) := by omega
        have w1e : IntKind.i64.wrap ((k : Int) - 1) = (k : Int) - 1 := IntWalk.i64_in _ (by omega)
        have w1t : ((k : Int) - 1).toNat = k - 1 := by omega
        have w2e : IntKind.i64.wrap ((k : Int) - 2) = (k : Int) - 2 := IntWalk.i64_in _ (by omega)
        clear hrv hown hbel hx hy
        go_wp2_with fail
        go_region_held3 (fun w' => w'.cell? ⟨b, off + k, none⟩ = some (.int .u64 x) ∧ w'.cell? ⟨b, off + (k - 1), none⟩ = some (.int .u64 y)) (first | (go_keep; done) | (refine ⟨?_, ?_⟩ <;> (rw [hgrow.cell_far _ (by simp; omega) (by intro hh; exact absurd (own_ge HO.out b hh.symm) (by omega))]; simp [*, go_sem]; done)))
          ((refine step_append_lies _ (by rfl) (.tmp 41) (.tmp 51) 22 (by rfl) w.heap.size 23 i0 (.int .u64 0) 1 8 Tryd.underlying22 HI.out HZ0.out HZ1.out HZ2.out rfl (by decide) _ _ _ (by rfl) (own_below HO.out ((Below.refl _ wr).drew.alloc (Nat.le_refl _) (.cells #[.int .u64 x, .int .u64 y] 23))) ⟨wr.heap.size, 0, none⟩ 2 2 [.int .u64 x, .int .u64 y] (by rfl) rfl (World.news_of_block (heap_alloc_new _ _)) (two_one _ _) (by decide) (by unfold maxLen; omega) (by omega) (by have := HB.out.size; simp; omega) _ rfl ?_; intro g7 c7 w7 hown hgrow hat hlt))
        have O8 := Lib.hid hown
        have B7 : Hid (Below w.heap.size w w7) := Lib.hid ((HB.out.drew.alloc HB.out.size _).grown hgrow (by have := HB.out.size; simp; omega) (fun k hk => own_ge HO.out k hk))
        clear hown hgrow hat hlt
        all_goals
          go_wp2
          go_roundw
          case rel => exact ⟨j + 1, (k : Int) - 2, by omega, by omega, by go_num, Lib.hid ⟨by have := O8.out; rw [← HRV.out]; rw [show lu (l.reverse.take (2 * j) ++ [x, y]) = lu (l.reverse.take (2 * j)) ++ [.int .u64 x, .int .u64 y] from by simp [lu]]; exact this, B7.out⟩⟩
          case measure => simp [intOf]; omega
      · have hend : 2 * j = l.length := by have := HEV.out; omega
        obtain ⟨hown, hbel⟩ := HP.out
        rw [List.take_of_length_le (by rw [List.length_reverse]; omega)] at hown
        have L8 := Lib.hid (own_lu hown HUR.out)
        have HB := Lib.hid hbel
        clear hown hbel HP
        go_wp2_with fail
        refine (H2.out _ _ (HT.out.below HB.out) L8.out).mono ?_
        rintro r w4 ⟨rfl, hb⟩
        have B4 : Hid (Below w.heap.size w w4) := Lib.hid (bl_thru HB.out (Nat.le_refl _) hb)
        clear hb
        by_cases h2 : l.length = 2
        · obtain ⟨x, y, rfl⟩ : ∃ x y, l = [x, y] := by
            match l, h2 with
            | [x, y], _ => exact ⟨x, y, rfl⟩
          obtain ⟨k1, k2, k3⟩ := KT.out x y rfl (by trivial)
          obtain ⟨x0, x1⟩ := HU.out x (by simp)
          obtain ⟨y0, y1⟩ := HU.out y (by simp)
          have hm := fun w' h => pmul_any x y mode x0 x1 y0 y1 w' h
          obtain ⟨m0, m1⟩ := muV_bd x y mode
          rw [k1, k2] at hm
          have hcm := fun w' => class_any (muV x y mode) m0 m1 w'
          have hcells : ∃ b off, ao = some ⟨b, off, none⟩ ∧ b < w.heap.size ∧ w4.cell? ⟨b, off, none⟩ = some (.int .u64 x) ∧ w4.cell? ⟨b, off + 1, none⟩ = some (.int .u64 y) := by
            rcases HC.out with h | ⟨b, off, h1, h2, h3⟩
            · simp at h
            · refine ⟨b, off, h1, h2, ?_, ?_⟩
              · have := h3 0 (by simp); exact (B4.out.cell (p := ⟨b, off, none⟩) h2).trans this
              · have := h3 1 (by simp); exact (B4.out.cell (p := ⟨b, off + 1, none⟩) h2).trans this
          obtain ⟨b, off, rfl, hbw, cx, cy⟩ := hcells
          have hsz4 := B4.out.size
          have B5' : Hid (Below w.heap.size w w4.drew) := Lib.hid B4.out.drew
          generalize muV x y mode = p at *
          have HM := Lib.hid hm
          have HCM := Lib.hid hcm
          simp only [List.length_cons, List.length_nil] at *
          clear hm hcm k1 k2 KT HU HUR H1 H2 HEV
          rcases k3 with rfl | ⟨k3, k4, k5⟩
          · go_wp2_with fail
            go_region_held3 (fun w' => w'.cell? ⟨b, off, none⟩ = some (.int .u64 x) ∧ w'.cell? ⟨b, off + 1, none⟩ = some (.int .u64 y)) (first | (go_keep; done) | (refine ⟨?_, ?_⟩ <;> (rw [hb.cell (by simp; omega)]; simp [*, go_sem]; done)))
              ((go_at_call 24; refine (HM.out _ (HT.out.below B5'.out)).mono ?_; rintro r w5 ⟨rfl, hb⟩))
            have B6 : Hid (Below w.heap.size w w5) := Lib.hid (bl_thru B5'.out (Nat.le_refl _) hb)
            clear hb
            go_wp2
            go_ret
            exact ⟨rfl, B6.out⟩
          · have hne : (p == A) = false := beq_eq_false_iff_ne.2 k3
            rw [k4] at HCM
            rw [k5] at HCA
            clear k3 k4 k5
            go_wp2_with fail
            go_region_held3 (fun w' => w'.cell? ⟨b, off, none⟩ = some (.int .u64 x) ∧ w'.cell? ⟨b, off + 1, none⟩ = some (.int .u64 y)) (first | (go_keep; done) | (refine ⟨?_, ?_⟩ <;> (rw [hb.cell (by simp; omega)]; simp [*, go_sem]; done)))
              ((go_at_call 24; refine (HM.out _ (HT.out.below B5'.out)).mono ?_; rintro r w5 ⟨rfl, hb⟩))
            have B6 : Hid (Below w.heap.size w w5) := Lib.hid (bl_thru B5'.out (Nat.le_refl _) hb)
            clear hb
            go_wp2_with (first
              | (go_at_call 25; (with_reducible refine (HCM.out _).mono ?_); rintro e w' ⟨rfl, rfl⟩)
              | (go_at_call 25; (with_reducible refine (HCA.out _).mono ?_); rintro e w' ⟨rfl, rfl⟩))
            go_ret
            exact ⟨rfl, B6.out⟩
        · have h2' : ((l.length : Int) != 2) = true := by rw [bne_iff_ne]; omega
          go_wp2
          go_ret
          exact ⟨rfl, B4.out⟩
end Go.Proofs.YtapdjclhpcakeaaDoor
