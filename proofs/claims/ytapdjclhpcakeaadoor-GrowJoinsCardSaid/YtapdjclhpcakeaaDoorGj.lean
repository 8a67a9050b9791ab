/-
  THE WALK of grow.Join; what is joined counts as both, plain.
-/
import Derived.Test.YtapdjclhpcakeaaDoorGy
set_option linter.unusedVariables false
set_option linter.unusedSimpArgs false
namespace Go.Proofs.YtapdjclhpcakeaaDoor
open Go.RowKit Nt Fm Fl

/-- behind k of them -/
def jo (a b : List Int) : Nat → List Int
  | 0 => a
  | k + 1 => gaL (jo a b k) (b.getD k 0)
def joErr (a b : List Int) : Nat → Int
  | 0 => 0
  | k + 1 => if joErr a b k ≠ 0 then joErr a b k else gaE (jo a b k) (b.getD k 0)
def joE (a b : List Int) : Int := if gcE a ≠ 0 then gcE a else if gcE b ≠ 0 then gcE b else if joErr a b b.length ≠ 0 then joErr a b b.length else if 60 < (jo a b b.length).length then 2 else 0
def joL (a b : List Int) : List Int := if joE a b = 0 then jo a b b.length else []
theorem jo_mem {a b : List Int} (ha : ∀ d ∈ a, 0 ≤ d ∧ d ≤ 18446744073709551615) (hb : ∀ d ∈ b, 0 ≤ d ∧ d ≤ 18446744073709551615) : ∀ k, ∀ d ∈ jo a b k, 0 ≤ d ∧ d ≤ 18446744073709551615
  | 0 => ha
  | k + 1 => by
    have c := getD_bd hb k
    exact gaL_mem (jo_mem ha hb k) c.1 c.2
theorem joErr_stay {a b : List Int} {k : Nat} (h : joErr a b k ≠ 0) : ∀ n, k ≤ n → joErr a b n = joErr a b k
  | 0, hn => by rw [show k = 0 by omega]
  | n + 1, hn => by
    by_cases hk : k = n + 1
    · rw [hk]
    · have ih := joErr_stay h n (by omega)
      show (if joErr a b n ≠ 0 then joErr a b n else _) = _
      rw [ih, if_pos h]
theorem joErr_zero {a b : List Int} : ∀ n, joErr a b n = 0 → ∀ k, k < n → gaE (jo a b k) (b.getD k 0) = 0
  | 0, _, k, hk => by omega
  | n + 1, h, k, hk => by
    have h0 : joErr a b n = 0 := by
      apply Classical.byContradiction; intro hc
      rw [joErr_stay hc (n + 1) (by omega)] at h; exact hc h
    by_cases hkn : k = n
    · subst hkn
      have : joErr a b (k + 1) = gaE (jo a b k) (b.getD k 0) := by
        show (if joErr a b k ≠ 0 then joErr a b k else _) = _
        rw [if_neg (not_not_intro h0)]
      rw [← this]; exact h
    · exact joErr_zero n h0 k (by omega)
/-- THE LAW: what is joined -/
theorem join_law {a b : List Int} (ha : ∀ d ∈ a, 0 ≤ d ∧ d ≤ 18446744073709551615) (hb : ∀ d ∈ b, 0 ≤ d ∧ d ≤ 18446744073709551615) (he : joE a b = 0)
    (na : ∀ i, i < a.length → (smag (a.getD i 0)).natAbs ≤ Ep.P 1974) (nb : ∀ i, i < b.length → (smag (b.getD i 0)).natAbs ≤ Ep.P 1974) :
    gcE a = 0 ∧ gcE b = 0 ∧ joL a b = jo a b b.length ∧ gcE (jo a b b.length) = 0 ∧ ssum (jo a b b.length) = ssum a + ssum b := by
  have hga : gcE a = 0 := by
    apply Classical.byContradiction; intro h; unfold joE at he; rw [if_pos h] at he; exact h he
  have hgb : gcE b = 0 := by
    apply Classical.byContradiction; intro h; unfold joE at he; rw [if_neg (not_not_intro hga), if_pos h] at he; exact h he
  have hge : joErr a b b.length = 0 := by
    apply Classical.byContradiction; intro h; unfold joE at he; rw [if_neg (not_not_intro hga), if_neg (not_not_intro hgb), if_pos h] at he; exact h he
  have hlen : (jo a b b.length).length ≤ 60 := by
    apply Classical.byContradiction; intro h; unfold joE at he; rw [if_neg (not_not_intro hga), if_neg (not_not_intro hgb), if_neg (not_not_intro hge), if_pos (by omega)] at he; omega
  have hstep := joErr_zero b.length hge
  have hbl := gcE_len' hgb
  have inv : ∀ k, k ≤ b.length → Nov (jo a b k) ∧ (∀ i, i < (jo a b k).length → (smag ((jo a b k).getD i 0)).natAbs < Ep.P (1975 + 2 * k)) ∧ ssum (jo a b k) = ssum a + ssum (b.take k) := by
    intro k
    induction k with
    | zero =>
      intro _
      refine ⟨nov_of_good ha hga, fun i hi => ?_, by simp [ssum, jo]⟩
      have := na i hi
      have p : Ep.P 1975 = 2 * Ep.P 1974 := Ep.P_succ 1974
      have := Ep.P_pos 1974
      show (smag (a.getD i 0)).natAbs < Ep.P 1975
      omega
    | succ k ih =>
      intro hk
      obtain ⟨i1, i2, i3⟩ := ih (by omega)
      have hs := hstep k (by omega)
      have hgk : gcE (jo a b k) = 0 ∧ hasV (b.getD k 0) = true := by
        unfold gaE at hs
        by_cases hg : gcE (jo a b k) = 0
        · rw [if_pos hg] at hs
          cases hv : hasV (b.getD k 0)
          · rw [hv, if_neg (by decide)] at hs; omega
          · exact ⟨hg, rfl⟩
        · rw [if_neg hg] at hs; exact absurd hs hg
      have c := getD_bd hb k
      obtain ⟨-, g2, g3, g4, -⟩ := grow_law (jo_mem ha hb k) c.1 c.2 hgk.1 hgk.2 (n := 1975 + 2 * k) (by omega) (by omega) i2 (nb k (by omega))
      have hst := ssum_take (o := b) (show k < b.length by omega)
      refine ⟨g2, fun i hi => ?_, ?_⟩
      · have := g4 i hi
        have p : Ep.P (1975 + 2 * k + 2) = 2 * Ep.P (1975 + 2 * k + 1) := Ep.P_succ _
        have := Ep.P_pos (1975 + 2 * k + 1)
        rw [show 1975 + 2 * (k + 1) = 1975 + 2 * k + 2 by omega]
        show (smag ((gaL (jo a b k) (b.getD k 0)).getD i 0)).natAbs < _
        omega
      · show ssum (gaL (jo a b k) (b.getD k 0)) = _
        omega
  obtain ⟨f1, -, f3⟩ := inv b.length (Nat.le_refl _)
  rw [List.take_length] at f3
  exact ⟨hga, hgb, by unfold joL; rw [if_pos he], good_of_nov (jo_mem ha hb _) f1 hlen, f3⟩
set_option maxRecDepth 100000 in
set_option maxHeartbeats 16000000 in
theorem join_any (va vb : Value) (a b : List Int) (w : World) (hT : Tab w) (hva : LU w va a) (hvb : LU w vb b) :
    Calls Tryd.prog 61 #[va, vb] w (RetL w (joE a b) (joL a b)) := by
  have HCA := Lib.hid (fun w' h hb => gcheck_any va a w' h (hva.below hb))
  have HCB := Lib.hid (fun w' h hb => gcheck_any vb b w' h (hvb.below hb))
  have HCL := Lib.hid (fun w' hb hr => clone64_any va a w' (hva.below hb) hr)
  have ha := hva.1
  have hJM := Lib.hid (jo_mem hva.1 hvb.1)
  obtain ⟨-, aa, ca, rfl, hcapa, hmxa, -⟩ := hva
  obtain ⟨hu, ab, cb, rfl, hcapb, hmxb, hc⟩ := hvb
  unfold maxLen at hmxa hmxb
  have HA := Lib.hid ha
  have HU := Lib.hid hu
  have HC := Lib.hid hc
  have HT := Lib.hid hT
  have i0 : ∀ w : World, (Instr.index 121 (.agg #[.slice aa a.length ca, .slice ab b.length cb]) (.int .i64 0)).run Tryd.prog w = .ok (.slice aa a.length ca) w := fun _ => by kernel_rfl
  have i1 : ∀ w : World, (Instr.index 121 (.agg #[.slice aa a.length ca, .slice ab b.length cb]) (.int .i64 1)).run Tryd.prog w = .ok (.slice ab b.length cb) w := fun _ => by kernel_rfl
  clear ha hu hc hT
  have hErr : Hid ((gcE a ≠ 0 → joE a b = gcE a ∧ joL a b = []) ∧ (gcE a = 0 → gcE b ≠ 0 → joE a b = gcE b ∧ joL a b = []) ∧
      (gcE a = 0 → gcE b = 0 → ∀ k, k < b.length → joErr a b k = 0 → gaE (jo a b k) (b.getD k 0) ≠ 0 → joE a b = gaE (jo a b k) (b.getD k 0) ∧ joL a b = []) ∧
      (gcE a = 0 → gcE b = 0 → joErr a b b.length = 0 → 60 < (jo a b b.length).length → joE a b = 2 ∧ joL a b = []) ∧
      (gcE a = 0 → gcE b = 0 → joErr a b b.length = 0 → ¬ 60 < (jo a b b.length).length → joE a b = 0 ∧ joL a b = jo a b b.length)) := Lib.hid (by
    refine ⟨fun h => ?_, fun h1 h2 => ?_, fun h1 h2 k hk h3 h4 => ?_, fun h1 h2 h3 h4 => ?_, fun h1 h2 h3 h4 => ?_⟩
    · have e : joE a b = gcE a := by unfold joE; rw [if_pos h]
      exact ⟨e, by unfold joL; rw [e, if_neg h]⟩
    · have e : joE a b = gcE b := by unfold joE; rw [if_neg (not_not_intro h1), if_pos h2]
      exact ⟨e, by unfold joL; rw [e, if_neg h2]⟩
    · have e1 : joErr a b (k + 1) = gaE (jo a b k) (b.getD k 0) := by
        show (if joErr a b k ≠ 0 then joErr a b k else _) = _
        rw [if_neg (not_not_intro h3)]
      have e2 : joErr a b b.length = gaE (jo a b k) (b.getD k 0) := by rw [joErr_stay (k := k + 1) (by rw [e1]; exact h4) b.length (by omega), e1]
      have e : joE a b = gaE (jo a b k) (b.getD k 0) := by unfold joE; rw [if_neg (not_not_intro h1), if_neg (not_not_intro h2), e2, if_pos h4]
      exact ⟨e, by unfold joL; rw [e, if_neg h4]⟩
    · have e : joE a b = 2 := by unfold joE; rw [if_neg (not_not_intro h1), if_neg (not_not_intro h2), if_neg (not_not_intro h3), if_pos h4]
      exact ⟨e, by unfold joL; rw [e, if_neg (by decide)]⟩
    · have e : joE a b = 0 := by unfold joE; rw [if_neg (not_not_intro h1), if_neg (not_not_intro h2), if_neg (not_not_intro h3), if_neg h4]
      exact ⟨e, by unfold joL; rw [e, if_pos rfl]⟩)
  go_enter Tryd.func61, Tryd.ntmps61
  go_wp2
  go_loopw [16] (fun i wr => ∃ k : Nat, k ≤ 2 ∧ i = .int .i64 k ∧ Hid ((1 ≤ k → gcE a = 0) ∧ (2 ≤ k → gcE b = 0)) ∧ Hid (Below w.heap.size w wr)) (fun i _ => 2 - (intOf i).toNat)
  case atStart => exact ⟨0, by omega, rfl, Lib.hid ⟨fun h => by omega, fun h => by omega⟩, Lib.hid (Below.refl _ _)⟩
  case round =>
    obtain ⟨k, hk, rfl, HK, HB⟩ := hrel
    have hk3 : k = 0 ∨ k = 1 ∨ k = 2 := by omega
    rcases hk3 with rfl | rfl | rfl
    · by_cases hg : gcE a = 0
      · have HG := Lib.hid hg
        rw [hg] at HCA
        clear hg
        go_wp2_with fail
        refine (HCA.out _ (HT.out.below HB.out) HB.out).mono ?_
        rintro r w1 ⟨rfl, hb⟩
        have B1 : Hid (Below w.heap.size w w1) := Lib.hid (bl_thru HB.out (Nat.le_refl _) hb)
        clear hb
        go_wp2
        go_roundw
        case rel => exact ⟨1, by omega, by go_num, Lib.hid ⟨fun _ => HG.out, fun h => by omega⟩, B1⟩
        case measure => simp [intOf]
      · obtain ⟨e1, e2⟩ := hErr.out.1 hg
        have E1 := Lib.hid e1
        have E2 := Lib.hid e2
        have hgb : (gcE a != 0) = true := by rw [bne_iff_ne]; exact hg
        clear e1 e2 hg
        go_wp2_with fail
        refine (HCA.out _ (HT.out.below HB.out) HB.out).mono ?_
        rintro r w1 ⟨rfl, hb⟩
        have B1 : Hid (Below w.heap.size w w1) := Lib.hid (bl_thru HB.out (Nat.le_refl _) hb)
        clear hb
        go_wp2
        go_ret2
        exact ⟨.slice none 0 0, by rw [E1.out]; rfl, by rw [E2.out]; exact LU.nil _, B1.out⟩
    · by_cases hg : gcE b = 0
      · have HG := Lib.hid hg
        rw [hg] at HCB
        clear hg
        go_wp2_with fail
        refine (HCB.out _ (HT.out.below HB.out) HB.out).mono ?_
        rintro r w1 ⟨rfl, hb⟩
        have B1 : Hid (Below w.heap.size w w1) := Lib.hid (bl_thru HB.out (Nat.le_refl _) hb)
        clear hb
        go_wp2
        go_roundw
        case rel => exact ⟨2, by omega, by go_num, Lib.hid ⟨fun _ => HK.out.1 (by omega), fun _ => HG.out⟩, B1⟩
        case measure => simp [intOf]
      · obtain ⟨e1, e2⟩ := hErr.out.2.1 (HK.out.1 (by omega)) hg
        have E1 := Lib.hid e1
        have E2 := Lib.hid e2
        have hgb : (gcE b != 0) = true := by rw [bne_iff_ne]; exact hg
        clear e1 e2 hg
        go_wp2_with fail
        refine (HCB.out _ (HT.out.below HB.out) HB.out).mono ?_
        rintro r w1 ⟨rfl, hb⟩
        have B1 : Hid (Below w.heap.size w w1) := Lib.hid (bl_thru HB.out (Nat.le_refl _) hb)
        clear hb
        go_wp2
        go_ret2
        exact ⟨.slice none 0 0, by rw [E1.out]; rfl, by rw [E2.out]; exact LU.nil _, B1.out⟩
    · have hga := HK.out.1 (by omega)
      have hgb := HK.out.2 (by omega)
      have hla := gcE_len' hga
      have hlb := gcE_len' hgb
      have hE3 := Lib.hid (hErr.out.2.2.1 hga hgb)
      have hE4 := Lib.hid (hErr.out.2.2.2.1 hga hgb)
      have hE5 := Lib.hid (hErr.out.2.2.2.2 hga hgb)
      have hclone := HCL.out wr HB.out (by omega)
      have HCLO := Lib.hid hclone
      clear hga hgb hclone hErr HK i0 i1
      go_wp2_with fail
      refine HCLO.out.mono ?_
      rintro r w1 ⟨v1, rfl, hown, hb⟩
      have B1 : Hid (Below w.heap.size w w1) := Lib.hid (bl_thru HB.out (Nat.le_refl _) hb)
      have L1 := Lib.hid (own_lu hown HA.out)
      obtain ⟨wo, rfl⟩ : ∃ wo : World, wo = wr := ⟨_, rfl⟩
      clear hown hb HCLO
      go_wp2
      go_loopw [9, 29] (fun o i wr => ∃ k : Nat, k ≤ b.length ∧ i = .int .i64 k ∧ Hid (LU wr o (jo a b k)) ∧ Hid (joErr a b k = 0) ∧ Hid (Below w.heap.size w wr)) (fun _ i _ => b.length - (intOf i).toNat)
      case atStart => exact ⟨0, Nat.zero_le _, rfl, L1, Lib.hid rfl, B1⟩
      case round =>
        obtain ⟨k, hk, rfl, HL, HJ, HB⟩ := hrel
        by_cases hlt : k < b.length
        · obtain ⟨y, hy⟩ : ∃ y, y = b.getD k 0 := ⟨_, rfl⟩
          obtain ⟨y0, y1⟩ := getD_bd HU.out k
          rw [← hy] at y0 y1
          have hcx : ∃ bb off, ab = some ⟨bb, off, none⟩ ∧ wr.cell? ⟨bb, off + k, none⟩ = some (.int .u64 y) := by
            rcases HC.out with h | ⟨bb, off, h1, h2, h3⟩
            · omega
            · exact ⟨bb, off, h1, by rw [hy]; exact (HB.out.cell (p := ⟨bb, off + k, none⟩) h2).trans (h3 k hlt)⟩
          obtain ⟨bb, off, rfl, hcx⟩ := hcx
          have kb : (k : Int) < (b.length : Int) := by omega
          have hga := fun v w' h h2 => gadd_any v (jo a b k) y w' h h2 y0 y1
          by_cases he : gaE (jo a b k) y = 0
          · have hj2 : joErr a b (k + 1) = 0 := by
              show (if joErr a b k ≠ 0 then joErr a b k else _) = _
              rw [if_neg (not_not_intro HJ.out), ← hy]; exact he
            have hL2 : jo a b (k + 1) = gaL (jo a b k) y := by rw [hy]; rfl
            rw [he] at hga
            have HJ2 := Lib.hid hj2
            have HL2 := Lib.hid hL2
            have HGA := Lib.hid hga
            clear hj2 hL2 hga he hy
            go_wp2_with fail
            refine (HGA.out _ _ (HT.out.below HB.out) HL.out).mono ?_
            rintro r w2 ⟨v2, rfl, hl, hb⟩
            have B2 : Hid (Below w.heap.size w w2) := Lib.hid (bl_thru HB.out (Nat.le_refl _) hb)
            have L2 := Lib.hid hl
            clear hl hb
            go_wp2
            go_roundw
            case rel => exact ⟨k + 1, by omega, by go_num, Lib.hid (by rw [HL2.out]; exact L2.out), HJ2, B2⟩
            case measure => simp [intOf]; omega
          · obtain ⟨e1, e2⟩ := hE3.out k hlt HJ.out (by rw [← hy]; exact he)
            rw [← hy] at e1
            have E1 := Lib.hid e1
            have E2 := Lib.hid e2
            have heb : (gaE (jo a b k) y != 0) = true := by rw [bne_iff_ne]; exact he
            have HGA := Lib.hid hga
            generalize gaE (jo a b k) y = E at *
            clear e1 e2 hga he hy
            go_wp2_with fail
            refine (HGA.out _ _ (HT.out.below HB.out) HL.out).mono ?_
            rintro r w2 ⟨v2, rfl, hl, hb⟩
            have B2 : Hid (Below w.heap.size w w2) := Lib.hid (bl_thru HB.out (Nat.le_refl _) hb)
            clear hl hb
            go_wp2
            go_ret2
            exact ⟨.slice none 0 0, by rw [E1.out]; rfl, by rw [E2.out]; exact LU.nil _, B2.out⟩
        · have hke : k = b.length := by omega
          subst hke
          obtain ⟨ao, co, rfl⟩ := HL.out.shape
          by_cases h6 : 60 < (jo a b b.length).length
          · obtain ⟨e1, e2⟩ := hE4.out HJ.out h6
            have E1 := Lib.hid e1
            have E2 := Lib.hid e2
            have h6' : (60 : Int) < ((jo a b b.length).length : Int) := by omega
            clear e1 e2
            go_wp2
            go_ret2
            exact ⟨.slice none 0 0, by rw [E1.out]; rfl, by rw [E2.out]; exact LU.nil _, HB.out⟩
          · obtain ⟨e1, e2⟩ := hE5.out HJ.out h6
            have E1 := Lib.hid e1
            have E2 := Lib.hid e2
            have h6' : ((jo a b b.length).length : Int) ≤ 60 := by omega
            clear e1 e2
            go_wp2
            go_ret2
            exact ⟨.slice ao _ co, by rw [E1.out]; rfl, by rw [E2.out]; exact HL.out, HB.out⟩
end Go.Proofs.YtapdjclhpcakeaaDoor
