/-
  THE WALK of grow.Check.
-/
import Derived.Test.YtapdjclhpcakeaaDoorBm
import Derived.Test.YtapdjclhpcakeaaDoorXs
import Derived.Test.YtapdjclhpcakeaaDoorBd
import Derived.Deep.RegionHeld3
import Derived.Deep.DrawnRows
set_option linter.unusedVariables false
set_option linter.unusedSimpArgs false
namespace Go.Proofs.YtapdjclhpcakeaaDoor
open Go.RowKit Nt Fm Fl

/-- one more than the highest bit -/
def topE (x : Int) : Int := (blen (valD x).m : Int) + (valD x).e
/-- is the one at k no 0, and behind the one ahead? -/
def okAt (l : List Int) (k : Nat) : Bool := decide (fcls (l.getD k 0) ≠ 1) && (decide (k = 0) || decide (topE (l.getD (k - 1) 0) ≤ (valD (l.getD k 0)).e))
def goodN (l : List Int) : Nat → Bool
  | 0 => true
  | k + 1 => goodN l k && okAt l k
/-- what Check says of an expansion -/
def gcE (l : List Int) : Int := if 60 < l.length then 2 else if nonL l = true then 4 else if goodN l l.length = true then 0 else 3
theorem goodN_not (l : List Int) (k : Nat) (h : okAt l k = false) : ∀ n, k < n → goodN l n = false
  | 0, hn => by omega
  | n + 1, hn => by
    unfold goodN
    by_cases hk : k = n
    · subst hk; rw [h, Bool.and_false]
    · rw [goodN_not l k h n (by omega), Bool.false_and]
theorem gcE_form {l : List Int} {k : Nat} (h6 : ¬ 60 < l.length) (hn : nonL l = false) (hk : k < l.length) (h : okAt l k = false) : gcE l = 3 := by
  unfold gcE; rw [if_neg h6, hn, if_neg (by decide), goodN_not l k h _ hk, if_neg (by decide)]
theorem okAt_zero {l : List Int} {k : Nat} (h : fcls (l.getD k 0) = 1) : okAt l k = false := by
  unfold okAt; rw [decide_eq_false (not_not_intro h), Bool.false_and]
theorem okAt_first {l : List Int} {k : Nat} (hk : k = 0) (h : fcls (l.getD k 0) ≠ 1) : okAt l k = true := by
  unfold okAt; rw [decide_eq_true h, decide_eq_true hk]; rfl
theorem okAt_next {l : List Int} {k : Nat} (h : fcls (l.getD (k + 1) 0) ≠ 1) (h2 : topE (l.getD k 0) ≤ (valD (l.getD (k + 1) 0)).e) : okAt l (k + 1) = true := by
  unfold okAt; rw [decide_eq_true h, show k + 1 - 1 = k by omega, decide_eq_true h2, Bool.or_true]; rfl
theorem okAt_over {l : List Int} {k : Nat} (h2 : (valD (l.getD (k + 1) 0)).e < topE (l.getD k 0)) : okAt l (k + 1) = false := by
  unfold okAt
  rw [show k + 1 - 1 = k by omega, decide_eq_false (show ¬ k + 1 = 0 by omega), decide_eq_false (show ¬ topE (l.getD k 0) ≤ (valD (l.getD (k + 1) 0)).e by omega)]
  simp
set_option maxRecDepth 100000 in
set_option maxHeartbeats 16000000 in
theorem gcheck_any (v : Value) (l : List Int) (w : World) (hT : Tab w) (hv : LU w v l) :
    Calls Tryd.prog 106 #[v] w fun e w' => e = .returned (.int .i64 (gcE l)) ∧ Below w.heap.size w w' := by
  have hcf := gkcontainsf_any v l w hv
  obtain ⟨hu, ao, cap, rfl, hcap, hmx, hc⟩ := hv
  unfold maxLen at hmx
  have HT := Lib.hid hT
  clear hT
  by_cases h6 : 60 < l.length
  · have e : gcE l = 2 := by unfold gcE; rw [if_pos h6]
    rw [e]; clear e hu hc hcf
    have h6' : (60 : Int) < (l.length : Int) := by omega
    go_enter Tryd.func106, Tryd.ntmps106
    go_wp2
    go_ret
    exact ⟨rfl, Below.refl _ _⟩
  have h6' : (l.length : Int) ≤ 60 := by omega
  cases hn : nonL l
  · have hform := fun k hk ho => @gcE_form l k h6 hn hk ho
    have hgood : goodN l l.length = true → gcE l = 0 := fun hg => by unfold gcE; rw [if_neg h6, hn, if_neg (by decide), if_pos hg]
    rw [hn] at hcf
    have HCF := Lib.hid hcf
    have HF := Lib.hid hform
    have HG := Lib.hid hgood
    have HU := Lib.hid hu
    have HC := Lib.hid hc
    clear hcf hform hgood hu hc hn h6
    go_enter Tryd.func106, Tryd.ntmps106
    go_wp2_with (go_at_call 71; (refine HCF.out.mono ?_); rintro e w' ⟨rfl, rfl⟩)
    go_loopw [13] (fun i wr => ∃ k : Nat, k ≤ l.length ∧ i = .int .i64 k ∧ Hid (goodN l k = true) ∧ Hid (Below w.heap.size w wr)) (fun i _ => l.length - (intOf i).toNat)
    case atStart => exact ⟨0, Nat.zero_le _, rfl, Lib.hid rfl, Lib.hid (Below.refl _ _)⟩
    case round =>
      obtain ⟨k, hk, rfl, HN, HB⟩ := hrel
      by_cases hlt : k < l.length
      · obtain ⟨x, hx⟩ : ∃ x, x = l.getD k 0 := ⟨_, rfl⟩
        have hxm : 0 ≤ x ∧ x ≤ 18446744073709551615 := by
          have e : l.getD k 0 = l[k] := by simp [List.getD, hlt]
          rw [hx, e]; exact HU.out _ (List.getElem_mem hlt)
        obtain ⟨x0, x1⟩ := hxm
        have hcx : ∃ b off, ao = some ⟨b, off, none⟩ ∧ b < w.heap.size ∧ (∀ i, i < l.length → wr.cell? ⟨b, off + i, none⟩ = some (.int .u64 (l.getD i 0))) := by
          rcases HC.out with h | ⟨b, off, h1, h2, h3⟩
          · omega
          · exact ⟨b, off, h1, h2, fun i hi => (HB.out.cell (p := ⟨b, off + i, none⟩) h2).trans (h3 i hi)⟩
        obtain ⟨b, off, rfl, hbw, hcell⟩ := hcx
        have hcx := hcell k hlt
        rw [← hx] at hcx
        have HCELL := Lib.hid hcell
        have kb : (k : Int) < (l.length : Int) := by omega
        have hcls := fun w' => class_any x x0 x1 w'
        clear hcell
        by_cases h1 : fcls x = 1
        · have hE := HF.out k hlt (okAt_zero (by rw [← hx]; exact h1))
          rw [h1] at hcls
          have HE := Lib.hid hE
          have HCL := Lib.hid hcls
          clear hcls hE h1 hx
          go_wp2_with (go_at_call 25; (refine (HCL.out _).mono ?_); rintro e w' ⟨rfl, rfl⟩)
          go_ret
          exact ⟨by rw [HE.out]; rfl, HB.out⟩
        · have h1b : (fcls x == 1) = false := beq_eq_false_iff_ne.2 h1
          by_cases hk0 : k = 0
          · have hkz : ((k : Int) == 0) = true := by rw [beq_iff_eq]; omega
            have hok : goodN l (k + 1) = true := by unfold goodN; rw [HN.out, okAt_first hk0 (by rw [← hx]; exact h1)]; rfl
            have HOK := Lib.hid hok
            have HCL := Lib.hid hcls
            generalize fcls x = K at *
            clear hcls hok h1 hx hk0 HN
            go_wp2_with (go_at_call 25; (refine (HCL.out _).mono ?_); rintro e w' ⟨rfl, rfl⟩)
            go_roundw
            case rel => exact ⟨k + 1, by omega, by go_num, HOK, HB⟩
            case measure => simp [intOf]; omega
          · obtain ⟨j, rfl⟩ : ∃ j, k = j + 1 := ⟨k - 1, by omega⟩
            obtain ⟨p, hp⟩ : ∃ p, p = l.getD j 0 := ⟨_, rfl⟩
            have hpm : 0 ≤ p ∧ p ≤ 18446744073709551615 := by
              have e : l.getD j 0 = l[j] := by simp [List.getD, show j < l.length by omega]
              rw [hp, e]; exact HU.out _ (List.getElem_mem (by omega))
            obtain ⟨p0, p1⟩ := hpm
            have hcp := HCELL.out j (by omega)
            rw [← hp] at hcp
            have hjx : ((j + 1 : Nat) : Int) = (j : Int) + 1 := by omega
            have hjz : (((j : Int) + 1) == 0) = false := by rw [beq_eq_false_iff_ne]; omega
            have j0 : (0 : Int) ≤ (j : Int) := by omega
            have jb : (j : Int) < (l.length : Int) := by omega
            have wj : IntKind.i64.wrap ((j : Int) + 1 - 1) = (j : Int) := by rw [show (j : Int) + 1 - 1 = (j : Int) by omega]; exact IntWalk.i64_in _ (by omega)
            obtain ⟨v1, v2, v3, v4, -⟩ := valD_facts p p0 p1
            obtain ⟨-, -, u3, u4, -⟩ := valD_facts x x0 x1
            have hbl := blen_le v2
            have hvp := fun w' h => value_any p p0 p1 w' h
            have hvx := fun w' h => value_any x x0 x1 w' h
            have hlen := fun va w' h => natLen_any va (valD p).m 53 w' h v2 (by decide)
            have htop : topE p = (blen (valD p).m : Int) + (valD p).e := rfl
            have hcase : (topE p ≤ (valD x).e ∧ goodN l (j + 1 + 1) = true) ∨ ((valD x).e < topE p ∧ gcE l = 3) := by
              rcases Int.lt_or_le (valD x).e (topE p) with h | h
              · right; exact ⟨h, HF.out (j + 1) hlt (okAt_over (by rw [← hx, ← hp]; exact h))⟩
              · left; refine ⟨h, ?_⟩
                show (goodN l (j + 1) && okAt l (j + 1)) = true
                rw [HN.out, okAt_next (by rw [← hx]; exact h1) (by rw [← hx, ← hp]; exact h)]; rfl
            rw [htop] at hcase
            generalize fcls x = K at *
            generalize blen (valD p).m = L at *
            generalize valD p = V at *
            generalize valD x = X at *
            obtain ⟨vn, vm, ve⟩ := V
            obtain ⟨xn, xm, xe⟩ := X
            simp only at *
            have we1 : IntKind.i64.wrap ((L : Int) + ve) = (L : Int) + ve := IntWalk.i64_in _ (by omega)
            have HCL := Lib.hid hcls
            have HVP := Lib.hid hvp
            have HVX := Lib.hid hvx
            have HLEN := Lib.hid hlen
            have HT1 := Lib.hid (HT.out.below HB.out)
            have hsz := HB.out.size
            clear hcls hvp hvx hlen htop hx hp h1 v1 v2 v3 v4 u3 u4 hbl HF HN hk0
            have HCASE := Lib.hid hcase
            clear hcase
            rcases HCASE.out with ⟨hle, hgo⟩ | ⟨hle, hgo⟩
            all_goals
              have HGO := Lib.hid hgo
              clear hgo HCASE
              go_wp2_with (go_at_call 25; (refine (HCL.out _).mono ?_); rintro e w' ⟨rfl, rfl⟩)
              refine (HVP.out _ HT1.out).mono ?_
              rintro r w1 ⟨v1, rfl, ⟨s1, rfl, hv⟩, hb⟩
              obtain ⟨a1, n1, k1, rfl⟩ := hv.shape
              have B1 : Hid (Below w.heap.size w w1) := Lib.hid (bl_thru HB.out (Nat.le_refl _) hb)
              have HV1 := Lib.hid hv
              clear hv hb
              go_wp2_with fail
              have X1 := Lib.hid (Box.new w1 (.bool vn) (.slice a1 n1 k1) (.int .i64 ve) 59)
              have NV1 := Lib.hid (HV1.out.alloc (.cells #[.bool vn, .slice a1 n1 k1, .int .i64 ve] 59))
              have B0 : Hid (Below w.heap.size w _) := Lib.hid (B1.out.alloc B1.out.size (.cells #[.bool vn, .slice a1 n1 k1, .int .i64 ve] 59)).drew
              obtain ⟨q0, q1, q2, f0, f1, f2⟩ := X1.out.cells
              go_region_held3 (fun w' => w'.cell? ⟨w1.heap.size, 1, none⟩ = some (.slice a1 n1 k1) ∧ w'.cell? ⟨w1.heap.size, 2, none⟩ = some (.int .i64 ve)) (first | (go_keep; done) | (refine ⟨?_, ?_⟩ <;> (rw [hb.cell (by simp)]; simp [*, go_sem]; done)))
                ((first
                  | (go_at_call 103; refine (HLEN.out _ _ NV1.out.drew).mono ?_; rintro e w' ⟨rfl, rfl⟩)
                  | (go_at_call 81; refine (HVX.out _ (HT.out.below B0.out)).mono ?_; rintro r w2 ⟨v2, rfl, ⟨s2, rfl, hv⟩, hb⟩; obtain ⟨a2, n2, k2, rfl⟩ := hv.shape; have qf := fun w => run_field2 xn (.slice a2 n2 k2) xe w)))
              have B2 : Hid (Below w.heap.size w _) := Lib.hid (bl_thru B0.out (Nat.le_refl _) hb)
              clear hv hb
            · go_wp2
              go_roundw
              case rel => exact ⟨j + 1 + 1, by omega, by go_num, HGO, B2⟩
              case measure => simp [intOf]; omega
            · go_wp2
              go_ret
              exact ⟨by rw [HGO.out]; rfl, B2.out⟩
      · have hke : k = l.length := by omega
        have hE := HG.out (by have := HN.out; rw [hke] at this; exact this)
        have HE := Lib.hid hE
        clear hke hE
        go_wp2
        go_ret
        exact ⟨by rw [HE.out]; rfl, HB.out⟩
  · have e : gcE l = 4 := by unfold gcE; rw [if_neg h6, if_pos hn]
    rw [e]
    rw [hn] at hcf
    have HCF := Lib.hid hcf
    clear e hu hc hcf hn h6
    go_enter Tryd.func106, Tryd.ntmps106
    go_wp2_with (go_at_call 71; (refine HCF.out.mono ?_); rintro e w' ⟨rfl, rfl⟩)
    go_ret
    exact ⟨rfl, Below.refl _ _⟩
end Go.Proofs.YtapdjclhpcakeaaDoor
