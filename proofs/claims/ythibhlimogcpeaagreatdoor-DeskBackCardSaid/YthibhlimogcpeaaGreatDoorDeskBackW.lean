/-
  THE WALK of the law DeskBack: what is told of a number is read as it was, by its text and by its bits.
-/
import Derived.Test.YthibhlimogcpeaaGreatDoorJwe
import Derived.Deep.RegionWith
import Derived.Deep.LoopGhost
set_option linter.unusedVariables false
set_option linter.unusedSimpArgs false
namespace Go.Proofs.YthibhlimogcpeaaGreatDoor
open Go.Shelf Go.RowKit Go.Lib Nt Fm Fl

theorem ba_cons (a b c : List UInt8) {A B C : ByteArray} (hA : A = ⟨a.toArray⟩) (hB : B = ⟨b.toArray⟩) : A ++ B = ⟨(a ++ b).toArray⟩ := by
  subst hA hB
  apply ByteArray.ext
  simp [ByteArray.data_append]
/-- the first digits -/
theorem hdg_more (x k : Nat) (n : Nat) : hdg (x / 16 ^ k) (n + 1) = hdg (x / 16 ^ (k + 1)) n ++ [hxd (x / 16 ^ k % 16)] := by
  rw [hdg, Nat.div_div_eq_div_mul, Nat.pow_succ]
def hx16 : ByteArray := ⟨#[48, 49, 50, 51, 52, 53, 54, 55, 56, 57, 97, 98, 99, 100, 101, 102]⟩
theorem hx16_at (d : Nat) (h : d < 16) : hx16.extract d (d + 1) = ⟨#[hxd d]⟩ := by
  have : d = 0 ∨ d = 1 ∨ d = 2 ∨ d = 3 ∨ d = 4 ∨ d = 5 ∨ d = 6 ∨ d = 7 ∨ d = 8 ∨ d = 9 ∨ d = 10 ∨ d = 11 ∨ d = 12 ∨ d = 13 ∨ d = 14 ∨ d = 15 := by omega
  rcases this with h | h | h | h | h | h | h | h | h | h | h | h | h | h | h | h <;> subst h <;> rfl
set_option maxRecDepth 100000 in
set_option maxHeartbeats 4000000 in
theorem hexBits_any (x : Nat) (hx : x < 18446744073709551616) (w : World) :
    Calls Tryz.prog 16 #[.int .u64 (x : Int)] w (RetT w (35 :: hdg x 16)) := by
  unfold RetT
  go_enter Tryz.func16, Tryz.ntmps16
  go_wp2
  go_loopw [3, 4] (fun sv kv wr => ∃ (n : Nat) (S : ByteArray), n ≤ 16 ∧ sv = .string S ∧ kv = .int .i64 (15 - (n : Int)) ∧ S.size = n + 1 ∧ Hid (S = ⟨(35 :: hdg (x / 16 ^ (16 - n)) n).toArray⟩ ∧ True) ∧ Hid (Below w.heap.size w wr))
    (fun _ kv _ => (RowKit.intOf kv + 1).toNat)
  case atStart => exact ⟨0, ⟨#[35]⟩, by omega, rfl, rfl, rfl, Lib.hid ⟨by simp [hdg], trivial⟩, Lib.hid (Below.refl _ _)⟩
  case round =>
    obtain ⟨n, S, hn, rfl, rfl, hz, hS, B⟩ := hrel
    by_cases h : n < 16
    · obtain ⟨k, hk⟩ : ∃ k, k = 15 - n := ⟨_, rfl⟩
      have ek : 15 - (n : Int) = (k : Int) := by omega
      have hk15 : k ≤ 15 := by omega
      rw [ek]
      obtain ⟨d, hd⟩ : ∃ d, d = x / 16 ^ k % 16 := ⟨_, rfl⟩
      have hd16 : d < 16 := by rw [hd]; exact Nat.mod_lt _ (by omega)
      have hdz : ((x : Int) / 2 ^ (4 * k)).tmod 16 = (d : Int) := by
        have e1 : ((2 : Int) ^ (4 * k)) = ((16 ^ k : Nat) : Int) := by
          rw [Int.pow_mul]; simp
        have e2 : (x : Int) / ((16 ^ k : Nat) : Int) = ((x / 16 ^ k : Nat) : Int) := (Int.natCast_ediv x (16 ^ k)).symm
        rw [e1, e2, hd]
        generalize x / 16 ^ k = q
        rw [Int.tmod_eq_emod_of_nonneg (Int.natCast_nonneg q)]
        omega
      have hwr : IntKind.u64.wrap ((d : Int) + 1) = (d : Int) + 1 := IntWalk.u64_in _ (by omega)
      have hex := hx16_at d hd16
      unfold hx16 at hex
      have hT : Hid (S ++ ⟨#[hxd d]⟩ = ⟨(35 :: hdg (x / 16 ^ (16 - (n + 1))) (n + 1)).toArray⟩ ∧ True) := Lib.hid ⟨by
        rw [hS.out.1, show 16 - (n + 1) = k by omega, hdg_more, show k + 1 = 16 - n by omega, hd]
        apply ByteArray.ext
        simp [ByteArray.data_append], trivial⟩
      have HK := Lib.hid hk
      clear hd hk hS
      go_wp2
      exact ⟨⟨n + 1, S ++ ⟨#[hxd d]⟩, by omega, rfl, (by congr 1; have := HK.out; omega), by rw [ByteArray.size_append, hz]; rfl, hT, B⟩, by simp only [RowKit.intOf]; omega⟩
    · have ek : 15 - (n : Int) = -1 := by omega
      rw [ek]
      go_wp2
      go_ret
      obtain rfl : n = 16 := by omega
      exact ⟨by rw [hS.out.1]; simp, B.out⟩
theorem sh_eq1 (bt : List UInt8) : (⟨#[115, 104, 111, 119, 32]⟩ ++ ⟨bt.toArray⟩ ++ ⟨#[10]⟩ : ByteArray) = ⟨(swT ++ 32 :: bt ++ [10]).toArray⟩ := by
  apply ByteArray.ext
  simp [ByteArray.data_append, swT]
theorem sh_eq2 (st hx : List UInt8) : (⟨#[115, 104, 111, 119, 32]⟩ ++ ⟨st.toArray⟩ ++ ⟨#[10, 115, 104, 111, 119, 32]⟩ ++ ⟨hx.toArray⟩ ++ ⟨#[10]⟩ : ByteArray) = ⟨(swT ++ 32 :: st ++ 10 :: (swT ++ 32 :: hx ++ [10])).toArray⟩ := by
  apply ByteArray.ext
  simp [ByteArray.data_append, swT]
set_option maxRecDepth 100000 in
set_option maxHeartbeats 8000000 in
theorem core_law (x : Int) (st hx bt o : List UInt8) (l1 : st.length ≤ 1000) (l2 : hx.length ≤ 1000) (l3 : bt.length = 17) (l4 : o.length ≤ 5000) (w : World) (hD : Dk w) (Sp : World → Prop) (hSp : Sp w) (hSb : ∀ (w1 w2 : World), Sp w1 → Below w1.heap.size w1 w2 → Sp w2) (nan : Bool) (hnan : (st == [110, 97, 110]) = nan)
    (HB : ∀ w', Calls Tryz.prog 16 #[.int .u64 x] w' (RetT w' bt))
    (R1 : ∀ S' w', S' = ⟨(swT ++ 32 :: bt ++ [10]).toArray⟩ → Dk w' → Calls Tryz.prog 12 #[.string S'] w' (RetT w' o))
    (F1 : ∀ w', Sp w' → Calls Tryz.prog 17 #[.string ⟨o.toArray⟩] w' fun e w2 => e = .returned (.slice (some ⟨w'.heap.size, 0, none⟩) 3 3) ∧ w2 = w'.alloc (.cells #[.string ⟨st.toArray⟩, .string ⟨hx.toArray⟩, .string ⟨bt.toArray⟩] 9))
    (LV : ∀ w', Dk w' → Calls Tryz.prog 8 #[] w' fun e w2 => e = .returned (.bool true) ∧ Below w'.heap.size w' w2)
    (R2 : nan = false → ∀ S' w', S' = ⟨(swT ++ 32 :: st ++ 10 :: (swT ++ 32 :: hx ++ [10])).toArray⟩ → Dk w' → Calls Tryz.prog 12 #[.string S'] w' fun e w2 => e = .returned (.string (⟨o.toArray⟩ ++ ⟨o.toArray⟩)) ∧ Below w'.heap.size w' w2) :
    Calls Tryz.prog 6 #[.int .u64 x] w fun e w' => e = .returned (.bool true) ∧ Below w.heap.size w w' := by
  unfold RetT at HB R1
  have HBH := Lib.hid HB
  have R1H := Lib.hid R1
  have F1H := Lib.hid F1
  have LVH := Lib.hid LV
  have R2H := Lib.hid R2
  have D0 := Lib.hid hD
  have S0 := Lib.hid hSp
  have SB := Lib.hid hSb
  clear HB R1 F1 LV R2 hD hSp hSb
  cases nan
  · replace R2H := Lib.hid (R2H.out rfl)
    have k1 : ¬ 9223372036854775807 < 5 + st.length := by omega
    have k2 : ¬ 9223372036854775807 < 5 + st.length + 6 := by omega
    have k3 : ¬ 9223372036854775807 < 5 + st.length + 6 + hx.length := by omega
    have k4 : ¬ 9223372036854775807 < 5 + st.length + 6 + hx.length + 1 := by omega
    have k5 : ¬ 9223372036854775807 < o.length + o.length := by omega
    go_enter Tryz.func6, Tryz.ntmps6
    go_wp2_with (first
      | (go_at_call 16; refine (HBH.out _).mono ?_; rintro e w1 ⟨rfl, hb⟩; have D1 := Lib.hid (D0.out.below hb); have S1 := Lib.hid (SB.out _ _ S0.out hb); have B1 := Lib.hid hb; clear hb)
      | (go_at_call 12; refine (R1H.out _ _ (sh_eq1 bt) D1.out).mono ?_; rintro e w2 ⟨rfl, hb⟩; have D2 := Lib.hid (D1.out.below hb); have S2 := Lib.hid (SB.out _ _ S1.out hb); have B2 := Lib.hid (bl_thru B1.out (Nat.le_refl _) hb); clear hb)
      | (go_at_call 17; refine (F1H.out _ S2.out).mono ?_; rintro e w3 ⟨rfl, rfl⟩; have D3 := Lib.hid (D2.out.alloc (.cells #[.string ⟨st.toArray⟩, .string ⟨hx.toArray⟩, .string ⟨bt.toArray⟩] 9)); have B3 := Lib.hid (B2.out.alloc B2.out.size (.cells #[.string ⟨st.toArray⟩, .string ⟨hx.toArray⟩, .string ⟨bt.toArray⟩] 9)))
      | (go_at_call 8; refine (LVH.out _ D3.out).mono ?_; rintro e w4 ⟨rfl, hb⟩; have D4 := Lib.hid (D3.out.below hb); have B4 := Lib.hid (bl_thru B3.out (Nat.le_refl _) hb); have c0 : w4.cell? ⟨w2.heap.size, 0, none⟩ = some (.string ⟨st.toArray⟩) := (by rw [hb.cell (p := ⟨w2.heap.size, 0, none⟩) (by simp)]; simp); have c1 : w4.cell? ⟨w2.heap.size, 1, none⟩ = some (.string ⟨hx.toArray⟩) := (by rw [hb.cell (p := ⟨w2.heap.size, 1, none⟩) (by simp)]; simp); have c2 : w4.cell? ⟨w2.heap.size, 2, none⟩ = some (.string ⟨bt.toArray⟩) := (by rw [hb.cell (p := ⟨w2.heap.size, 2, none⟩) (by simp)]; simp); clear hb))
    replace B4 := Lib.hid B4.out.drew
    have HC := Lib.hid (fun w' (hb : Below w4.heap.size w4 w') => And.intro ((hb.cell (p := ⟨w2.heap.size, 0, none⟩) (World.block_lt_of_cell? _ _ c0)).trans c0) ((hb.cell (p := ⟨w2.heap.size, 1, none⟩) (World.block_lt_of_cell? _ _ c1)).trans c1))
    have b4 : Hid (Below w4.heap.size w4 w4.drew) := Lib.hid (Below.refl _ _).drew
    replace D4 := Lib.hid D4.out.drew
    have d0 : w4.drew.cell? ⟨w2.heap.size, 0, none⟩ = some (.string ⟨st.toArray⟩) := c0
    have d1 : w4.drew.cell? ⟨w2.heap.size, 1, none⟩ = some (.string ⟨hx.toArray⟩) := c1
    first | go_region_with (first
      | (go_at_call 12; refine (R2H.out _ _ (sh_eq2 st hx) D4.out).mono ?_; rintro e w' ⟨rfl, hb⟩; have HC1 := HC.out _ (bl_thru b4.out (Nat.le_refl _) hb); obtain ⟨e0, e1⟩ := HC1; replace B4 := Lib.hid (bl_thru B4.out (Nat.le_refl _) hb); clear hb)) | fail
    all_goals
      simp only [List.getElem_toArray, List.getElem_cons_succ, List.getElem_cons_zero]
      simp only [Act.put, List.setIfInBounds_toArray, List.set_cons_zero, List.set_cons_succ]
      go_wp2
      go_ret
      exact ⟨rfl, B4.out⟩
  · go_enter Tryz.func6, Tryz.ntmps6
    go_wp2_with (first
      | (go_at_call 16; refine (HBH.out _).mono ?_; rintro e w1 ⟨rfl, hb⟩; have D1 := Lib.hid (D0.out.below hb); have S1 := Lib.hid (SB.out _ _ S0.out hb); have B1 := Lib.hid hb; clear hb)
      | (go_at_call 12; refine (R1H.out _ _ (sh_eq1 bt) D1.out).mono ?_; rintro e w2 ⟨rfl, hb⟩; have D2 := Lib.hid (D1.out.below hb); have S2 := Lib.hid (SB.out _ _ S1.out hb); have B2 := Lib.hid (bl_thru B1.out (Nat.le_refl _) hb); clear hb)
      | (go_at_call 17; refine (F1H.out _ S2.out).mono ?_; rintro e w3 ⟨rfl, rfl⟩; have D3 := Lib.hid (D2.out.alloc (.cells #[.string ⟨st.toArray⟩, .string ⟨hx.toArray⟩, .string ⟨bt.toArray⟩] 9)); have B3 := Lib.hid (B2.out.alloc B2.out.size (.cells #[.string ⟨st.toArray⟩, .string ⟨hx.toArray⟩, .string ⟨bt.toArray⟩] 9)))
      | (go_at_call 8; refine (LVH.out _ D3.out).mono ?_; rintro e w4 ⟨rfl, hb⟩; have D4 := Lib.hid (D3.out.below hb); have B4 := Lib.hid (bl_thru B3.out (Nat.le_refl _) hb); have c0 : w4.cell? ⟨w2.heap.size, 0, none⟩ = some (.string ⟨st.toArray⟩) := (by rw [hb.cell (p := ⟨w2.heap.size, 0, none⟩) (by simp)]; simp); have c1 : w4.cell? ⟨w2.heap.size, 1, none⟩ = some (.string ⟨hx.toArray⟩) := (by rw [hb.cell (p := ⟨w2.heap.size, 1, none⟩) (by simp)]; simp); have c2 : w4.cell? ⟨w2.heap.size, 2, none⟩ = some (.string ⟨bt.toArray⟩) := (by rw [hb.cell (p := ⟨w2.heap.size, 2, none⟩) (by simp)]; simp); clear hb))
    go_ret
    exact ⟨rfl, B4.out⟩
theorem fFields : Tryz.laysFields_ren.f 157 = 17 := by kernel_rfl
theorem tFields : Tryz.laysFields_ren.t 9 = 9 := by kernel_rfl
/-- strings' table of white space is there -/
def SpT (w : World) : Prop := Lib.TabIs Tryz.prog w "strings.asciiSpace" .u8 Lib.asciiSpaceTab
theorem gSpT : Tryz.prog.globalNamed "strings.asciiSpace" = some 0 := by kernel_rfl
theorem SpT.below {w w' : World} (h : SpT w) (hb : Below w.heap.size w w') : SpT w' := by
  have hs : 0 < w.heap.size := World.block_lt_of_cell? w ⟨0, 0, none⟩ (Lib.TabIs.cell h gSpT 0 (by rw [Lib.asciiSpaceTab_length]; omega))
  unfold SpT Lib.TabIs World.var? at *
  rw [gSpT] at *
  simp only [Option.bind_eq_bind, Option.bind_some] at *
  rw [hb.block _ hs]
  exact h
theorem fields3 {a b c o : List UInt8} (ha : Ns0 a) (hb : Ns0 b) (hc : Ns0 c) (a0 : a ≠ []) (b0 : b ≠ []) (c0 : c ≠ []) (ho : o = a ++ 32 :: (b ++ 32 :: (c ++ [10]))) (h8 : ∀ z ∈ o, z.toNat < 128) (hl : o.length ≤ 100000) (w : World) (hS : SpT w) :
    Calls Tryz.prog 17 #[.string ⟨o.toArray⟩] w fun e w2 => e = .returned (.slice (some ⟨w.heap.size, 0, none⟩) 3 3) ∧ w2 = w.alloc (.cells #[.string ⟨a.toArray⟩, .string ⟨b.toArray⟩, .string ⟨c.toArray⟩] 9) := by
  have h := Any.strings_Fields Tryz.laysFields (by kernel_rfl) (by kernel_rfl) ⟨o.toArray⟩ w (by show o.toArray.size < _; simp; omega) (fun j z hz => h8 z (by
    have : (⟨o.toArray⟩ : ByteArray).data.toList = o := rfl
    rw [this] at hz
    exact List.mem_of_getElem? hz)) hS
  rw [fFields, tFields] at h
  have e : Lib.fields (⟨o.toArray⟩ : ByteArray).data.toList = [a, b, c] := by
    show Lib.fields o = _
    rw [ho]; exact fields_three ha hb hc a0 b0 c0
  rw [e] at h
  exact h
theorem num_bits {x : Int} (x0 : 0 ≤ x) (x1 : x ≤ 18446744073709551615) : NumT (bitT x) x := ⟨⟨x0, x1⟩, fun S w hS hD => dnum_hash x x0 x1 S hS w hD⟩
theorem num_text {x : Int} (x0 : 0 ≤ x) (x1 : x ≤ 18446744073709551615) (hn : fcls x ≠ 5) : NumT (stT x) x := by
  obtain ⟨r1, r2, r3⟩ := short_read x0 x1 hn
  have hg := stT_gS x0 x1
  have hx := gS_x hg
  exact ⟨⟨x0, x1⟩, fun S w hS hD => dnum_dec (stT x) S hS (g_hash (gS_gG hg)) hx.1 hx.2 x r1 r2 w hD⟩
theorem num_hex {x : Int} (x0 : 0 ≤ x) (x1 : x ≤ 18446744073709551615) (hn : fcls x ≠ 5) : NumT (hxT x) x := by
  by_cases hc : 4 ≤ fcls x
  · have h4 : fcls x = 4 := by unfold fcls at *; repeat' split at hc
                               all_goals (first | omega | (repeat' split) <;> simp_all)
    have e : hxT x = stT x := by
      unfold hxT stT sgS
      rw [if_neg hn, if_pos h4, if_neg hn, if_pos h4]
      split <;> rfl
    rw [e]
    exact num_text x0 x1 hn
  · exact ⟨⟨x0, x1⟩, fun S w hS hD => dnum_hex x x0 x1 hc S hS w hD⟩
theorem nan_text {x : Int} (x0 : 0 ≤ x) (x1 : x ≤ 18446744073709551615) : (stT x == [110, 97, 110]) = decide (fcls x = 5) := by
  by_cases h : fcls x = 5
  · unfold stT; rw [if_pos h, decide_eq_true h]; rfl
  · rw [decide_eq_false h, beq_eq_false_iff_ne]
    intro e
    have h1 := (short_read x0 x1 h).2.1
    rw [e, show readV [110, 97, 110] 0 = 9221120237041090560 by decide] at h1
    rw [← h1] at h
    exact h (by decide)
theorem walkDeskBack (x : Int) (x0 : 0 ≤ x) (x1 : x ≤ 18446744073709551615) (w : World) (hD : Dk w) (hS : SpT w) :
    Calls Tryz.prog 6 #[.int .u64 x] w fun e w' => e = .returned (.bool true) ∧ Below w.heap.size w w' := by
  have l1 := stT_len x0 x1
  have l2 := hxT_len x0 x1
  have l3 := bitT_len x
  have l4 := shwT_len x0 x1
  have wa := stT_wd x0 x1
  have wb := hxT_wd x
  have wc := bitT_wd x
  have g1 := gS_gG (stT_gS x0 x1)
  have g2 := hxT_gG x
  have eo : shwT x ++ [10] = stT x ++ 32 :: (hxT x ++ 32 :: (bitT x ++ [10])) := by unfold shwT; simp
  refine core_law x (stT x) (hxT x) (bitT x) (shwT x ++ [10]) l1 l2 l3 (by rw [List.length_append]; simp; omega) w hD SpT hS (fun w1 w2 h hb => h.below hb) (decide (fcls x = 5)) (nan_text x0 x1) (fun w' => ?_) (fun S' w' hS' hD' => ?_) (fun w' hS' => ?_) deskLives_any (fun hn S' w' hS' hD' => ?_)
  · obtain ⟨u, rfl⟩ : ∃ u : Nat, x = u := ⟨x.toNat, by omega⟩
    exact hexBits_any u (by omega) w'
  · have e1 : dkP (lns 10 (swT ++ 32 :: bitT x ++ [10])) = [[swT, bitT x]] := dkL_one wc
    have h := run_any (swT ++ 32 :: bitT x ++ [10]) S' hS' (by simp [swT]; omega) [shwT x] (by rw [e1]; rfl) (by rw [e1]; simp) (fun j l o hl ho => by
      rw [e1] at hl
      match j, hl, ho with
      | 0, hl, ho => simp only [List.getElem?_cons_zero, Option.some.injEq] at hl ho; subst hl ho; exact tells_show (num_bits x0 x1)
      | (j + 1), hl, ho => simp at hl) w' hD'
    have e2 : runT [shwT x] = shwT x ++ [10] := by simp [runT]
    rw [e2] at h
    exact h
  · refine fields3 (gG_ns g1) (gG_ns g2) (bitT_ns x) wa.1 wb.1 wc.1 eo ?_ (by rw [List.length_append]; simp; omega) w' hS'
    rw [eo]
    intro z hz
    simp only [List.mem_append, List.mem_cons, List.not_mem_nil, or_false] at hz
    rcases hz with h | rfl | h | rfl | h | rfl
    · exact g_ascii g1 z h
    · decide
    · exact g_ascii g2 z h
    · decide
    · exact bitT_ascii x z h
    · decide
  · have hne : fcls x ≠ 5 := by simpa using hn
    have e1 : dkP (lns 10 (swT ++ 32 :: stT x ++ 10 :: (swT ++ 32 :: hxT x ++ [10]))) = [[swT, stT x], [swT, hxT x]] := dkL_two wa wb
    have h := run_any (swT ++ 32 :: stT x ++ 10 :: (swT ++ 32 :: hxT x ++ [10])) S' hS' (by simp [swT]; omega) [shwT x, shwT x] (by rw [e1]; rfl) (by rw [e1]; simp) (fun j l o hl ho => by
      rw [e1] at hl
      match j, hl, ho with
      | 0, hl, ho => simp only [List.getElem?_cons_zero, Option.some.injEq] at hl ho; subst hl ho; exact tells_show (num_text x0 x1 hne)
      | 1, hl, ho => simp only [List.getElem?_cons_zero, List.getElem?_cons_succ, Option.some.injEq] at hl ho; subst hl ho; exact tells_show (num_hex x0 x1 hne)
      | (j + 2), hl, ho => simp at hl) w' hD'
    have e2 : (⟨(runT [shwT x, shwT x]).toArray⟩ : ByteArray) = ⟨(shwT x ++ [10]).toArray⟩ ++ ⟨(shwT x ++ [10]).toArray⟩ := by
      apply ByteArray.ext
      simp [runT, ByteArray.data_append]
    unfold RetT at h
    rw [e2] at h
    exact h
end Go.Proofs.YthibhlimogcpeaaGreatDoor
