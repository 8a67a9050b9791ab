/-
  SOME OF MY TEXTS in one: Ga Gb. Each says what it proves.
-/
import Derived.Test.YtapdjclhpcakeaaDoorGv
import Derived.Test.YtapdjclhpcakeaaDoorUl
import Derived.Test.YtapdjclhpcakeaaDoorBx
import Derived.Deep.AppendLies
import Derived.OneCell
set_option linter.unusedVariables false
set_option linter.unusedSimpArgs false
/-
  THE WALK of grow.Add, with its own function; slices.Clip of uint64s.
-/
namespace Go.Proofs.YtapdjclhpcakeaaDoor
open Go.RowKit Nt Fm Fl

/-- out: a variable of its own at block b, and the numbers that it owns -/
def GOut (b : Nat) (o : List Int) (w : World) : Prop := ∃ v, w.heap[b]? = some (.cells #[v] 22 (0, 0)) ∧ w.ownsRow (b + 1) 23 1 v o.length (lu o)
theorem GOut.lt {b : Nat} {o : List Int} {w : World} (h : GOut b o w) : b < w.heap.size := by
  obtain ⟨v, h1, -⟩ := h; exact (Array.getElem?_eq_some_iff.1 h1).1
theorem GOut.below {b : Nat} {o : List Int} {w w' : World} (h : GOut b o w) (hb : Below w.heap.size w w') : GOut b o w' := by
  have hl := h.lt
  obtain ⟨v, h1, h2⟩ := h
  exact ⟨v, (hb.block b hl).trans h1, own_below h2 hb⟩
theorem own_same {w w' : World} {base n : Nat} {T : TypeId} {v : Value} {xs : List Value} (h : w.ownsRow base T 1 v n xs) (hs : ∀ g, base ≤ g → w'.heap[g]? = w.heap[g]?) : w'.ownsRow base T 1 v n xs := by
  refine ⟨h.1, ?_⟩
  rcases h.2 with h0 | ⟨g, cap, cur, rfl, h1, hg, h2⟩
  · exact Or.inl h0
  · exact Or.inr ⟨g, cap, cur, rfl, h1, by rw [hs g h1]; exact hg, h2⟩
theorem clip64_any (ao : Option Addr) (n cap : Nat) (w : World) (h : n ≤ cap) (hm : cap ≤ 9223372036854775807) :
    Calls Tryd.prog 112 #[.slice ao n cap] w fun e w' => e = .returned (.slice ao n n) ∧ w = w' := by
  go_enter Tryd.func112, Tryd.ntmps112
  go_wp2
  go_ret
  exact ⟨by simp, rfl⟩
theorem LU.clip {w : World} {ao : Option Addr} {n cap : Nat} {l : List Int} (h : LU w (.slice ao n cap) l) : n ≤ cap ∧ cap ≤ 9223372036854775807 ∧ LU w (.slice ao n n) l := by
  obtain ⟨h1, ao', cap', h2, h3, h4, h5⟩ := h
  obtain ⟨rfl, rfl, rfl⟩ : ao = ao' ∧ n = l.length ∧ cap = cap' := by simpa using h2
  have h4' := h4
  unfold maxLen at h4'
  exact ⟨h3, by omega, h1, ao, l.length, rfl, Nat.le_refl _, by omega, h5⟩
/-- what the own function does -/
def addO (o : List Int) (h : Int) : List Int := if fcls h = 1 then o else o ++ [h]
set_option maxRecDepth 100000 in
set_option maxHeartbeats 4000000 in
theorem gadd1_any (h : Int) (h0 : 0 ≤ h) (h1 : h ≤ 18446744073709551615) (b : Nat) (o : List Int) (w : World) (hg : GOut b o w) (hl : o.length ≤ 1000) :
    Calls Tryd.prog 111 #[.int .u64 h, .pointer (some ⟨b, 0, none⟩)] w fun e w' => e = .returned (.tuple #[]) ∧ GOut b (addO o h) w' ∧ Below b w w' := by
  have hcl := fun w' => class_any h h0 h1 w'
  by_cases hz : fcls h = 1
  · have e : addO o h = o := by unfold addO; rw [if_pos hz]
    rw [e]
    rw [hz] at hcl
    have HCL := Lib.hid hcl
    have HG := Lib.hid hg
    clear e hcl hz hg
    go_enter Tryd.func111, Tryd.ntmps111
    go_wp2_with (go_at_call 25; (refine (HCL.out _).mono ?_); rintro e w' ⟨rfl, rfl⟩)
    go_end0
    exact ⟨rfl, HG.out, Below.refl _ _⟩
  · have e : addO o h = o ++ [h] := by unfold addO; rw [if_neg hz]
    rw [e]
    have hzb : (fcls h != 1) = true := by rw [bne_iff_ne]; exact hz
    have hbl := hg.lt
    obtain ⟨v, hv, hown⟩ := hg
    have hcell := cell_of_one hv
    have hfree := free_of_one hv
    have HV := Lib.hid hv
    have HO := Lib.hid hown
    obtain ⟨i0, hi, hz0, hz1, hz2⟩ := info_parts infoU64
    have HI := Lib.hid hi
    have HZ0 := Lib.hid hz0
    have HZ1 := Lib.hid hz1
    have HZ2 := Lib.hid hz2
    have HCL := Lib.hid hcl
    generalize fcls h = K at *
    clear e hcl hz hv hown hi hz0 hz1 hz2
    go_enter Tryd.func111, Tryd.ntmps111
    go_wp2_with (first
      | (go_at_call 25; (refine (HCL.out _).mono ?_); rintro e w' ⟨rfl, rfl⟩)
      | (at_builtin; refine wpList_append_lies _ rfl _ _ 22 rfl (b + 1) 23 i0 (.int .u64 0) 1 8 Tryd.underlying22 HI.out HZ0.out HZ1.out HZ2.out rfl (by decide) _ _ _ rfl (own_below HO.out ((Below.refl w.heap.size w).alloc (Nat.le_refl _) (.cells #[.int .u64 h] 23))) ⟨w.heap.size, 0, none⟩ 1 1 [.int .u64 h] rfl rfl (World.news_of_block (heap_alloc_new w _)) ?q2 (by decide) ?q3 ?q4 ?q5 _ rfl ?_))
    case q2 => intro u hu; simp at hu; subst hu; rfl
    case q3 => unfold maxLen; omega
    case q4 => omega
    case q5 => simp; omega
    intro g7 cap7 w7 hown hgrow hat hlt7
    have O7 := Lib.hid hown
    have G7 : Hid (w7.heap[b]? = some (.cells #[v] 22 (0, 0))) := Lib.hid (by
      rw [hgrow.block b (by simp; omega) (by intro hh; have := own_ge HO.out b hh.symm; omega)]
      rw [((Below.refl w.heap.size w).alloc (Nat.le_refl _) (.cells #[.int .u64 h] 23)).block b hbl]; exact HV.out)
    have B7 : Hid (Below b w w7) := Lib.hid (((Below.refl b w).alloc (by omega) _).grown hgrow (by simp; omega) (fun k hk => by have := own_ge HO.out k hk; omega))
    have c7 := cell_of_one G7.out
    have f7 := free_of_one G7.out
    clear hown hgrow hat hlt7
    go_wp2
    go_end0
    refine ⟨rfl, ⟨_, one_setCell G7.out, ?_⟩, B7.out.setCell (Nat.le_refl _) _⟩
    have := O7.out
    rw [show lu (o ++ [h]) = lu o ++ [.int .u64 h] from by simp [lu], List.length_append]
    exact own_same this (fun g hgb => Below.heap_setCell _ _ _ _ (by simp; omega))
end Go.Proofs.YtapdjclhpcakeaaDoor

/-
  THE WALK of grow.Add.
-/
namespace Go.Proofs.YtapdjclhpcakeaaDoor
open Go.RowKit Nt Fm Fl

/-- what is carried, and what is laid down, behind k of them -/
def gaQ (l : List Int) (x : Int) : Nat → Int
  | 0 => x
  | k + 1 => tsS (gaQ l x k) (l.getD k 0)
def gaO (l : List Int) (x : Int) : Nat → List Int
  | 0 => []
  | k + 1 => addO (gaO l x k) (tsR (gaQ l x k) (l.getD k 0))
def gaOk (l : List Int) (x : Int) : Nat → Bool
  | 0 => true
  | k + 1 => gaOk l x k && decide (tsE (gaQ l x k) (l.getD k 0) = 0)
def gaE (l : List Int) (x : Int) : Int := if gcE l = 0 then (if hasV x = true then (if gaOk l x l.length = true then 0 else 2) else 4) else gcE l
def gaL (l : List Int) (x : Int) : List Int := if gaE l x = 0 then addO (gaO l x l.length) (gaQ l x l.length) else []
theorem getD_bd {l : List Int} (hu : ∀ d ∈ l, 0 ≤ d ∧ d ≤ 18446744073709551615) (k : Nat) : 0 ≤ l.getD k 0 ∧ l.getD k 0 ≤ 18446744073709551615 := by
  by_cases h : k < l.length
  · have e : l.getD k 0 = l[k] := by simp [List.getD, h]
    rw [e]; exact hu _ (List.getElem_mem h)
  · have e : l.getD k 0 = 0 := by simp [List.getD, List.getElem?_eq_none (Nat.le_of_not_lt h)]
    rw [e]; omega
theorem gaQ_bd {l : List Int} {x : Int} (hu : ∀ d ∈ l, 0 ≤ d ∧ d ≤ 18446744073709551615) (x0 : 0 ≤ x) (x1 : x ≤ 18446744073709551615) : ∀ k, 0 ≤ gaQ l x k ∧ gaQ l x k ≤ 18446744073709551615
  | 0 => ⟨x0, x1⟩
  | k + 1 => by
    have a := gaQ_bd hu x0 x1 k
    have b := getD_bd hu k
    exact tsS_bd a.1 a.2 b.1 b.2
theorem addO_len (o : List Int) (h : Int) : (addO o h).length ≤ o.length + 1 := by unfold addO; split <;> simp
theorem addO_mem {o : List Int} {h : Int} (ho : ∀ d ∈ o, 0 ≤ d ∧ d ≤ 18446744073709551615) (h0 : 0 ≤ h) (h1 : h ≤ 18446744073709551615) : ∀ d ∈ addO o h, 0 ≤ d ∧ d ≤ 18446744073709551615 := by
  unfold addO; split
  · exact ho
  · intro d hd
    rcases List.mem_append.1 hd with h2 | h2
    · exact ho d h2
    · simp at h2; subst h2; exact ⟨h0, h1⟩
theorem gaO_len (l : List Int) (x : Int) : ∀ k, (gaO l x k).length ≤ k
  | 0 => Nat.le_refl _
  | k + 1 => by have := gaO_len l x k; have := addO_len (gaO l x k) (tsR (gaQ l x k) (l.getD k 0)); show (addO _ _).length ≤ _; omega
theorem gaO_mem {l : List Int} {x : Int} (hu : ∀ d ∈ l, 0 ≤ d ∧ d ≤ 18446744073709551615) (x0 : 0 ≤ x) (x1 : x ≤ 18446744073709551615) : ∀ k, ∀ d ∈ gaO l x k, 0 ≤ d ∧ d ≤ 18446744073709551615
  | 0 => fun d hd => by cases hd
  | k + 1 => by
    have a := gaQ_bd hu x0 x1 k
    have b := getD_bd hu k
    have c := tsR_bd a.1 a.2 b.1 b.2
    exact addO_mem (gaO_mem hu x0 x1 k) c.1 c.2
theorem gaL_mem {l : List Int} {x : Int} (hu : ∀ d ∈ l, 0 ≤ d ∧ d ≤ 18446744073709551615) (x0 : 0 ≤ x) (x1 : x ≤ 18446744073709551615) : ∀ d ∈ gaL l x, 0 ≤ d ∧ d ≤ 18446744073709551615 := by
  unfold gaL; split
  · have a := gaQ_bd hu x0 x1 l.length
    exact addO_mem (gaO_mem hu x0 x1 _) a.1 a.2
  · intro d hd; cases hd
theorem gaOk_not {l : List Int} {x : Int} {k : Nat} (h : tsE (gaQ l x k) (l.getD k 0) ≠ 0) : ∀ n, k < n → gaOk l x n = false
  | 0, hn => by omega
  | n + 1, hn => by
    show (gaOk l x n && _) = false
    by_cases hk : k = n
    · subst hk; rw [decide_eq_false h, Bool.and_false]
    · rw [gaOk_not h n (by omega), Bool.false_and]
theorem gcE_len' {l : List Int} (h : gcE l = 0) : l.length ≤ 60 := by
  unfold gcE at h
  split at h
  · omega
  · omega
theorem LU.nil (w : World) : LU w (.slice none 0 0) [] := ⟨(fun d hd => by cases hd), none, 0, rfl, Nat.le_refl _, Nat.zero_le _, Or.inl (Nat.le_refl _)⟩
/-- a call that tells some numbers and an error -/
def RetL (w : World) (E : Int) (L : List Int) (e : Ending) (w' : World) : Prop := ∃ v, e = .returned (.tuple #[v, .int .i64 E]) ∧ LU w' v L ∧ Below w.heap.size w w'
theorem LU.shape {w : World} {v : Value} {l : List Int} (h : LU w v l) : ∃ (ao : Option Addr) (c : Nat), v = .slice ao l.length c := by
  obtain ⟨_, ao, c, h, _⟩ := h; exact ⟨ao, c, h⟩
set_option maxRecDepth 100000 in
set_option maxHeartbeats 16000000 in
theorem gadd_any (v : Value) (l : List Int) (x : Int) (w : World) (hT : Tab w) (hv : LU w v l) (x0 : 0 ≤ x) (x1 : x ≤ 18446744073709551615) :
    Calls Tryd.prog 58 #[v, .int .u64 x] w (RetL w (gaE l x) (gaL l x)) := by
  have hck := gcheck_any v l w hT hv
  have hhv := fun w' => hasValue_any x x0 x1 w'
  obtain ⟨hu, ao, cap, rfl, hcap, hmx, hc⟩ := hv
  unfold maxLen at hmx
  have HT := Lib.hid hT
  clear hT
  by_cases hg : gcE l = 0
  · have hlen := gcE_len' hg
    rw [hg] at hck
    have HCK := Lib.hid hck
    cases hvx : hasV x
    · have e : gaE l x = 4 := by unfold gaE; rw [if_pos hg, hvx]; rfl
      have e2 : gaL l x = [] := by unfold gaL; rw [e]; rfl
      rw [e, e2]
      rw [hvx] at hhv
      have HHV := Lib.hid hhv
      clear hck hhv e e2 hg hvx hu hc
      go_enter Tryd.func58, Tryd.ntmps58
      go_wp2_with fail
      refine HCK.out.mono ?_
      rintro r w1 ⟨rfl, hb⟩
      have B1 : Hid (Below w.heap.size w w1) := Lib.hid hb
      clear hb
      go_wp2_with (go_at_call 73; (refine (HHV.out _).mono ?_); rintro e w' ⟨rfl, rfl⟩)
      go_ret2
      exact ⟨_, rfl, LU.nil _, B1.out⟩
    · rw [hvx] at hhv
      have HHV := Lib.hid hhv
      have hqb := gaQ_bd hu x0 x1
      have hfin : gaOk l x l.length = true → gaE l x = 0 ∧ gaL l x = addO (gaO l x l.length) (gaQ l x l.length) := fun h => by
        have e : gaE l x = 0 := by unfold gaE; rw [if_pos hg, if_pos hvx, if_pos h]
        exact ⟨e, by unfold gaL; rw [if_pos e]⟩
      have hno : ∀ k, k < l.length → tsE (gaQ l x k) (l.getD k 0) ≠ 0 → gaE l x = 2 ∧ gaL l x = [] := fun k hk h => by
        have e : gaE l x = 2 := by unfold gaE; rw [if_pos hg, if_pos hvx, gaOk_not h _ hk]; rfl
        exact ⟨e, by unfold gaL; rw [e]; rfl⟩
      have HFIN := Lib.hid hfin
      have HNO := Lib.hid hno
      have HQB := Lib.hid hqb
      have HOM := Lib.hid (gaO_mem hu x0 x1)
      have HU := Lib.hid hu
      have HC := Lib.hid hc
      clear hck hhv hfin hno hqb hu hc hg hvx
      go_enter Tryd.func58, Tryd.ntmps58
      go_wp2_with fail
      refine HCK.out.mono ?_
      rintro r w1 ⟨rfl, hb⟩
      have B1 : Hid (Below w.heap.size w w1) := Lib.hid hb
      have hz1 := hb.size
      clear hb
      go_wp2_with (go_at_call 73; (refine (HHV.out _).mono ?_); rintro e w' ⟨rfl, rfl⟩)
      have G1 : Hid (GOut w1.heap.size [] (w1.alloc (.cells #[.slice none 0 0] 22))) := Lib.hid ⟨_, heap_alloc_new w1 _, rfl, Or.inl ⟨rfl, rfl⟩⟩
      have BA1 : Hid (Below w.heap.size w (w1.alloc (.cells #[.slice none 0 0] 22))) := Lib.hid (B1.out.alloc B1.out.size _)
      go_loopw [9, 27] (fun q i wr => ∃ k : Nat, k ≤ l.length ∧ i = .int .i64 k ∧ q = .int .u64 (gaQ l x k) ∧ Hid (gaOk l x k = true) ∧ Hid (GOut w1.heap.size (gaO l x k) wr) ∧ Hid (Below w.heap.size w wr)) (fun _ i _ => l.length - (intOf i).toNat)
      case atStart => exact ⟨0, Nat.zero_le _, rfl, rfl, Lib.hid rfl, G1, BA1⟩
      case round =>
        obtain ⟨k, hk, rfl, rfl, HK, HG, HB⟩ := hrel
        have hol := gaO_len l x k
        obtain ⟨q0, q1⟩ := HQB.out k
        by_cases hlt : k < l.length
        · obtain ⟨y, hy⟩ : ∃ y, y = l.getD k 0 := ⟨_, rfl⟩
          obtain ⟨y0, y1⟩ := getD_bd HU.out k
          rw [← hy] at y0 y1
          have hcx : ∃ b off, ao = some ⟨b, off, none⟩ ∧ wr.cell? ⟨b, off + k, none⟩ = some (.int .u64 y) := by
            rcases HC.out with h | ⟨b, off, h1, h2, h3⟩
            · omega
            · exact ⟨b, off, h1, by rw [hy]; exact (HB.out.cell (p := ⟨b, off + k, none⟩) h2).trans (h3 k hlt)⟩
          obtain ⟨b, off, rfl, hcx⟩ := hcx
          have kb : (k : Int) < (l.length : Int) := by omega
          have hts := fun w' h => twoSum_any (gaQ l x k) y q0 q1 y0 y1 w' h
          obtain ⟨r0, r1⟩ := tsR_bd q0 q1 y0 y1
          by_cases he : tsE (gaQ l x k) y = 0
          · have hok : gaOk l x (k + 1) = true := by
              show (gaOk l x k && _) = true
              rw [HK.out, ← hy, decide_eq_true he]; rfl
            have hq2 : gaQ l x (k + 1) = tsS (gaQ l x k) y := by rw [hy]; rfl
            have ho2 : gaO l x (k + 1) = addO (gaO l x k) (tsR (gaQ l x k) y) := by rw [hy]; rfl
            rw [he] at hts
            have HOK := Lib.hid hok
            have HQ2 := Lib.hid hq2
            have HO2 := Lib.hid ho2
            have HTS := Lib.hid hts
            generalize tsS (gaQ l x k) y = s at *
            generalize tsR (gaQ l x k) y = r at *
            generalize gaO l x k = o at *
            generalize gaQ l x k = q at *
            clear hok hq2 ho2 hts he hy
            go_wp2_with fail
            refine (HTS.out _ (HT.out.below HB.out)).mono ?_
            rintro r' w3 ⟨rfl, hb⟩
            have B3 : Hid (Below w.heap.size w w3) := Lib.hid (bl_thru HB.out (Nat.le_refl _) hb)
            have G3 := Lib.hid (HG.out.below hb)
            clear hb
            go_wp2_with fail
            refine (gadd1_any r r0 r1 w1.heap.size o w3 G3.out (by omega)).mono ?_
            rintro e w4 ⟨rfl, hg4, hb⟩
            have B4 : Hid (Below w.heap.size w w4) := Lib.hid (B3.out.trans (hb.mono hz1))
            have G4 := Lib.hid hg4
            clear hg4 hb
            go_wp2
            go_roundw
            case rel => exact ⟨k + 1, by omega, by go_num, by rw [HQ2.out], HOK, Lib.hid (by rw [HO2.out]; exact G4.out), B4⟩
            case measure => simp [intOf]; omega
          · obtain ⟨e1, e2⟩ := HNO.out k hlt (by rw [← hy]; exact he)
            have heb : (tsE (gaQ l x k) y != 0) = true := by rw [bne_iff_ne]; exact he
            have E1 := Lib.hid e1
            have E2 := Lib.hid e2
            have HTS := Lib.hid hts
            generalize tsS (gaQ l x k) y = s at *
            generalize tsR (gaQ l x k) y = r at *
            generalize tsE (gaQ l x k) y = E at *
            generalize gaQ l x k = q at *
            clear hts he hy e1 e2
            go_wp2_with fail
            refine (HTS.out _ (HT.out.below HB.out)).mono ?_
            rintro r' w3 ⟨rfl, hb⟩
            have B3 : Hid (Below w.heap.size w w3) := Lib.hid (bl_thru HB.out (Nat.le_refl _) hb)
            clear hb
            go_wp2
            go_ret2
            exact ⟨.slice none 0 0, by rw [E1.out]; rfl, by rw [E2.out]; exact LU.nil _, B3.out⟩
        · have hke : k = l.length := by omega
          subst hke
          obtain ⟨e1, e2⟩ := HFIN.out HK.out
          have E1 := Lib.hid e1
          have E2 := Lib.hid e2
          have hom := addO_mem (HOM.out l.length) q0 q1
          have HM := Lib.hid hom
          generalize gaO l x l.length = o at *
          generalize gaQ l x l.length = q at *
          clear e1 e2 hom
          go_wp2_with fail
          refine (gadd1_any q q0 q1 w1.heap.size o wr HG.out (by omega)).mono ?_
          rintro e w4 ⟨rfl, hg4, hb⟩
          have B4 : Hid (Below w.heap.size w w4) := Lib.hid (HB.out.trans (hb.mono hz1))
          obtain ⟨v4, hv4, hown⟩ := hg4
          have hc4 := cell_of_one hv4
          have hlu := own_lu hown HM.out
          obtain ⟨a4, k4, rfl⟩ := hlu.shape
          obtain ⟨g1, g2, hlu2⟩ := hlu.clip
          have HL := Lib.hid hlu2
          clear hv4 hown hlu hlu2 hb
          go_wp2_with (go_at_call 112; (refine (clip64_any _ _ _ _ g1 g2).mono ?_); rintro e w' ⟨rfl, rfl⟩)
          go_ret2
          exact ⟨.slice a4 _ _, by rw [E1.out]; rfl, by rw [E2.out]; exact HL.out, B4.out⟩
  · have e : gaE l x = gcE l := by unfold gaE; rw [if_neg hg]
    have e2 : gaL l x = [] := by unfold gaL; rw [e, if_neg hg]
    rw [e, e2]
    have hgb : (gcE l != 0) = true := by rw [bne_iff_ne]; exact hg
    have HCK := Lib.hid hck
    generalize gcE l = E at *
    clear hck hhv e e2 hg hu hc
    go_enter Tryd.func58, Tryd.ntmps58
    go_wp2_with fail
    refine HCK.out.mono ?_
    rintro r w1 ⟨rfl, hb⟩
    have B1 : Hid (Below w.heap.size w w1) := Lib.hid hb
    clear hb
    go_wp2
    go_ret2
    exact ⟨_, rfl, LU.nil _, B1.out⟩
end Go.Proofs.YtapdjclhpcakeaaDoor
