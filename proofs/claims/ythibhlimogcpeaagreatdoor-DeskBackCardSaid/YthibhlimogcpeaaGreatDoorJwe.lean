/-
  SOME OF MY TEXTS in one: Jw Je Jn Jt. Each says what it proves.
-/
import Derived.Test.YthibhlimogcpeaaGreatDoorJab
import Derived.Test.YthibhlimogcpeaaGreatDoorYhi
import Derived.Test.YthibhlimogcpeaaGreatDoorHg
import Derived.Lib.Fields
import Derived.Test.YthibhlimogcpeaaGreatDoorJcd
import Derived.Test.YthibhlimogcpeaaGreatDoorFx
import Derived.Test.YthibhlimogcpeaaGreatDoorZu
import Derived.Test.YthibhlimogcpeaaGreatDoorYjk
import Derived.WalkLawsBesides
import Derived.Test.YthibhlimogcpeaaGreatDoorBp
import Derived.Test.YthibhlimogcpeaaGreatDoorSno
import Derived.ChangeMaps4
import Derived.ChangeMaps5
import Derived.Deep.RegionHeld3
set_option linter.unusedVariables false
set_option linter.unusedSimpArgs false
/-
  PLAIN: what is told of a number is a word (no blank, no end of a line, no ';'), and where it begins.
-/
namespace Go.Proofs.YthibhlimogcpeaaGreatDoor
open Go.Lib Nt Fm Fl

def gG (c : UInt8) : Bool := decide (42 < c.toNat) && decide (c.toNat < 128) && decide (c.toNat ≠ 59)
def gS (c : UInt8) : Bool := gG c && decide (c.toNat ≠ 120)
theorem gS_gG {l : List UInt8} (h : l.all gS = true) : l.all gG = true := by
  rw [List.all_eq_true] at *
  intro c hc
  have := h c hc
  unfold gS at this
  rw [Bool.and_eq_true] at this
  exact this.1
theorem gS_dgt {l : List UInt8} (h : ∀ c ∈ l, dgt c) : l.all gS = true := by
  rw [List.all_eq_true]
  intro c hc
  have := h c hc
  unfold dgt at this
  simp only [gS, gG, Bool.and_eq_true, decide_eq_true_eq]
  omega
theorem gS_take {l : List UInt8} (k : Nat) (h : l.all gS = true) : (l.take k).all gS = true := by
  rw [List.all_eq_true] at *
  exact fun c hc => h c (List.mem_of_mem_take hc)
theorem gS_drop {l : List UInt8} (k : Nat) (h : l.all gS = true) : (l.drop k).all gS = true := by
  rw [List.all_eq_true] at *
  exact fun c hc => h c (List.mem_of_mem_drop hc)
theorem g_wd {l : List UInt8} (h0 : l ≠ []) (h : l.all gG = true) : Wd l := by
  refine ⟨h0, fun b hb => ?_⟩
  have := List.all_eq_true.1 h b hb
  simp only [gG, Bool.and_eq_true, decide_eq_true_eq] at this
  refine ⟨?_, ?_, ?_, ?_⟩ <;> (rintro rfl; revert this; decide)
theorem g_ascii {l : List UInt8} (h : l.all gG = true) : ∀ b ∈ l, b.toNat < 128 := by
  intro b hb
  have := List.all_eq_true.1 h b hb
  simp only [gG, Bool.and_eq_true, decide_eq_true_eq] at this
  exact this.1.2
theorem bitT_ascii (x : Int) : ∀ b ∈ bitT x, b.toNat < 128 := by
  intro b hb
  simp [bitT] at hb
  rcases hb with rfl | hb
  · decide
  · have := hdg_hx 16 _ b hb
    unfold IsHx at this; omega
theorem g_hash {l : List UInt8} (h : l.all gG = true) : Lib.hasPrefix l [35] = false := by
  cases l with
  | nil => rfl
  | cons b t =>
    simp only [List.all_cons, Bool.and_eq_true, gG, decide_eq_true_eq] at h
    simp only [Lib.hasPrefix, List.isPrefixOf, Bool.and_true]
    rw [beq_eq_false_iff_ne]
    rintro rfl
    revert h
    simp
theorem gS_x {l : List UInt8} (h : l.all gS = true) : Lib.hasPrefix l [48, 120] = false ∧ Lib.hasPrefix l [45, 48, 120] = false := by
  have hx : ∀ t : List UInt8, t.all gS = true → [120].isPrefixOf t = false := by
    intro t ht
    cases t with
    | nil => rfl
    | cons b t =>
      simp only [List.all_cons, Bool.and_eq_true, gS, decide_eq_true_eq] at ht
      simp only [List.isPrefixOf, Bool.and_true]
      rw [beq_eq_false_iff_ne]
      rintro rfl
      exact ht.1.2 rfl
  have h2 : ∀ t : List UInt8, t.all gS = true → [48, 120].isPrefixOf t = false := by
    intro t ht
    cases t with
    | nil => rfl
    | cons b t =>
      simp only [List.all_cons, Bool.and_eq_true] at ht
      have := hx t ht.2
      simp only [List.isPrefixOf] at this ⊢
      rw [this, Bool.and_false]
  refine ⟨h2 l h, ?_⟩
  cases l with
  | nil => rfl
  | cons b t =>
    simp only [List.all_cons, Bool.and_eq_true] at h
    have := h2 t h.2
    simp only [Lib.hasPrefix, List.isPrefixOf] at this ⊢
    rw [this, Bool.and_false]
theorem gS_dec (n : Nat) : (Lib.decDigits n).all gS = true := gS_dgt (dec_dgt n)
theorem gS_rep (n : Nat) : (List.replicate n (48 : UInt8)).all gS = true := gS_dgt (fun c hc => by rw [List.eq_of_mem_replicate hc]; exact ⟨by decide, by decide⟩)
theorem gS_sg (x : Int) : (sgS x).all gS = true := by unfold sgS; split <;> decide
theorem gS_pw (p : Int) : (pwS p).all gS = true := by
  unfold pwS
  rw [List.all_cons, List.all_append, gS_dec]
  split <;> split <;> decide
theorem gS_stB {d : List UInt8} (h : d.all gS = true) (k : Int) : (stB d k).all gS = true := by
  unfold stB
  have hp : ∀ l : List UInt8, l.all gS = true → (46 :: l).all gS = true := fun l hl => by rw [List.all_cons, hl]; decide
  have he : ∀ l : List UInt8, l.all gS = true → (101 :: l).all gS = true := fun l hl => by rw [List.all_cons, hl]; decide
  split
  · rw [List.all_append, List.all_append, gS_take 1 h, he _ (gS_pw _)]
    split
    · rw [hp _ (gS_drop 1 h)]; rfl
    · rfl
  · split
    · rw [List.all_append, h, gS_rep]; rfl
    · split
      · rw [List.all_append, gS_take _ h, hp _ (gS_drop _ h)]; rfl
      · rw [List.all_cons, List.all_cons, List.all_append, h, gS_rep]; decide
theorem stT_gS {x : Int} (x0 : 0 ≤ x) (x1 : x ≤ 18446744073709551615) : (stT x).all gS = true := by
  unfold stT
  split
  · decide
  · rw [List.all_append, gS_sg, Bool.true_and]
    split
    · decide
    · rename_i h5 h4
      split
      · decide
      · rename_i h1
        have hx : 1 ≤ fabs x := by
          have hab := fabs_bd x
          unfold fcls at h1
          split at h1
          · exact absurd rfl h1
          · omega
        exact gS_stB (gS_dgt (shT_facts x0 x1 hx).1) _
theorem stT_wd {x : Int} (x0 : 0 ≤ x) (x1 : x ≤ 18446744073709551615) : Wd (stT x) := by
  refine g_wd ?_ (gS_gG (stT_gS x0 x1))
  by_cases h5 : fcls x = 5
  · unfold stT; rw [if_pos h5]; simp
  · intro e
    have := (short_read x0 x1 h5).1
    rw [e] at this
    revert this
    decide
theorem hexd_gG (d : Nat) : gG (hexd (d % 16)) = true := by
  have hd := Nat.mod_lt d (show 0 < 16 by omega)
  generalize d % 16 = e at *
  have : e = 0 ∨ e = 1 ∨ e = 2 ∨ e = 3 ∨ e = 4 ∨ e = 5 ∨ e = 6 ∨ e = 7 ∨ e = 8 ∨ e = 9 ∨ e = 10 ∨ e = 11 ∨ e = 12 ∨ e = 13 ∨ e = 14 ∨ e = 15 := by omega
  rcases this with h | h | h | h | h | h | h | h | h | h | h | h | h | h | h | h <;> subst h <;> decide
theorem hxD_gG (M : Nat) : ∀ k, (hxD M k).all gG = true
  | 0 => rfl
  | k + 1 => by rw [hxD, List.all_cons, hexd_gG, hxD_gG M k]; rfl
theorem itoa_gG (p : Int) : (Lib.itoa p).all gG = true := by
  unfold Lib.itoa
  split
  · rw [List.all_cons, gS_gG (gS_dec _)]; decide
  · exact gS_gG (gS_dec _)
theorem hxW_gG (x : Int) (d : D) (p : Nat) : (hxW x d p).all gG = true := by
  unfold hxW
  rw [List.all_append]
  have h1 : (hxP x).all gG = true := by unfold hxP; split <;> decide
  rw [h1, Bool.true_and]
  split
  · rw [List.all_append, List.all_append]
    split
    · rw [List.all_append, gS_gG (gS_rep p)]; decide
    · decide
  · rw [List.all_append, List.all_append, List.all_append, hxD_gG]
    have h2 : (hxE (hxp d)).all gG = true := by
      unfold hxE
      rw [List.all_append, itoa_gG]
      split <;> decide
    rw [h2]
    split <;> decide
theorem hxT_gG (x : Int) : (hxT x).all gG = true := by
  unfold hxT
  split
  · decide
  · split
    · split <;> decide
    · exact hxW_gG _ _ _
theorem hxT_wd (x : Int) : Wd (hxT x) := by
  refine g_wd ?_ (hxT_gG x)
  unfold hxT
  split
  · simp
  · split
    · split <;> simp
    · unfold hxW hxP; split <;> simp
theorem stT_len {x : Int} (x0 : 0 ≤ x) (x1 : x ≤ 18446744073709551615) : (stT x).length ≤ 1000 := by
  by_cases h5 : fcls x = 5
  · unfold stT; rw [if_pos h5]; decide
  · exact (short_read x0 x1 h5).2.2
theorem hxT_len {x : Int} (x0 : 0 ≤ x) (x1 : x ≤ 18446744073709551615) : (hxT x).length ≤ 1000 := by
  unfold hxT
  split
  · decide
  · split
    · split <;> decide
    · obtain ⟨f1, f2, f3, f4, f5⟩ := valD_facts x x0 x1
      have hb53 : blen (valD x).m ≤ 53 := blen_le_of f2
      have hq : hxq (valD x) ≤ 14 := by unfold hxq; omega
      obtain ⟨t1, t2, whole, t3, r, part, t4, t5, t6, power, rest, neg, ok, pt, pb, down, up, P, hbad, hneg, hlen, hv, hc⟩ := write_back x (valD x) (hxq (valD x)) (by omega) (by unfold hxq; omega) (by unfold hxp; omega)
      omega
theorem bitT_len (x : Int) : (bitT x).length = 17 := by simp [bitT, hdg_len]

/-- no white space -/
def Ns0 (l : List UInt8) : Prop := ∀ b ∈ l, isSp b = false
theorem gG_ns {l : List UInt8} (h : l.all gG = true) : Ns0 l := by
  intro b hb
  have := List.all_eq_true.1 h b hb
  simp only [gG, Bool.and_eq_true, decide_eq_true_eq] at this
  unfold isSp
  simp only [Bool.or_eq_false_iff, beq_eq_false_iff_ne]
  refine ⟨⟨⟨⟨⟨?_, ?_⟩, ?_⟩, ?_⟩, ?_⟩, ?_⟩ <;> (rintro rfl; revert this; decide)
theorem bitT_ns (x : Int) : Ns0 (bitT x) := by
  intro b hb
  simp [bitT] at hb
  rcases hb with rfl | hb
  · decide
  · have := hdg_hx 16 _ b hb
    unfold IsHx at this
    unfold isSp
    simp only [Bool.or_eq_false_iff, beq_eq_false_iff_ne]
    refine ⟨⟨⟨⟨⟨?_, ?_⟩, ?_⟩, ?_⟩, ?_⟩, ?_⟩ <;> (rintro rfl; revert this; decide)
theorem fgo_skip : ∀ (m cur t : List UInt8), Ns0 m → fieldsGo cur (m ++ t) = fieldsGo (cur ++ m) t
  | [], cur, t, _ => by simp
  | b :: m, cur, t, h => by
    rw [List.cons_append, fieldsGo, h b (by simp), if_neg (by simp), fgo_skip m _ t (fun c hc => h c (by simp [hc]))]
    simp
theorem fields_three {a b c : List UInt8} (ha : Ns0 a) (hb : Ns0 b) (hc : Ns0 c) (a0 : a ≠ []) (b0 : b ≠ []) (c0 : c ≠ []) : Lib.fields (a ++ 32 :: (b ++ 32 :: (c ++ [10]))) = [a, b, c] := by
  have e32 : isSp 32 = true := rfl
  have e10 : isSp 10 = true := rfl
  unfold Lib.fields
  rw [fgo_skip a [] _ ha, List.nil_append, fieldsGo, if_pos e32, if_neg (by simpa using a0), fgo_skip b [] _ hb, List.nil_append, fieldsGo, if_pos e32, if_neg (by simpa using b0), fgo_skip c [] _ hc, List.nil_append, fieldsGo, if_pos e10, if_neg (by simpa using c0)]
  rfl
theorem hx_has {c : UInt8} (h : IsHx c) : List.contains [48, 49, 50, 51, 52, 53, 54, 55, 56, 57, 97, 98, 99, 100, 101, 102] c = true := by
  obtain ⟨n, hn⟩ : ∃ n, n = c.toNat := ⟨_, rfl⟩
  have e : c = UInt8.ofNat n := by rw [hn]; simp
  unfold IsHx at h
  rw [← hn] at h
  have : n = 48 ∨ n = 49 ∨ n = 50 ∨ n = 51 ∨ n = 52 ∨ n = 53 ∨ n = 54 ∨ n = 55 ∨ n = 56 ∨ n = 57 ∨ n = 97 ∨ n = 98 ∨ n = 99 ∨ n = 100 ∨ n = 101 ∨ n = 102 := by omega
  rcases this with h | h | h | h | h | h | h | h | h | h | h | h | h | h | h | h <;> (subst h; rw [e]; decide)
theorem hxT_pre {x : Int} (hc : ¬ 4 ≤ fcls x) : (Lib.hasPrefix (hxT x) [48, 120] || Lib.hasPrefix (hxT x) [45, 48, 120]) = true := by
  unfold hxT
  rw [if_neg (by omega), if_neg (by omega)]
  unfold hxW hxP
  split <;> simp [Lib.hasPrefix, List.isPrefixOf]
end Go.Proofs.YthibhlimogcpeaaGreatDoor

/-
  THE WALKS of package desk's small functions: fail, words, lost, bits, result, full, mode, number.
-/
namespace Go.Proofs.YthibhlimogcpeaaGreatDoor
open Go.Shelf Go.RowKit Go.Lib Nt Fm Fl

theorem fmt16_any (x : Nat) (hx : x < 18446744073709551616) (w : World) (hD : Dk w) :
    Calls Tryz.prog 150 #[.int .u64 (x : Int), .int .i64 16] w fun e w' => (∃ n, 1 ≤ n ∧ n ≤ 16 ∧ x < 16 ^ n ∧ e = .returned (.string ⟨(hdg x n).toArray⟩)) ∧ Below w.heap.size w w' := by
  have FB := Lib.hid (fbits_any x hx w hD.t64)
  have F1 : Calls Tryz.prog 210 #[.int .u64 (x : Int), .int .i64 16] w fun e w' => (∃ n, 1 ≤ n ∧ n ≤ 16 ∧ x < 16 ^ n ∧ e = .returned (.string ⟨(hdg x n).toArray⟩)) ∧ Below w.heap.size w w' := by
    clear hD
    go_enter Tryz.func210, Tryz.ntmps210
    go_wp2_with (go_at_call 113; refine FB.out.mono ?_; rintro e w1 ⟨⟨n, h1, h2, h3, rfl⟩, hb⟩)
    go_ret
    exact ⟨⟨n, h1, h2, h3, rfl⟩, hb⟩
  have F2 := Lib.hid F1
  clear hD FB F1
  go_enter Tryz.func150, Tryz.ntmps150
  go_wp2_with (go_at_call 210; refine F2.out.mono ?_; rintro e w1 ⟨⟨n, h1, h2, h3, rfl⟩, hb⟩)
  go_ret
  exact ⟨⟨n, h1, h2, h3, rfl⟩, hb⟩
theorem dfail_ok (w : World) : Calls Tryz.prog 51 #[.int .i64 0] w fun e w' => e = .returned (.tuple #[]) ∧ w = w' := by
  go_enter Tryz.func51, Tryz.ntmps51
  go_wp2
  go_end0
  exact ⟨rfl, rfl⟩
theorem dfail_bad (k : Int) (hk : (k != 0) = true) (w : World) : Calls Tryz.prog 51 #[.int .i64 k] w fun e w' => e = .panicked [{ v := .iface 66 (.int .i64 k), recovered := false }] ∧ w = w' := by
  go_enter Tryz.func51, Tryz.ntmps51
  go_wp2
  exact ⟨rfl, rfl, rfl⟩
theorem dwords_ok (a : Option Addr) (n cap : Nat) (X : Int) (hX : X = (n : Int)) (w : World) : Calls Tryz.prog 46 #[.slice a n cap, .int .i64 X] w fun e w' => e = .returned (.tuple #[]) ∧ w = w' := by
  subst hX
  go_enter Tryz.func46, Tryz.ntmps46
  go_wp2
  go_end0
  exact ⟨rfl, rfl⟩
/-- whether something is lost, in words -/
def lsT (b : Bool) : List UInt8 := if b = true then [32, 108, 111, 115, 116] else [32, 101, 120, 97, 99, 116]
theorem dlost_any (b : Bool) (w : World) : Calls Tryz.prog 88 #[.bool b] w fun e w' => e = .returned (.string ⟨(lsT b).toArray⟩) ∧ w = w' := by
  cases b
  all_goals
    go_enter Tryz.func88, Tryz.ntmps88
    go_wp2
    go_ret
    exact ⟨rfl, rfl⟩
theorem dbits_any (x : Int) (x0 : 0 ≤ x) (x1 : x ≤ 18446744073709551615) (w : World) (hD : Dk w) :
    Calls Tryz.prog 86 #[.int .u64 x] w (RetT w (bitT x)) := by
  obtain ⟨u, rfl⟩ : ∃ u : Nat, x = u := ⟨x.toNat, by omega⟩
  have FM := Lib.hid (fmt16_any u (by omega) w hD)
  clear hD
  unfold RetT
  go_enter Tryz.func86, Tryz.ntmps86
  go_wp2_with (first
    | (go_at_call 150; refine FM.out.mono ?_; rintro e w1 ⟨⟨n, h1, h2, h3, rfl⟩, hb⟩; have HB := Lib.hid hb; have H3 := Lib.hid h3; clear hb h3; obtain ⟨S, hS⟩ : ∃ S : ByteArray, S = ⟨(hdg u n).toArray⟩ := ⟨_, rfl⟩; rw [← hS]; have hz : S.size = n := (by rw [hS]; exact hdg_len n u); have HS := Lib.hid hS; clear hS FM; have RP := Lib.hid (fun X w' (h : X = ((16 - n : Nat) : Int)) => rep_any (16 - n) X h (by omega) w'))
    | (go_at_call 106; refine (RP.out _ _ (by omega)).mono ?_; rintro e w2 ⟨rfl, hb2⟩; have HB2 := Lib.hid (bl_thru HB.out (Nat.le_refl _) hb2); clear hb2 RP))
  go_ret
  refine ⟨?_, HB2.out⟩
  have hn : 16 - n + n = 16 := by omega
  have e1 := hdg_pad (16 - n) n u H3.out
  rw [hn] at e1
  rw [HS.out]
  unfold bitT
  rw [Int.toNat_natCast, e1]
  exact congrArg (fun z => Ending.returned (Value.string z)) (by apply ByteArray.ext; simp [ByteArray.data_append])
/-- a number, with its bits -/
noncomputable def rsT (x : Int) : List UInt8 := stT x ++ 32 :: bitT x
theorem dresult_any (x : Int) (x0 : 0 ≤ x) (x1 : x ≤ 18446744073709551615) (w : World) (hD : Dk w) :
    Calls Tryz.prog 77 #[.int .u64 x] w (RetT w (rsT x)) := by
  have ST := Lib.hid (stext_any x x0 x1 w hD.t32 hD.t10)
  have BT := Lib.hid (fun w' (hb : Below w.heap.size w w') => dbits_any x x0 x1 w' (hD.below hb))
  have l1 := stT_len x0 x1
  have l2 := bitT_len x
  unfold rsT
  unfold RetT at ST BT ⊢
  generalize bitT x = bt at *
  generalize stT x = st at *
  clear hD
  go_enter Tryz.func77, Tryz.ntmps77
  go_wp2_with (first
    | (go_at_call 84; refine ST.out.mono ?_; rintro e w1 ⟨rfl, hb⟩; have B := Lib.hid hb; clear hb)
    | (go_at_call 86; refine (BT.out _ B.out).mono ?_; rintro e w2 ⟨rfl, hb⟩; have B2 := Lib.hid (bl_thru B.out (Nat.le_refl _) hb); clear hb))
  go_ret
  refine ⟨?_, B2.out⟩
  exact congrArg (fun z => Ending.returned (Value.string z)) (by apply ByteArray.ext; simp [ByteArray.data_append])
theorem rsT_len {x : Int} (x0 : 0 ≤ x) (x1 : x ≤ 18446744073709551615) : (rsT x).length ≤ 1018 := by
  have l1 := stT_len x0 x1
  have l2 := bitT_len x
  unfold rsT
  rw [List.length_append, List.length_cons]; omega
theorem lsT_len (b : Bool) : (lsT b).length ≤ 6 := by cases b <;> decide
theorem dfull_ok (x : Int) (b : Bool) (x0 : 0 ≤ x) (x1 : x ≤ 18446744073709551615) (w : World) (hD : Dk w) :
    Calls Tryz.prog 52 #[.int .u64 x, .bool b, .int .i64 0] w (RetT w (rsT x ++ lsT b)) := by
  have RS := Lib.hid (dresult_any x x0 x1 w hD)
  have l1 := rsT_len x0 x1
  have l2 := lsT_len b
  have LS := Lib.hid (fun w' => dlost_any b w')
  unfold RetT at RS ⊢
  generalize rsT x = rs at *
  generalize lsT b = ls at *
  clear hD
  go_enter Tryz.func52, Tryz.ntmps52
  go_wp2_with (first
    | (go_at_call 51; refine (dfail_ok _).mono ?_; rintro e w1 ⟨rfl, rfl⟩)
    | (go_at_call 77; refine RS.out.mono ?_; rintro e w1 ⟨rfl, hb⟩; have B := Lib.hid hb; clear hb)
    | (go_at_call 88; refine (LS.out _).mono ?_; rintro e w2 ⟨rfl, rfl⟩))
  go_ret
  refine ⟨?_, B.out⟩
  exact congrArg (fun z => Ending.returned (Value.string z)) (by apply ByteArray.ext; simp [ByteArray.data_append])
/-- a number in tens (or inf) -/
theorem dnum_dec (s : List UInt8) (S : ByteArray) (hS : S = ⟨s.toArray⟩) (h1 : Lib.hasPrefix s [35] = false) (h2 : Lib.hasPrefix s [48, 120] = false) (h3 : Lib.hasPrefix s [45, 48, 120] = false) (x : Int) (hE : readE s 0 = 0) (hV : readV s 0 = x) (w : World) (hD : Dk w) :
    Calls Tryz.prog 55 #[.string S] w fun e w' => e = .returned (.int .u64 x) ∧ Below w.heap.size w w' := by
  have RN := Lib.hid (rnumber_any s S hS 0 w hD.t32)
  have CP := Lib.hid (fun w' => cutPrefixD_any S ⟨#[35]⟩ w')
  have P1 := Lib.hid (fun w' => hasPrefixD_any S ⟨#[48, 120]⟩ w')
  have P2 := Lib.hid (fun w' => hasPrefixD_any S ⟨#[45, 48, 120]⟩ w')
  have es : S.data.toList = s := by rw [hS]
  have e0 : (⟨(Lib.trimPrefix s [35]).toArray⟩ : ByteArray) = S := by unfold Lib.trimPrefix; rw [h1, hS]; rfl
  simp only [es, e0, h1] at CP
  simp only [es, h2] at P1
  simp only [es, h3] at P2
  unfold RetUBE at RN
  rw [hE, hV] at RN
  generalize readC s 0 = c at RN
  clear hD es e0 h1 h2 h3 hS hE hV
  go_enter Tryz.func55, Tryz.ntmps55
  go_wp2_with (first
    | (go_at_call 94; refine (CP.out _).mono ?_; rintro e w1 ⟨rfl, rfl⟩)
    | (go_at_call 98; first
      | ((with_reducible refine (P1.out _).mono ?_); rintro e w1 ⟨rfl, rfl⟩)
      | ((with_reducible refine (P2.out _).mono ?_); rintro e w1 ⟨rfl, rfl⟩))
    | (go_at_call 97; refine RN.out.mono ?_; rintro e w1 ⟨rfl, hb⟩; have B := Lib.hid hb; clear hb))
  go_ret
  exact ⟨rfl, B.out⟩
attribute [local irreducible] hdg bitT
theorem dropW_nil {p : UInt8 → Bool} : ∀ l : List UInt8, (∀ c ∈ l, p c = true) → l.dropWhile p = []
  | [], _ => rfl
  | c :: l, h => by rw [List.dropWhile_cons_of_pos (h c (by simp)), dropW_nil l (fun d hd => h d (by simp [hd]))]
/-- a number by its bits -/
theorem dnum_hash (x : Int) (x0 : 0 ≤ x) (x1 : x ≤ 18446744073709551615) (S : ByteArray) (hS : S = ⟨(bitT x).toArray⟩) (w : World) (hD : Dk w) :
    Calls Tryz.prog 55 #[.string S] w fun e w' => e = .returned (.int .u64 x) ∧ Below w.heap.size w w' := by
  have CP := Lib.hid (fun w' => cutPrefixD_any S ⟨#[35]⟩ w')
  obtain ⟨T, hT⟩ : ∃ T : ByteArray, T = ⟨(hdg x.toNat 16).toArray⟩ := ⟨_, rfl⟩
  have es : S.data.toList = 35 :: hdg x.toNat 16 := by rw [hS]; unfold bitT; rfl
  have e1 : Lib.hasPrefix (35 :: hdg x.toNat 16) [35] = true := by simp [Lib.hasPrefix, List.isPrefixOf]
  have e0 : (⟨(Lib.trimPrefix (35 :: hdg x.toNat 16) [35]).toArray⟩ : ByteArray) = T := by unfold Lib.trimPrefix; rw [e1, hT]; rfl
  simp only [es, e0, e1] at CP
  have PU := Lib.hid (pu16_any (hdg x.toNat 16) T hT (hdg_hx 16 _) (by rw [hdg_len]; omega) (by rw [hdg_len]; omega) w)
  have ev := hdg_val 16 x.toNat (by have : (16 : Nat) ^ 16 = 18446744073709551616 := by decide
                                    omega)
  rw [ev, show ((x.toNat : Nat) : Int) = x by omega] at PU
  have hz : T.size = 16 := by rw [hT]; exact hdg_len 16 _
  have TR := Lib.hid (fun w' => trim_any T [48, 49, 50, 51, 52, 53, 54, 55, 56, 57, 97, 98, 99, 100, 101, 102] (by decide) (by decide) w' (by omega))
  have et : Lib.trimS T.data.toList [48, 49, 50, 51, 52, 53, 54, 55, 56, 57, 97, 98, 99, 100, 101, 102] = [] := by
    rw [hT]
    have hall : ∀ c ∈ hdg x.toNat 16, List.contains [48, 49, 50, 51, 52, 53, 54, 55, 56, 57, 97, 98, 99, 100, 101, 102] c = true := fun c hc => hx_has (hdg_hx 16 _ c hc)
    show Lib.trimS (hdg x.toNat 16) _ = []
    generalize hdg x.toNat 16 = l at *
    unfold Lib.trimS Lib.trimRightS Lib.trimLeftS
    rw [dropW_nil l.reverse (by intro c hc; exact hall c (by simpa using hc))]
    rfl
  rw [et] at TR
  clear hD es e0 e1 hS hT ev et
  go_enter Tryz.func55, Tryz.ntmps55
  go_wp2_with (first
    | (go_at_call 94; refine (CP.out _).mono ?_; rintro e w1 ⟨rfl, rfl⟩)
    | (go_at_call 95; refine PU.out.mono ?_; rintro e w1 ⟨rfl, hb⟩; have B := Lib.hid hb; clear hb)
    | (go_at_call 96; refine (TR.out _).mono ?_; rintro e w2 ⟨rfl, hb⟩; have B2 := Lib.hid (bl_thru B.out (Nat.le_refl _) hb); clear hb))
  go_ret
  exact ⟨rfl, B2.out⟩
/-- a number in sixteens -/
theorem dnum_hex (x : Int) (x0 : 0 ≤ x) (x1 : x ≤ 18446744073709551615) (hc : ¬ 4 ≤ fcls x) (S : ByteArray) (hS : S = ⟨(hxT x).toArray⟩) (w : World) (hD : Dk w) :
    Calls Tryz.prog 55 #[.string S] w fun e w' => e = .returned (.int .u64 x) ∧ Below w.heap.size w w' := by
  have CP := Lib.hid (fun w' => cutPrefixD_any S ⟨#[35]⟩ w')
  have P1 := Lib.hid (fun w' => hasPrefixD_any S ⟨#[48, 120]⟩ w')
  have P2 := Lib.hid (fun w' => hasPrefixD_any S ⟨#[45, 48, 120]⟩ w')
  have h1 := g_hash (hxT_gG x)
  have es : S.data.toList = hxT x := by rw [hS]
  have e0 : (⟨(Lib.trimPrefix (hxT x) [35]).toArray⟩ : ByteArray) = S := by unfold Lib.trimPrefix; rw [h1, hS]; rfl
  obtain ⟨f1, f2, f3, f4, f5⟩ := valD_facts x x0 x1
  have hb53 : blen (valD x).m ≤ 53 := blen_le_of f2
  have ex : hxT x = hxW x (valD x) (hxq (valD x)) := by unfold hxT; rw [if_neg (by omega), if_neg (by omega)]
  have RN := Lib.hid (back_any x0 x1 (hex_fin hc) (hxq (valD x)) (by unfold hxq; omega) (by unfold hxq; omega) S (by rw [hS, ex]) 0 (by omega) (by omega) w)
  have hp := hxT_pre hc
  simp only [es, e0, h1] at CP
  simp only [es] at P1 P2
  unfold RetUBE at RN
  clear hD es e0 h1 hS ex hb53 f1 f2 f3 f4 f5 hc
  generalize Lib.hasPrefix (hxT x) [48, 120] = b1 at *
  generalize Lib.hasPrefix (hxT x) [45, 48, 120] = b2 at *
  have key : (b1 = true) ∨ (b1 = false ∧ b2 = true) := by cases b1 <;> simp_all
  clear hp
  rcases key with rfl | ⟨rfl, rfl⟩
  all_goals
    go_enter Tryz.func55, Tryz.ntmps55
    go_wp2_with (first
      | (go_at_call 94; refine (CP.out _).mono ?_; rintro e w1 ⟨rfl, rfl⟩)
      | (go_at_call 98; first
        | ((with_reducible refine (P1.out _).mono ?_); rintro e w1 ⟨rfl, rfl⟩)
        | ((with_reducible refine (P2.out _).mono ?_); rintro e w1 ⟨rfl, rfl⟩))
      | (go_at_call 99; refine RN.out.mono ?_; rintro e w1 ⟨rfl, hb⟩; have B := Lib.hid hb; clear hb))
    go_ret
    exact ⟨rfl, B.out⟩
theorem dmode_near (w : World) : Calls Tryz.prog 49 #[.string ⟨#[110, 101, 97, 114]⟩] w fun e w' => e = .returned (.int .i64 0) ∧ w = w' := by
  go_enter Tryz.func49, Tryz.ntmps49
  go_wp2
  go_ret
  exact ⟨rfl, rfl⟩
end Go.Proofs.YthibhlimogcpeaaGreatDoor

/-
  THE WALKS of desk.numbers, plain, rounded, command: where the line says show, cmp, add, or nothing that is known.
-/
namespace Go.Proofs.YthibhlimogcpeaaGreatDoor
open Go.Shelf Go.RowKit Go.Lib Nt Fm Fl

--TRIAL
/-- a word that is read as a number -/
def NumT (s : List UInt8) (x : Int) : Prop := (0 ≤ x ∧ x ≤ 18446744073709551615) ∧ ∀ (S : ByteArray) (w : World), S = ⟨s.toArray⟩ → Dk w →
  Calls Tryz.prog 55 #[.string S] w fun e w' => e = .returned (.int .u64 x) ∧ Below w.heap.size w w'
def u6c (l : List Int) : List Value := l.map (Value.int .u64)
theorem infoU6 : (Tryz.prog.info? 42).map (fun i => (i.zero, i.size, i.bytes)) = some (some (.int .u64 0), 1, 8) := by kernel_rfl
theorem wpList_pushN {ops : Array Oper} {rest : List Oper} {o : Oper} {a : Act} {Q : Exit → Act → World → Prop} {w0 : World} {X : Int} (hgd : o.guard = none) (s x : Operand)
    (ho : o.op = .call { callee := .builtin .append, args := #[s, x], argTypes := #[80, 80] })
    (base : Nat) (hbase : base ≤ w0.heap.size) (v : Value) (l : List Int) (hs : a.eval s = v) (hown : w0.ownsRow base 42 1 v l.length (u6c l))
    (d : Int) (hx : a.eval x = .slice (some ⟨w0.heap.size, 0, none⟩) 1 1) (hX : X = d) (hl : l.length ≤ 10000000)
    (h : ∀ v' w', w'.ownsRow base 42 1 v' (l ++ [d]).length (u6c (l ++ [d])) → Below base w0 w' → wpList Tryz.prog ops Q rest (a.put o.dst v') w') :
    wpList Tryz.prog ops Q (o :: rest) a (w0.alloc (.cells #[.int .u64 X] 42)) := by
  obtain ⟨i0, hi, hz0, hz1, hz2⟩ := info_parts infoU6
  subst hX
  refine wpList_append_own _ hgd s x 80 ho base 42 i0 (.int .u64 0) 1 8 Tryz.underlying80 hi hz0 hz1 hz2 rfl (by decide) v l.length (u6c l) hs (hown.alloc _) ⟨w0.heap.size, 0, none⟩ 1 1 [.int .u64 X] hx rfl (cell_one_new _ _ _) (by intro u hu; simp at hu; subst hu; rfl) (by unfold maxLen; omega) (by omega) (by simp; omega) ?_
  intro v' w1 hown1 hgrow _
  refine h v' w1 ?_ ?_
  · rw [List.length_append]
    have : u6c (l ++ [X]) = u6c l ++ [.int .u64 X] := by simp [u6c]
    rw [this]; exact hown1
  · refine ((Below.refl base w0).alloc hbase _).trans (grown_below hgrow (by simp; omega) ?_)
    intro k hk
    exact (hown.lt k hk).1
set_option maxHeartbeats 4000000 in
theorem numbers_any (A off cap : Nat) (l : List (List UInt8)) (vs : List Int) (hlen : vs.length = l.length) (hl : l.length ≤ 10000) (hN : ∀ (j : Nat) s x, l[j]? = some s → vs[j]? = some x → NumT s x) (w : World) (hD : Dk w) (hA : A < w.heap.size)
    (hW : ∀ (j : Nat) s, l[j]? = some s → w.cell? ⟨A, off + j, none⟩ = some (encL s)) :
    Calls Tryz.prog 48 #[.slice (some ⟨A, off, none⟩) l.length cap] w fun e w' => ∃ v, e = .returned v ∧ w'.ownsRow w.heap.size 42 1 v vs.length (u6c vs) ∧ Below w.heap.size w w' := by
  have HN := Lib.hid hN
  have HD := Lib.hid hD
  have HW := Lib.hid hW
  have HL := Lib.hid hlen
  obtain ⟨n, hn⟩ : ∃ n, n = l.length := ⟨_, rfl⟩
  rw [← hn] at hl ⊢
  have Hn := Lib.hid hn
  clear hN hD hW hlen hn
  go_enter Tryz.func48, Tryz.ntmps48
  go_wp2
  go_loopw [3, 8] (fun v iv wr => ∃ i : Nat, iv = .int .i64 (i : Int) ∧ i ≤ n ∧ Hid (wr.ownsRow w.heap.size 42 1 v (vs.take i).length (u6c (vs.take i))) ∧ Hid (Below w.heap.size w wr)) (fun _ iv _ => n - (RowKit.intOf iv).toNat)
  case atStart => exact ⟨0, rfl, by omega, Lib.hid (World.ownsRow_nil _ _ _ _), Lib.hid (Below.refl _ _)⟩
  case round =>
    obtain ⟨i, rfl, hi, hO, B⟩ := hrel
    obtain ⟨ao, ln, cp, rfl⟩ : ∃ ao ln cp, u3 = .slice ao ln cp := by
      rcases hO.out.2 with ⟨h, _⟩ | ⟨g, c, cur, h, _⟩
      · exact ⟨_, _, _, h⟩
      · exact ⟨_, _, _, h⟩
    by_cases hin : i < n
    · have hil : i < l.length := by rw [← Hn.out]; exact hin
      obtain ⟨s, hs⟩ : ∃ s, l[i]? = some s := ⟨_, List.getElem?_eq_getElem hil⟩
      obtain ⟨x, hx⟩ : ∃ x, vs[i]? = some x := ⟨_, List.getElem?_eq_getElem (by rw [HL.out]; exact hil)⟩
      obtain ⟨T, hT⟩ : ∃ T : ByteArray, T = ⟨s.toArray⟩ := ⟨_, rfl⟩
      have hc : wr.cell? ⟨A, off + i, none⟩ = some (.string T) := by
        rw [B.out.cell (p := ⟨A, off + i, none⟩) hA, HW.out i s hs, hT]
      have NT := HN.out i s x hs hx
      have NH := Lib.hid (NT.2 T wr hT (HD.out.below B.out))
      have htk : vs.take (i + 1) = vs.take i ++ [x] := by
        have hv := (List.getElem?_eq_some_iff.1 hx).1
        rw [List.take_succ_eq_append_getElem hv, (List.getElem?_eq_some_iff.1 hx).2]
      have HTK := Lib.hid htk
      have hll : Hid ((vs.take i).length ≤ 10000000 ∧ True) := Lib.hid ⟨by rw [List.length_take]; omega, trivial⟩
      clear NT hT hs hx htk
      go_wp2_with (first
        | (go_at_call 55; refine NH.out.mono ?_; rintro e w2 ⟨rfl, hb⟩; have B2 := Lib.hid (bl_thru B.out (Nat.le_refl _) hb); have O2 := Lib.hid (ownS_below hO.out hb); have hz2 := B2.out.size; clear hb NH)
        | (at_builtin; refine wpList_pushN rfl _ _ rfl w.heap.size hz2 _ (vs.take i) rfl O2.out x rfl rfl hll.out.1 ?_; intro v5 w5 ho5 hb5; have O5 := Lib.hid ho5; have B5 := Lib.hid (B2.out.trans hb5); clear ho5 hb5))
      exact ⟨⟨i + 1, rfl, by omega, Lib.hid (by rw [HTK.out]; exact O5.out), B5⟩, by simp only [RowKit.intOf]; omega⟩
    · have hie : vs.take i = vs := List.take_of_length_le (by rw [HL.out, ← Hn.out]; omega)
      rw [hie] at hO
      go_wp2
      go_ret
      exact ⟨_, rfl, hO.out, B.out⟩
theorem ins_str {w : World} {b : Nat} {es : Array MapEntry} {clock : Nat} (hb : w.heap[b]? = some (.map es clock)) (B0 : Nat) (hB : B0 ≤ b) (s : ByteArray) (val : Value)
    (h1 : Instr.findNow .string (.string s) es.toList 0 = some none) :
    ∃ V, (Instr.mapUpdate 77 (.map (some b)) (.string s) val).run Tryz.prog w = .ok () V ∧ V.heap[b]? = some (.map (es.push ⟨.string s, val, clock⟩) (clock + 1)) ∧ Below B0 w V := by
  have hkey : Go.MapKept.IsKey .string (.string s) := by simp [Go.MapKept.IsKey]
  refine ⟨Go.ChangeMaps.setBlock w b (.map (es.push ⟨.string s, val, clock⟩) (clock + 1)), ?_, ?_, ?_⟩
  · simp [Instr.mapUpdate, run_underlying Tryz.underlying77, Go.MapKept.run_getObj_map hb, Go.MapKept.run_checkKey Tryz.underlying9 hkey, Go.MapKept.run_findKey Tryz.underlying9 h1, Go.MapKept.run_setObj_map _ hb, Result.andThen, Go.ChangeMaps.setBlock]
  · have := (Array.getElem?_eq_some_iff.1 hb).1
    simp [Go.ChangeMaps.setBlock, Array.getElem?_setIfInBounds, this]
  · refine ⟨rfl, rfl, rfl, by simp [Go.ChangeMaps.setBlock], fun k hk => ?_⟩
    simp only [Go.ChangeMaps.setBlock]
    rw [Array.getElem?_setIfInBounds, if_neg (by omega)]
theorem look_str {w : World} {b : Nat} {es : Array MapEntry} {clock : Nat} (hb : w.heap[b]? = some (.map es clock)) (s : ByteArray) {a : Option (Nat × Value)} (h1 : Instr.findNow .string (.string s) es.toList 0 = some a) :
    (Instr.lookup 77 (.map (some b)) (.string s) true).run Tryz.prog w = .ok (match a with | some (_, v) => .tuple #[v, .bool true] | none => .tuple #[.int .i64 0, .bool false]) w := by
  have hkey : Go.MapKept.IsKey .string (.string s) := by simp [Go.MapKept.IsKey]
  have hz := Tryz.zeroValue3 w
  cases a with
  | none => simp [Instr.lookup, run_underlying Tryz.underlying77, Go.MapKept.run_getObj_map hb, Go.MapKept.run_checkKey Tryz.underlying9 hkey, Go.MapKept.run_findKey Tryz.underlying9 h1, Result.andThen, hz]
  | some p => obtain ⟨i, v⟩ := p; simp [Instr.lookup, run_underlying Tryz.underlying77, Go.MapKept.run_getObj_map hb, Go.MapKept.run_checkKey Tryz.underlying9 hkey, Go.MapKept.run_findKey Tryz.underlying9 h1, Result.andThen]
--MAPS
def map1_es : Array MapEntry := #[⟨.string ⟨#[97, 100, 100]⟩, .int .i64 2, 0⟩, ⟨.string ⟨#[115, 117, 98]⟩, .int .i64 2, 1⟩, ⟨.string ⟨#[109, 117, 108]⟩, .int .i64 2, 2⟩, ⟨.string ⟨#[100, 105, 118]⟩, .int .i64 2, 3⟩, ⟨.string ⟨#[102, 109, 97]⟩, .int .i64 3, 4⟩, ⟨.string ⟨#[115, 113, 114, 116]⟩, .int .i64 1, 5⟩, ⟨.string ⟨#[101, 120, 112]⟩, .int .i64 1, 6⟩, ⟨.string ⟨#[101, 120, 112, 109, 49]⟩, .int .i64 1, 7⟩, ⟨.string ⟨#[108, 111, 103]⟩, .int .i64 1, 8⟩, ⟨.string ⟨#[108, 111, 103, 49, 112]⟩, .int .i64 1, 9⟩, ⟨.string ⟨#[114, 111, 117, 110, 100]⟩, .int .i64 1, 10⟩]
set_option maxRecDepth 100000 in
theorem map1_laid (w : World) : ∃ V1 V2 V3 V4 V5 V6 V7 V8 V9 V10 V11,
    (Instr.mapUpdate 77 (.map (some w.heap.size)) (.string ⟨#[97, 100, 100]⟩) (.int .i64 2)).run Tryz.prog (w.alloc (.map #[] 0)) = .ok () V1 ∧
    (Instr.mapUpdate 77 (.map (some w.heap.size)) (.string ⟨#[115, 117, 98]⟩) (.int .i64 2)).run Tryz.prog V1 = .ok () V2 ∧
    (Instr.mapUpdate 77 (.map (some w.heap.size)) (.string ⟨#[109, 117, 108]⟩) (.int .i64 2)).run Tryz.prog V2 = .ok () V3 ∧
    (Instr.mapUpdate 77 (.map (some w.heap.size)) (.string ⟨#[100, 105, 118]⟩) (.int .i64 2)).run Tryz.prog V3 = .ok () V4 ∧
    (Instr.mapUpdate 77 (.map (some w.heap.size)) (.string ⟨#[102, 109, 97]⟩) (.int .i64 3)).run Tryz.prog V4 = .ok () V5 ∧
    (Instr.mapUpdate 77 (.map (some w.heap.size)) (.string ⟨#[115, 113, 114, 116]⟩) (.int .i64 1)).run Tryz.prog V5 = .ok () V6 ∧
    (Instr.mapUpdate 77 (.map (some w.heap.size)) (.string ⟨#[101, 120, 112]⟩) (.int .i64 1)).run Tryz.prog V6 = .ok () V7 ∧
    (Instr.mapUpdate 77 (.map (some w.heap.size)) (.string ⟨#[101, 120, 112, 109, 49]⟩) (.int .i64 1)).run Tryz.prog V7 = .ok () V8 ∧
    (Instr.mapUpdate 77 (.map (some w.heap.size)) (.string ⟨#[108, 111, 103]⟩) (.int .i64 1)).run Tryz.prog V8 = .ok () V9 ∧
    (Instr.mapUpdate 77 (.map (some w.heap.size)) (.string ⟨#[108, 111, 103, 49, 112]⟩) (.int .i64 1)).run Tryz.prog V9 = .ok () V10 ∧
    (Instr.mapUpdate 77 (.map (some w.heap.size)) (.string ⟨#[114, 111, 117, 110, 100]⟩) (.int .i64 1)).run Tryz.prog V10 = .ok () V11 ∧
    V11.heap[w.heap.size]? = some (.map map1_es 11) ∧ Below w.heap.size w V11 := by
  obtain ⟨V1, r1, m1, b1⟩ := ins_str (Go.MapKept.heap_alloc w (.map #[] 0)).1 w.heap.size (Nat.le_refl _) ⟨#[97, 100, 100]⟩ (.int .i64 2) rfl
  obtain ⟨V2, r2, m2, b2⟩ := ins_str m1 w.heap.size (Nat.le_refl _) ⟨#[115, 117, 98]⟩ (.int .i64 2) rfl
  obtain ⟨V3, r3, m3, b3⟩ := ins_str m2 w.heap.size (Nat.le_refl _) ⟨#[109, 117, 108]⟩ (.int .i64 2) rfl
  obtain ⟨V4, r4, m4, b4⟩ := ins_str m3 w.heap.size (Nat.le_refl _) ⟨#[100, 105, 118]⟩ (.int .i64 2) rfl
  obtain ⟨V5, r5, m5, b5⟩ := ins_str m4 w.heap.size (Nat.le_refl _) ⟨#[102, 109, 97]⟩ (.int .i64 3) rfl
  obtain ⟨V6, r6, m6, b6⟩ := ins_str m5 w.heap.size (Nat.le_refl _) ⟨#[115, 113, 114, 116]⟩ (.int .i64 1) rfl
  obtain ⟨V7, r7, m7, b7⟩ := ins_str m6 w.heap.size (Nat.le_refl _) ⟨#[101, 120, 112]⟩ (.int .i64 1) rfl
  obtain ⟨V8, r8, m8, b8⟩ := ins_str m7 w.heap.size (Nat.le_refl _) ⟨#[101, 120, 112, 109, 49]⟩ (.int .i64 1) rfl
  obtain ⟨V9, r9, m9, b9⟩ := ins_str m8 w.heap.size (Nat.le_refl _) ⟨#[108, 111, 103]⟩ (.int .i64 1) rfl
  obtain ⟨V10, r10, m10, b10⟩ := ins_str m9 w.heap.size (Nat.le_refl _) ⟨#[108, 111, 103, 49, 112]⟩ (.int .i64 1) rfl
  obtain ⟨V11, r11, m11, b11⟩ := ins_str m10 w.heap.size (Nat.le_refl _) ⟨#[114, 111, 117, 110, 100]⟩ (.int .i64 1) rfl
  exact ⟨V1, V2, V3, V4, V5, V6, V7, V8, V9, V10, V11, r1, r2, r3, r4, r5, r6, r7, r8, r9, r10, r11, m11, (((((((((((((Below.refl _ _).alloc (Nat.le_refl _) _).trans b1).trans b2).trans b3).trans b4).trans b5).trans b6).trans b7).trans b8).trans b9).trans b10).trans b11)⟩
def map2_es : Array MapEntry := #[⟨.string ⟨#[114, 101, 109]⟩, .int .i64 2, 0⟩, ⟨.string ⟨#[110, 101, 120, 116]⟩, .int .i64 1, 1⟩, ⟨.string ⟨#[112, 114, 101, 118]⟩, .int .i64 1, 2⟩, ⟨.string ⟨#[110, 101, 103]⟩, .int .i64 1, 3⟩, ⟨.string ⟨#[109, 105, 110]⟩, .int .i64 2, 4⟩, ⟨.string ⟨#[109, 97, 120]⟩, .int .i64 2, 5⟩, ⟨.string ⟨#[115, 104, 111, 119]⟩, .int .i64 1, 6⟩, ⟨.string ⟨#[99, 109, 112]⟩, .int .i64 2, 7⟩]
set_option maxRecDepth 100000 in
theorem map2_laid (w : World) : ∃ V1 V2 V3 V4 V5 V6 V7 V8,
    (Instr.mapUpdate 77 (.map (some w.heap.size)) (.string ⟨#[114, 101, 109]⟩) (.int .i64 2)).run Tryz.prog (w.alloc (.map #[] 0)) = .ok () V1 ∧
    (Instr.mapUpdate 77 (.map (some w.heap.size)) (.string ⟨#[110, 101, 120, 116]⟩) (.int .i64 1)).run Tryz.prog V1 = .ok () V2 ∧
    (Instr.mapUpdate 77 (.map (some w.heap.size)) (.string ⟨#[112, 114, 101, 118]⟩) (.int .i64 1)).run Tryz.prog V2 = .ok () V3 ∧
    (Instr.mapUpdate 77 (.map (some w.heap.size)) (.string ⟨#[110, 101, 103]⟩) (.int .i64 1)).run Tryz.prog V3 = .ok () V4 ∧
    (Instr.mapUpdate 77 (.map (some w.heap.size)) (.string ⟨#[109, 105, 110]⟩) (.int .i64 2)).run Tryz.prog V4 = .ok () V5 ∧
    (Instr.mapUpdate 77 (.map (some w.heap.size)) (.string ⟨#[109, 97, 120]⟩) (.int .i64 2)).run Tryz.prog V5 = .ok () V6 ∧
    (Instr.mapUpdate 77 (.map (some w.heap.size)) (.string ⟨#[115, 104, 111, 119]⟩) (.int .i64 1)).run Tryz.prog V6 = .ok () V7 ∧
    (Instr.mapUpdate 77 (.map (some w.heap.size)) (.string ⟨#[99, 109, 112]⟩) (.int .i64 2)).run Tryz.prog V7 = .ok () V8 ∧
    V8.heap[w.heap.size]? = some (.map map2_es 8) ∧ Below w.heap.size w V8 := by
  obtain ⟨V1, r1, m1, b1⟩ := ins_str (Go.MapKept.heap_alloc w (.map #[] 0)).1 w.heap.size (Nat.le_refl _) ⟨#[114, 101, 109]⟩ (.int .i64 2) rfl
  obtain ⟨V2, r2, m2, b2⟩ := ins_str m1 w.heap.size (Nat.le_refl _) ⟨#[110, 101, 120, 116]⟩ (.int .i64 1) rfl
  obtain ⟨V3, r3, m3, b3⟩ := ins_str m2 w.heap.size (Nat.le_refl _) ⟨#[112, 114, 101, 118]⟩ (.int .i64 1) rfl
  obtain ⟨V4, r4, m4, b4⟩ := ins_str m3 w.heap.size (Nat.le_refl _) ⟨#[110, 101, 103]⟩ (.int .i64 1) rfl
  obtain ⟨V5, r5, m5, b5⟩ := ins_str m4 w.heap.size (Nat.le_refl _) ⟨#[109, 105, 110]⟩ (.int .i64 2) rfl
  obtain ⟨V6, r6, m6, b6⟩ := ins_str m5 w.heap.size (Nat.le_refl _) ⟨#[109, 97, 120]⟩ (.int .i64 2) rfl
  obtain ⟨V7, r7, m7, b7⟩ := ins_str m6 w.heap.size (Nat.le_refl _) ⟨#[115, 104, 111, 119]⟩ (.int .i64 1) rfl
  obtain ⟨V8, r8, m8, b8⟩ := ins_str m7 w.heap.size (Nat.le_refl _) ⟨#[99, 109, 112]⟩ (.int .i64 2) rfl
  exact ⟨V1, V2, V3, V4, V5, V6, V7, V8, r1, r2, r3, r4, r5, r6, r7, r8, m8, ((((((((((Below.refl _ _).alloc (Nat.le_refl _) _).trans b1).trans b2).trans b3).trans b4).trans b5).trans b6).trans b7).trans b8)⟩
--MAPSEND
set_option maxRecDepth 100000 in
set_option maxHeartbeats 8000000 in
theorem command_frob (A : Nat) (w : World) (hc : w.cell? ⟨A, 0, none⟩ = some (.string ⟨#[102, 114, 111, 98]⟩)) :
    Calls Tryz.prog 39 #[.slice (some ⟨A, 0, none⟩) 1 1] w fun e w' => e = .panicked [{ v := .iface 66 (.int .i64 5), recovered := false }] ∧ Below w.heap.size w w' := by
  have hmm := @run_makeMap Tryz.prog
  go_enter Tryz.func39, Tryz.ntmps39
  go_wp2
  go_quiet (fail)
  have hb0 : Hid (Below w.heap.size w (w.drewN nq)) := Lib.hid (below_to_drewN (Below.refl _ _))
  generalize w.drewN nq = wa at *
  obtain ⟨V1, V2, V3, V4, V5, V6, V7, V8, V9, V10, V11, r1, r2, r3, r4, r5, r6, r7, r8, r9, r10, r11, mV, bV⟩ := map1_laid wa
  have hl1 := look_str mV ⟨#[102, 114, 111, 98]⟩ (a := none) rfl
  obtain ⟨U1, U2, U3, U4, U5, U6, U7, U8, q1, q2, q3, q4, q5, q6, q7, q8, mU, bU⟩ := map2_laid V11
  have hl2 := look_str mU ⟨#[102, 114, 111, 98]⟩ (a := none) rfl
  have BU := Lib.hid (bl_thru hb0.out (Nat.le_refl _) (bl_thru bV (Nat.le_refl _) bU))
  clear mV bV mU bU hc
  simp only at hl1 hl2
  go_wp2_with (go_at_call 51; refine (dfail_bad 5 rfl _).mono ?_; rintro e w1 ⟨rfl, rfl⟩)
  exact ⟨rfl, rfl, BU.out⟩
/-- what show tells -/
noncomputable def shwT (x : Int) : List UInt8 := stT x ++ 32 :: (hxT x ++ 32 :: bitT x)
set_option maxRecDepth 100000 in
set_option maxHeartbeats 8000000 in
theorem plain_show (g cap : Nat) (x : Int) (x0 : 0 ≤ x) (x1 : x ≤ 18446744073709551615) (w : World) (hD : Dk w) (hc : w.cell? ⟨g, 0, none⟩ = some (.int .u64 x)) :
    Calls Tryz.prog 50 #[.string ⟨#[115, 104, 111, 119]⟩, .slice (some ⟨g, 0, none⟩) 1 cap] w (RetT w (shwT x)) := by
  have ST := Lib.hid (fun w' (hb : Below w.heap.size w w') => stext_any x x0 x1 w' (hD.below hb).t32 (hD.below hb).t10)
  have HT := Lib.hid (fun w' (hb : Below w.heap.size w w') => htext_any x x0 x1 w' (hD.below hb).t32 (hD.below hb).t10)
  have BT := Lib.hid (fun w' (hb : Below w.heap.size w w') => dbits_any x x0 x1 w' (hD.below hb))
  have l1 := stT_len x0 x1
  have l2 := bitT_len x
  have l3 := hxT_len x0 x1
  have hgl := World.block_lt_of_cell? w ⟨g, 0, none⟩ hc
  have HC := Lib.hid (fun w' (hb : Below w.heap.size w w') => (hb.cell (p := ⟨g, 0, none⟩) hgl).trans hc)
  have B : Hid (Below w.heap.size w w) := Lib.hid (Below.refl _ _)
  unfold shwT
  unfold RetT at ST HT BT ⊢
  generalize bitT x = bt at *
  generalize stT x = st at *
  generalize hxT x = hx at *
  clear hD
  go_enter Tryz.func50, Tryz.ntmps50
  go_wp2
  replace B := Lib.hid B.out.drew
  have k1 : ¬ 9223372036854775807 < st.length + 1 := by omega
  have k2 : ¬ 9223372036854775807 < st.length + 1 + hx.length := by omega
  have k3 : ¬ 9223372036854775807 < st.length + 1 + hx.length + 1 := by omega
  have k4 : ¬ 9223372036854775807 < st.length + 1 + hx.length + 1 + 17 := by omega
  go_region_held3 (fun w' => w'.cell? ⟨g, 0, none⟩ = some (.int .u64 x))
    (first
      | (with_reducible exact HC.out _ B.out)
      | (go_keep; done))
    (first
      | (go_at_call 84; refine (ST.out _ B.out).mono ?_; rintro e w' ⟨rfl, hb⟩; replace B := Lib.hid (bl_thru B.out (Nat.le_refl _) hb); clear hb)
      | (go_at_call 85; refine (HT.out _ B.out).mono ?_; rintro e w' ⟨rfl, hb⟩; replace B := Lib.hid (bl_thru B.out (Nat.le_refl _) hb); clear hb)
      | (go_at_call 86; refine (BT.out _ B.out).mono ?_; rintro e w' ⟨rfl, hb⟩; replace B := Lib.hid (bl_thru B.out (Nat.le_refl _) hb); clear hb))
  go_wp2
  go_ret
  refine ⟨?_, B.out⟩
  exact congrArg (fun z => Ending.returned (Value.string z)) (by apply ByteArray.ext; simp [ByteArray.data_append])
/-- what a comparison tells -/
def cmpT (a b : Int) : List UInt8 := if ois a b = true then (if ocmp a b < 0 then [60] else if ocmp a b = 0 then [61] else [62]) else [63]
set_option maxRecDepth 100000 in
set_option maxHeartbeats 8000000 in
theorem plain_cmp (g cap : Nat) (x y : Int) (hx : (0 ≤ x ∧ x ≤ 18446744073709551615) ∧ 0 ≤ y ∧ y ≤ 18446744073709551615) (hlt : ois x y = true) (hl2 : ocmp x y = -1) (w : World) (hc0 : w.cell? ⟨g, 0, none⟩ = some (.int .u64 x)) (hc1 : w.cell? ⟨g, 1, none⟩ = some (.int .u64 y)) :
    Calls Tryz.prog 50 #[.string ⟨#[99, 109, 112]⟩, .slice (some ⟨g, 0, none⟩) 2 cap] w (RetT w [60]) := by
  have CM := Lib.hid (fun w' => ocmp_any x y hx.1.1 hx.1.2 hx.2.1 hx.2.2 w')
  rw [hlt, hl2] at CM
  have hix : ∀ w', (Instr.index 115 (.agg #[.string ⟨#[60]⟩, .string ⟨#[61]⟩, .string ⟨#[62]⟩]) (.int .i64 0)).run Tryz.prog w' = .ok (.string ⟨#[60]⟩) w' := fun w' => by kernel_rfl
  unfold RetT
  clear hlt hl2
  go_enter Tryz.func50, Tryz.ntmps50
  go_wp2
  go_region_held3 (fun w' => w'.cell? ⟨g, 0, none⟩ = some (.int .u64 x) ∧ w'.cell? ⟨g, 1, none⟩ = some (.int .u64 y))
    (first
      | (with_reducible exact ⟨hc0, hc1⟩)
      | (go_keep; done))
    (first
      | (go_at_call 87; refine (CM.out _).mono ?_; rintro e w' ⟨rfl, rfl⟩))
  go_wp2
  go_ret
  exact ⟨rfl, below_to_drewN (n := 1) (Below.refl _ _)⟩
set_option maxRecDepth 100000 in
set_option maxHeartbeats 8000000 in
theorem rounded_add (g cap : Nat) (x y r : Int) (c : Bool) (hx : (0 ≤ x ∧ x ≤ 18446744073709551615) ∧ 0 ≤ y ∧ y ≤ 18446744073709551615) (hr : 0 ≤ r ∧ r ≤ 18446744073709551615) (w : World) (hD : Dk w)
    (hA : ∀ w', Tab w' → Calls Tryz.prog 66 #[.int .u64 x, .int .u64 y, .int .i64 0] w' fun e w2 => e = .returned (.tuple #[.int .u64 r, .bool c, .int .i64 0]) ∧ Below w'.heap.size w' w2)
    (hc0 : w.cell? ⟨g, 0, none⟩ = some (.int .u64 x)) (hc1 : w.cell? ⟨g, 1, none⟩ = some (.int .u64 y)) :
    Calls Tryz.prog 47 #[.string ⟨#[97, 100, 100]⟩, .slice (some ⟨g, 0, none⟩) 2 cap, .int .i64 0] w (RetT w (rsT r ++ lsT c)) := by
  have AD := Lib.hid (fun w' (hb : Below w.heap.size w w') => hA w' (hD.below hb).t32)
  have FU := Lib.hid (fun w' (hb : Below w.heap.size w w') => dfull_ok r c hr.1 hr.2 w' (hD.below hb))
  have hgl := World.block_lt_of_cell? w ⟨g, 0, none⟩ hc0
  have HC := Lib.hid (fun w' (hb : Below w.heap.size w w') => And.intro ((hb.cell (p := ⟨g, 0, none⟩) hgl).trans hc0) ((hb.cell (p := ⟨g, 1, none⟩) hgl).trans hc1))
  have B : Hid (Below w.heap.size w w) := Lib.hid (Below.refl _ _)
  unfold RetT at FU ⊢
  generalize rsT r ++ lsT c = rs at *
  clear hD hA
  go_enter Tryz.func47, Tryz.ntmps47
  go_wp2
  replace B := Lib.hid B.out.drew
  go_region_held3 (fun w' => w'.cell? ⟨g, 0, none⟩ = some (.int .u64 x) ∧ w'.cell? ⟨g, 1, none⟩ = some (.int .u64 y))
    (first
      | (with_reducible exact HC.out _ B.out)
      | (go_keep; done))
    (first
      | (go_at_call 66; refine (AD.out _ B.out).mono ?_; rintro e w' ⟨rfl, hb⟩; replace B := Lib.hid (bl_thru B.out (Nat.le_refl _) hb); clear hb)
      | (go_at_call 52; refine (FU.out _ B.out).mono ?_; rintro e w' ⟨rfl, hb⟩; replace B := Lib.hid (bl_thru B.out (Nat.le_refl _) hb); clear hb))
  go_wp2
  go_ret
  exact ⟨rfl, B.out⟩
theorem own_one {w : World} {B : Nat} {v : Value} {x : Int} (h : w.ownsRow B 42 1 v [x].length (u6c [x])) : ∃ g cp, v = .slice (some ⟨g, 0, none⟩) 1 cp ∧ w.cell? ⟨g, 0, none⟩ = some (.int .u64 x) := by
  rcases h.2 with ⟨_, h0⟩ | ⟨g, c, cur, hv, _⟩
  · simp at h0
  · have := h.cells (g := g) (by rw [hv]; rfl) 0 (.int .u64 x) rfl
    exact ⟨g, c, hv, this⟩
theorem own_two {w : World} {B : Nat} {v : Value} {x y : Int} (h : w.ownsRow B 42 1 v [x, y].length (u6c [x, y])) : ∃ g cp, v = .slice (some ⟨g, 0, none⟩) 2 cp ∧ w.cell? ⟨g, 0, none⟩ = some (.int .u64 x) ∧ w.cell? ⟨g, 1, none⟩ = some (.int .u64 y) := by
  rcases h.2 with ⟨_, h0⟩ | ⟨g, c, cur, hv, _⟩
  · simp at h0
  · have h1 := h.cells (g := g) (by rw [hv]; rfl) 0 (.int .u64 x) rfl
    have h2 := h.cells (g := g) (by rw [hv]; rfl) 1 (.int .u64 y) rfl
    exact ⟨g, c, hv, h1, h2⟩
set_option maxRecDepth 100000 in
set_option maxHeartbeats 8000000 in
theorem command_show (A : Nat) (a : List UInt8) (x : Int) (hN : NumT a x) (w : World) (hD : Dk w) (hA : A < w.heap.size) (hW : Wr w A [swT, a]) :
    Calls Tryz.prog 39 #[.slice (some ⟨A, 0, none⟩) 2 2] w (RetT w (shwT x)) := by
  have hc0 : w.cell? ⟨A, 0, none⟩ = some (.string ⟨#[115, 104, 111, 119]⟩) := hW 0 swT rfl
  have hc1 : w.cell? ⟨A, 1, none⟩ = some (encL a) := hW 1 a rfl
  have NB := Lib.hid (fun w' (hb : Below w.heap.size w w') => numbers_any A 1 1 [a] [x] rfl (by simp) (fun j s y hs hy => by
    cases j with
    | zero => simp at hs hy; subst hs hy; exact hN
    | succ j => simp at hs) w' (hD.below hb) (Nat.lt_of_lt_of_le hA hb.size) (fun j s hs => by
    cases j with
    | zero => simp at hs; subst hs; exact (hb.cell (p := ⟨A, 1, none⟩) hA).trans hc1
    | succ j => simp at hs))
  have PL := Lib.hid (fun g cp w' (hb : Below w.heap.size w w') hc => plain_show g cp x hN.1.1 hN.1.2 w' (hD.below hb) hc)
  have hmm := @run_makeMap Tryz.prog
  unfold RetT at PL ⊢
  generalize shwT x = sx at *
  clear hN hD hW hA
  go_enter Tryz.func39, Tryz.ntmps39
  go_wp2
  go_quiet (fail)
  have hb0 : Hid (Below w.heap.size w (w.drewN nq)) := Lib.hid (below_to_drewN (Below.refl _ _))
  generalize w.drewN nq = wa at *
  obtain ⟨V1, V2, V3, V4, V5, V6, V7, V8, V9, V10, V11, r1, r2, r3, r4, r5, r6, r7, r8, r9, r10, r11, mV, bV⟩ := map1_laid wa
  have hl1 := look_str mV ⟨#[115, 104, 111, 119]⟩ (a := none) rfl
  obtain ⟨U1, U2, U3, U4, U5, U6, U7, U8, q1, q2, q3, q4, q5, q6, q7, q8, mU, bU⟩ := map2_laid V11
  have hl2 := look_str mU ⟨#[115, 104, 111, 119]⟩ (a := some (6, .int .i64 1)) rfl
  have BU := Lib.hid (bl_thru hb0.out (Nat.le_refl _) (bl_thru bV (Nat.le_refl _) bU))
  clear mV bV mU bU hc0
  simp only at hl1 hl2
  go_wp2_with (first
    | (go_at_call 46; refine (dwords_ok _ 1 1 1 rfl _).mono ?_; rintro e w1 ⟨rfl, rfl⟩)
    | (go_at_call 48; refine (NB.out _ BU.out).mono ?_; rintro e w1 ⟨v, rfl, ho, hb⟩; obtain ⟨g, cp, rfl, hg⟩ := own_one ho; have B2 := Lib.hid (bl_thru BU.out (Nat.le_refl _) hb); have HG := Lib.hid hg; clear ho hb hg)
    | (go_at_call 50; refine (PL.out _ _ _ B2.out HG.out).mono ?_; rintro e w2 ⟨rfl, hb⟩; have B3 := Lib.hid (bl_thru B2.out (Nat.le_refl _) hb); clear hb))
  go_ret
  exact ⟨rfl, B3.out⟩
set_option maxRecDepth 100000 in
set_option maxHeartbeats 8000000 in
theorem command_cmp (A : Nat) (a b : List UInt8) (x y : Int) (hN : NumT a x) (hM : NumT b y) (hlt : ois x y = true) (hl2 : ocmp x y = -1) (w : World) (hD : Dk w) (hA : A < w.heap.size) (hW : Wr w A [[99, 109, 112], a, b]) :
    Calls Tryz.prog 39 #[.slice (some ⟨A, 0, none⟩) 3 3] w (RetT w [60]) := by
  have hc0 : w.cell? ⟨A, 0, none⟩ = some (.string ⟨#[99, 109, 112]⟩) := hW 0 _ rfl
  have hc1 : w.cell? ⟨A, 1, none⟩ = some (encL a) := hW 1 a rfl
  have hc2 : w.cell? ⟨A, 2, none⟩ = some (encL b) := hW 2 b rfl
  have NB := Lib.hid (fun w' (hb : Below w.heap.size w w') => numbers_any A 1 2 [a, b] [x, y] rfl (by simp) (fun j s z hs hy => by
    match j, hs, hy with
    | 0, hs, hy => simp at hs hy; subst hs hy; exact hN
    | 1, hs, hy => simp at hs hy; subst hs hy; exact hM
    | (j + 2), hs, hy => simp at hs) w' (hD.below hb) (Nat.lt_of_lt_of_le hA hb.size) (fun j s hs => by
    match j, hs with
    | 0, hs => simp at hs; subst hs; exact (hb.cell (p := ⟨A, 1, none⟩) hA).trans hc1
    | 1, hs => simp at hs; subst hs; exact (hb.cell (p := ⟨A, 2, none⟩) hA).trans hc2
    | (j + 2), hs => simp at hs))
  have PL := Lib.hid (fun g cp w' h0 h1 => plain_cmp g cp x y ⟨hN.1, hM.1⟩ hlt hl2 w' h0 h1)
  have hmm := @run_makeMap Tryz.prog
  unfold RetT at PL ⊢
  clear hN hM hD hW hA hlt hl2
  go_enter Tryz.func39, Tryz.ntmps39
  go_wp2
  go_quiet (fail)
  have hb0 : Hid (Below w.heap.size w (w.drewN nq)) := Lib.hid (below_to_drewN (Below.refl _ _))
  generalize w.drewN nq = wa at *
  obtain ⟨V1, V2, V3, V4, V5, V6, V7, V8, V9, V10, V11, r1, r2, r3, r4, r5, r6, r7, r8, r9, r10, r11, mV, bV⟩ := map1_laid wa
  have hl1 := look_str mV ⟨#[99, 109, 112]⟩ (a := none) rfl
  obtain ⟨U1, U2, U3, U4, U5, U6, U7, U8, q1, q2, q3, q4, q5, q6, q7, q8, mU, bU⟩ := map2_laid V11
  have hl2 := look_str mU ⟨#[99, 109, 112]⟩ (a := some (7, .int .i64 2)) rfl
  have BU := Lib.hid (bl_thru hb0.out (Nat.le_refl _) (bl_thru bV (Nat.le_refl _) bU))
  clear mV bV mU bU hc0
  simp only at hl1 hl2
  go_wp2_with (first
    | (go_at_call 46; refine (dwords_ok _ 2 2 2 rfl _).mono ?_; rintro e w1 ⟨rfl, rfl⟩)
    | (go_at_call 48; refine (NB.out _ BU.out).mono ?_; rintro e w1 ⟨v, rfl, ho, hb⟩; obtain ⟨g, cp, rfl, hg⟩ := own_two ho; have B2 := Lib.hid (bl_thru BU.out (Nat.le_refl _) hb); have HG := Lib.hid hg; clear ho hb hg)
    | (go_at_call 50; refine (PL.out _ _ _ HG.out.1 HG.out.2).mono ?_; rintro e w2 ⟨rfl, hb⟩; have B3 := Lib.hid (bl_thru B2.out (Nat.le_refl _) hb); clear hb))
  go_ret
  exact ⟨rfl, B3.out⟩
set_option maxRecDepth 100000 in
set_option maxHeartbeats 8000000 in
theorem command_add (A : Nat) (a b : List UInt8) (x y r : Int) (c : Bool) (hN : NumT a x) (hM : NumT b y) (hr : 0 ≤ r ∧ r ≤ 18446744073709551615)
    (hS : ∀ w', Tab w' → Calls Tryz.prog 66 #[.int .u64 x, .int .u64 y, .int .i64 0] w' fun e w2 => e = .returned (.tuple #[.int .u64 r, .bool c, .int .i64 0]) ∧ Below w'.heap.size w' w2)
    (w : World) (hD : Dk w) (hA : A < w.heap.size) (hW : Wr w A [[97, 100, 100], a, b, [110, 101, 97, 114]]) :
    Calls Tryz.prog 39 #[.slice (some ⟨A, 0, none⟩) 4 4] w (RetT w (rsT r ++ lsT c)) := by
  have hc0 : w.cell? ⟨A, 0, none⟩ = some (.string ⟨#[97, 100, 100]⟩) := hW 0 _ rfl
  have hc1 : w.cell? ⟨A, 1, none⟩ = some (encL a) := hW 1 a rfl
  have hc2 : w.cell? ⟨A, 2, none⟩ = some (encL b) := hW 2 b rfl
  have hc3 : w.cell? ⟨A, 3, none⟩ = some (.string ⟨#[110, 101, 97, 114]⟩) := hW 3 _ rfl
  have NB := Lib.hid (fun w' (hb : Below w.heap.size w w') => numbers_any A 1 3 [a, b] [x, y] rfl (by simp) (fun j s z hs hy => by
    match j, hs, hy with
    | 0, hs, hy => simp at hs hy; subst hs hy; exact hN
    | 1, hs, hy => simp at hs hy; subst hs hy; exact hM
    | (j + 2), hs, hy => simp at hs) w' (hD.below hb) (Nat.lt_of_lt_of_le hA hb.size) (fun j s hs => by
    match j, hs with
    | 0, hs => simp at hs; subst hs; exact (hb.cell (p := ⟨A, 1, none⟩) hA).trans hc1
    | 1, hs => simp at hs; subst hs; exact (hb.cell (p := ⟨A, 2, none⟩) hA).trans hc2
    | (j + 2), hs => simp at hs))
  have RD := Lib.hid (fun g cp w' (hb : Below w.heap.size w w') h0 h1 => rounded_add g cp x y r c ⟨hN.1, hM.1⟩ hr w' (hD.below hb) hS h0 h1)
  have HC := Lib.hid (fun w' (hb : Below w.heap.size w w') => (hb.cell (p := ⟨A, 3, none⟩) hA).trans hc3)
  have hmm := @run_makeMap Tryz.prog
  unfold RetT at RD ⊢
  generalize rsT r ++ lsT c = sx at *
  clear hN hM hD hW hA hS
  go_enter Tryz.func39, Tryz.ntmps39
  go_wp2
  go_quiet (fail)
  have hb0 : Hid (Below w.heap.size w (w.drewN nq)) := Lib.hid (below_to_drewN (Below.refl _ _))
  generalize w.drewN nq = wa at *
  obtain ⟨V1, V2, V3, V4, V5, V6, V7, V8, V9, V10, V11, r1, r2, r3, r4, r5, r6, r7, r8, r9, r10, r11, mV, bV⟩ := map1_laid wa
  have hl1 := look_str mV ⟨#[97, 100, 100]⟩ (a := some (0, .int .i64 2)) rfl
  have BU := Lib.hid (bl_thru hb0.out (Nat.le_refl _) bV)
  clear mV bV hc0
  simp only at hl1
  go_wp2_with (go_at_call 46; refine (dwords_ok _ 3 3 3 rfl _).mono ?_; rintro e w1 ⟨rfl, rfl⟩)
  replace BU := Lib.hid BU.out.drew
  go_region_held3 (fun w' => w'.cell? ⟨A, 3, none⟩ = some (.string ⟨#[110, 101, 97, 114]⟩))
    (first
      | (with_reducible exact HC.out _ BU.out)
      | (go_keep; done))
    (first
      | (go_at_call 48; refine (NB.out _ BU.out).mono ?_; rintro e w' ⟨v, rfl, ho, hb⟩; obtain ⟨g, cp, rfl, hg⟩ := own_two ho; replace BU := Lib.hid (bl_thru BU.out (Nat.le_refl _) hb); have HG := Lib.hid hg; clear ho hb hg)
      | (go_at_call 49; refine (dmode_near _).mono ?_; rintro e w' ⟨rfl, rfl⟩)
      | (go_at_call 47; refine (RD.out _ _ _ BU.out HG.out.1 HG.out.2).mono ?_; rintro e w' ⟨rfl, hb⟩; replace BU := Lib.hid (bl_thru BU.out (Nat.le_refl _) hb); clear hb))
  all_goals
    go_wp2
    go_ret
    exact ⟨rfl, BU.out⟩
end Go.Proofs.YthibhlimogcpeaaGreatDoor

/-
  deskLives: what is told of a line (Tells) at show, cmp, add, an unknown word; the text that deskLives lays.
-/
namespace Go.Proofs.YthibhlimogcpeaaGreatDoor
open Go.Shelf Go.RowKit Go.Lib Nt Fm Fl

theorem wr_alloc {w : World} {A : Nat} {l : List (List UInt8)} (h : Wr w A l) (hA : A < w.heap.size) (o : Obj) : Wr (w.alloc o) A l := h.below ((Below.refl _ w).alloc (Nat.le_refl _) o) hA
theorem shwT_len {x : Int} (x0 : 0 ≤ x) (x1 : x ≤ 18446744073709551615) : (shwT x).length ≤ 2100 := by
  have l1 := stT_len x0 x1
  have l2 := bitT_len x
  have l3 := hxT_len x0 x1
  unfold shwT
  rw [List.length_append, List.length_cons, List.length_append, List.length_cons]; omega
theorem tells_show {a : List UInt8} {x : Int} (hN : NumT a x) : Tells [swT, a] (shwT x) := by
  refine ⟨by have := shwT_len hN.1.1 hN.1.2; omega, fun w A hD hW hA => ?_⟩
  exact line_ret A [swT, a] (shwT x) w (command_show A a x hN _ (hD.alloc _) (by simp; omega) (wr_alloc hW hA _))
theorem tells_frob : Tells [[102, 114, 111, 98]] (erT 5) := by
  refine ⟨by decide +kernel, fun w A hD hW hA => ?_⟩
  exact line_pan A [[102, 114, 111, 98]] 5 (by decide) w hD.t10 (command_frob A _ (wr_alloc hW hA _ 0 _ rfl))
theorem num_one : NumT [49] 4607182418800017408 :=
  ⟨by decide, fun S w hS hD => dnum_dec [49] S hS rfl rfl rfl _ (by kernel_rfl) (by kernel_rfl) w hD⟩
theorem num_inf : NumT [105, 110, 102] 9218868437227405312 :=
  ⟨by decide, fun S w hS hD => dnum_dec [105, 110, 102] S hS rfl rfl rfl _ (by kernel_rfl) (by kernel_rfl) w hD⟩
theorem num_a : NumT [48, 46, 49] 4591870180066957722 :=
  ⟨by decide, fun S w hS hD => dnum_dec [48, 46, 49] S hS rfl rfl rfl _ (by kernel_rfl) (by kernel_rfl) w hD⟩
theorem num_b : NumT [48, 46, 50] 4596373779694328218 :=
  ⟨by decide, fun S w hS hD => dnum_dec [48, 46, 50] S hS rfl rfl rfl _ (by kernel_rfl) (by kernel_rfl) w hD⟩
theorem tells_cmp : Tells [[99, 109, 112], [49], [105, 110, 102]] [60] := by
  refine ⟨by decide, fun w A hD hW hA => ?_⟩
  exact line_ret A [[99, 109, 112], [49], [105, 110, 102]] [60] w (command_cmp A [49] [105, 110, 102] _ _ num_one num_inf (by decide) (by decide) _ (hD.alloc _) (by simp; omega) (wr_alloc hW hA _))
theorem add_facts : adV 4591870180066957722 4596373779694328218 0 = 4599075939470750516 ∧ adC 4591870180066957722 4596373779694328218 0 = true ∧ adE 0 = 0 := ⟨by kernel_rfl, by kernel_rfl, by kernel_rfl⟩
theorem tells_add : Tells [[97, 100, 100], [48, 46, 49], [48, 46, 50], [110, 101, 97, 114]] (rsT 4599075939470750516 ++ lsT true) := by
  refine ⟨by have := rsT_len (x := 4599075939470750516) (by decide) (by decide); have := lsT_len true; rw [List.length_append]; omega, fun w A hD hW hA => ?_⟩
  refine line_ret A [[97, 100, 100], [48, 46, 49], [48, 46, 50], [110, 101, 97, 114]] _ w (command_add A [48, 46, 49] [48, 46, 50] _ _ _ true num_a num_b (by decide) (fun w' hT => ?_) _ (hD.alloc _) (by simp; omega) (wr_alloc hW hA _))
  have h := sadd_any 4591870180066957722 4596373779694328218 0 (by decide) (by decide) (by decide) (by decide) w' hT
  rw [add_facts.1, add_facts.2.1, add_facts.2.2] at h
  exact h
theorem dl_lg : lgD (shD 4599075939470750516) = -1 := lgD_eq (by unfold IsLg; decide +kernel)
theorem dl_k (n : Nat) : shK 4599075939470750516 n = -(n : Int) := by unfold shK; rw [dl_lg]; omega
theorem dl_q17 : shQ 4599075939470750516 17 = 30000000000000004 := by unfold shQ; rw [dl_k]; decide +kernel
theorem dl_s1 : shSt 4599075939470750516 1 = false := by
  have q : shQ 4599075939470750516 1 = 3 := by unfold shQ; rw [dl_k]; decide +kernel
  unfold shSt shFa shFc
  rw [q, dl_k]
  decide +kernel
theorem dl_s2 : shSt 4599075939470750516 2 = false := by
  have q : shQ 4599075939470750516 2 = 30 := by unfold shQ; rw [dl_k]; decide +kernel
  unfold shSt shFa shFc
  rw [q, dl_k]
  decide +kernel
theorem dl_s3 : shSt 4599075939470750516 3 = false := by
  have q : shQ 4599075939470750516 3 = 300 := by unfold shQ; rw [dl_k]; decide +kernel
  unfold shSt shFa shFc
  rw [q, dl_k]
  decide +kernel
theorem dl_s4 : shSt 4599075939470750516 4 = false := by
  have q : shQ 4599075939470750516 4 = 3000 := by unfold shQ; rw [dl_k]; decide +kernel
  unfold shSt shFa shFc
  rw [q, dl_k]
  decide +kernel
theorem dl_s5 : shSt 4599075939470750516 5 = false := by
  have q : shQ 4599075939470750516 5 = 30000 := by unfold shQ; rw [dl_k]; decide +kernel
  unfold shSt shFa shFc
  rw [q, dl_k]
  decide +kernel
theorem dl_s6 : shSt 4599075939470750516 6 = false := by
  have q : shQ 4599075939470750516 6 = 300000 := by unfold shQ; rw [dl_k]; decide +kernel
  unfold shSt shFa shFc
  rw [q, dl_k]
  decide +kernel
theorem dl_s7 : shSt 4599075939470750516 7 = false := by
  have q : shQ 4599075939470750516 7 = 3000000 := by unfold shQ; rw [dl_k]; decide +kernel
  unfold shSt shFa shFc
  rw [q, dl_k]
  decide +kernel
theorem dl_s8 : shSt 4599075939470750516 8 = false := by
  have q : shQ 4599075939470750516 8 = 30000000 := by unfold shQ; rw [dl_k]; decide +kernel
  unfold shSt shFa shFc
  rw [q, dl_k]
  decide +kernel
theorem dl_s9 : shSt 4599075939470750516 9 = false := by
  have q : shQ 4599075939470750516 9 = 300000000 := by unfold shQ; rw [dl_k]; decide +kernel
  unfold shSt shFa shFc
  rw [q, dl_k]
  decide +kernel
theorem dl_s10 : shSt 4599075939470750516 10 = false := by
  have q : shQ 4599075939470750516 10 = 3000000000 := by unfold shQ; rw [dl_k]; decide +kernel
  unfold shSt shFa shFc
  rw [q, dl_k]
  decide +kernel
theorem dl_s11 : shSt 4599075939470750516 11 = false := by
  have q : shQ 4599075939470750516 11 = 30000000000 := by unfold shQ; rw [dl_k]; decide +kernel
  unfold shSt shFa shFc
  rw [q, dl_k]
  decide +kernel
theorem dl_s12 : shSt 4599075939470750516 12 = false := by
  have q : shQ 4599075939470750516 12 = 300000000000 := by unfold shQ; rw [dl_k]; decide +kernel
  unfold shSt shFa shFc
  rw [q, dl_k]
  decide +kernel
theorem dl_s13 : shSt 4599075939470750516 13 = false := by
  have q : shQ 4599075939470750516 13 = 3000000000000 := by unfold shQ; rw [dl_k]; decide +kernel
  unfold shSt shFa shFc
  rw [q, dl_k]
  decide +kernel
theorem dl_s14 : shSt 4599075939470750516 14 = false := by
  have q : shQ 4599075939470750516 14 = 30000000000000 := by unfold shQ; rw [dl_k]; decide +kernel
  unfold shSt shFa shFc
  rw [q, dl_k]
  decide +kernel
theorem dl_s15 : shSt 4599075939470750516 15 = false := by
  have q : shQ 4599075939470750516 15 = 300000000000000 := by unfold shQ; rw [dl_k]; decide +kernel
  unfold shSt shFa shFc
  rw [q, dl_k]
  decide +kernel
theorem dl_s16 : shSt 4599075939470750516 16 = false := by
  have q : shQ 4599075939470750516 16 = 3000000000000000 := by unfold shQ; rw [dl_k]; decide +kernel
  unfold shSt shFa shFc
  rw [q, dl_k]
  decide +kernel
theorem dl_st : ∀ i, 1 ≤ i → i < 17 → shSt 4599075939470750516 i = false := by
  intro i h1 h2
  have : i = 1 ∨ i = 2 ∨ i = 3 ∨ i = 4 ∨ i = 5 ∨ i = 6 ∨ i = 7 ∨ i = 8 ∨ i = 9 ∨ i = 10 ∨ i = 11 ∨ i = 12 ∨ i = 13 ∨ i = 14 ∨ i = 15 ∨ i = 16 := by omega
  rcases this with rfl | rfl | rfl | rfl | rfl | rfl | rfl | rfl | rfl | rfl | rfl | rfl | rfl | rfl | rfl | rfl
  · exact dl_s1
  · exact dl_s2
  · exact dl_s3
  · exact dl_s4
  · exact dl_s5
  · exact dl_s6
  · exact dl_s7
  · exact dl_s8
  · exact dl_s9
  · exact dl_s10
  · exact dl_s11
  · exact dl_s12
  · exact dl_s13
  · exact dl_s14
  · exact dl_s15
  · exact dl_s16
theorem dl_c : shC 4599075939470750516 17 = false := by
  unfold shC shFa shFc shHf
  rw [dl_q17, dl_k]
  decide +kernel
theorem dl_dig : shT 4599075939470750516 = [51, 48, 48, 48, 48, 48, 48, 48, 48, 48, 48, 48, 48, 48, 48, 48, 52] ∧ shX 4599075939470750516 = -17 := by
  obtain ⟨e1, e2⟩ := sh_end (x := 4599075939470750516) (by decide) (by decide) (by decide) (n := 17) (by decide) (stop17 (by decide) (by decide) (by decide)) dl_st dl_c
  rw [dl_q17] at e1 e2
  have e3 : shT 4599075939470750516 = [51, 48, 48, 48, 48, 48, 48, 48, 48, 48, 48, 48, 48, 48, 48, 48, 52] := e1.trans (by decide +kernel)
  refine ⟨e3, ?_⟩
  rw [e2, e3, dl_k]
  decide +kernel
theorem dl_text : stT 4599075939470750516 = [48, 46, 51, 48, 48, 48, 48, 48, 48, 48, 48, 48, 48, 48, 48, 48, 48, 48, 52] := by
  unfold stT
  rw [if_neg (by decide), if_neg (by decide), if_neg (by decide), dl_dig.1, dl_dig.2]
  decide +kernel
theorem dl_lines : dkP (lns 10 [97, 100, 100, 32, 48, 46, 49, 32, 48, 46, 50, 32, 110, 101, 97, 114, 32, 59, 32, 111, 102, 32, 116, 101, 110, 115, 10, 32, 102, 114, 111, 98, 10, 99, 109, 112, 32, 49, 32, 105, 110, 102]) = [[[97, 100, 100], [48, 46, 49], [48, 46, 50], [110, 101, 97, 114]], [[102, 114, 111, 98]], [[99, 109, 112], [49], [105, 110, 102]]] := by decide +kernel
theorem dl_out : runT [rsT 4599075939470750516 ++ lsT true, erT 5, [60]] = [48, 46, 51, 48, 48, 48, 48, 48, 48, 48, 48, 48, 48, 48, 48, 48, 48, 48, 52, 32, 35, 51, 102, 100, 51, 51, 51, 51, 51, 51, 51, 51, 51, 51, 51, 51, 52, 32, 108, 111, 115, 116, 10, 101, 114, 114, 111, 114, 32, 53, 10, 60, 10] := by
  unfold rsT
  rw [dl_text]
  decide +kernel
theorem deskRun_lives (w : World) (hD : Dk w) : Calls Tryz.prog 12 #[.string ⟨#[97, 100, 100, 32, 48, 46, 49, 32, 48, 46, 50, 32, 110, 101, 97, 114, 32, 59, 32, 111, 102, 32, 116, 101, 110, 115, 10, 32, 102, 114, 111, 98, 10, 99, 109, 112, 32, 49, 32, 105, 110, 102]⟩] w (RetT w [48, 46, 51, 48, 48, 48, 48, 48, 48, 48, 48, 48, 48, 48, 48, 48, 48, 48, 52, 32, 35, 51, 102, 100, 51, 51, 51, 51, 51, 51, 51, 51, 51, 51, 51, 51, 52, 32, 108, 111, 115, 116, 10, 101, 114, 114, 111, 114, 32, 53, 10, 60, 10]) := by
  have h := run_any [97, 100, 100, 32, 48, 46, 49, 32, 48, 46, 50, 32, 110, 101, 97, 114, 32, 59, 32, 111, 102, 32, 116, 101, 110, 115, 10, 32, 102, 114, 111, 98, 10, 99, 109, 112, 32, 49, 32, 105, 110, 102] ⟨#[97, 100, 100, 32, 48, 46, 49, 32, 48, 46, 50, 32, 110, 101, 97, 114, 32, 59, 32, 111, 102, 32, 116, 101, 110, 115, 10, 32, 102, 114, 111, 98, 10, 99, 109, 112, 32, 49, 32, 105, 110, 102]⟩ rfl (by decide) [rsT 4599075939470750516 ++ lsT true, erT 5, [60]] (by rw [dl_lines]; rfl) (by rw [dl_lines]; decide) (fun j l o hl ho => by
    rw [dl_lines] at hl
    match j, hl, ho with
    | 0, hl, ho => simp only [List.getElem?_cons_zero, Option.some.injEq] at hl ho; subst hl ho; exact tells_add
    | 1, hl, ho => simp only [List.getElem?_cons_zero, List.getElem?_cons_succ, Option.some.injEq] at hl ho; subst hl ho; exact tells_frob
    | 2, hl, ho => simp only [List.getElem?_cons_zero, List.getElem?_cons_succ, Option.some.injEq] at hl ho; subst hl ho; exact tells_cmp
    | (j + 3), hl, ho => simp at hl) w hD
  rw [dl_out] at h
  exact h
set_option maxRecDepth 100000 in
theorem deskLives_any (w : World) (hD : Dk w) : Calls Tryz.prog 8 #[] w fun e w' => e = .returned (.bool true) ∧ Below w.heap.size w w' := by
  have RN := Lib.hid (deskRun_lives w hD)
  unfold RetT at RN
  clear hD
  go_enter Tryz.func8, Tryz.ntmps8
  go_wp2_with (go_at_call 12; refine RN.out.mono ?_; rintro e w1 ⟨rfl, hb⟩; have B := Lib.hid hb; clear hb)
  go_ret
  exact ⟨rfl, B.out⟩
end Go.Proofs.YthibhlimogcpeaaGreatDoor
