/-
  SOME OF MY TEXTS in one: Ja Jb. Each says what it proves.
-/
import Derived.Lib.FieldsP
import Derived.Lib.SplitLaws
import Derived.Test.YthibhlimogcpeaaGreatDoorHxp
set_option linter.unusedVariables false
set_option linter.unusedSimpArgs false
/-
  PLAIN: a text, line by line and word by word, as package desk reads it (bytes).
-/
namespace Go.Proofs.YthibhlimogcpeaaGreatDoor
open Go.Lib

/-- a blank -/
def isBlR (c : Nat) : Bool := c == 32 || c == 9
/-- the words of a line, behind what was begun -/
def wds : List UInt8 → List UInt8 → List (List UInt8)
  | cur, [] => if cur = [] then [] else [cur]
  | cur, b :: t => if b = 32 ∨ b = 9 then (if cur = [] then [] else [cur]) ++ wds [] t else wds (cur ++ [b]) t
/-- the pieces of a text between c -/
def lns (c : UInt8) : List UInt8 → List (List UInt8)
  | [] => [[]]
  | b :: t => if b = c then [] :: lns c t else match lns c t with
    | x :: xs => (b :: x) :: xs
    | [] => [[b]]
/-- no blank -/
def Nb (l : List UInt8) : Prop := ∀ b ∈ l, b ≠ 32 ∧ b ≠ 9

theorem wds_skip : ∀ (m : List UInt8) (cur t : List UInt8), Nb m → wds cur (m ++ t) = wds (cur ++ m) t
  | [], cur, t, _ => by simp
  | b :: m, cur, t, h => by
    have hb := h b (by simp)
    rw [List.cons_append, wds, if_neg (by rintro (e | e) <;> simp [e] at hb), wds_skip m _ t (fun x hx => h x (by simp [hx]))]
    simp

theorem dec_low (s : ByteArray) (pos : Nat) (h : (s.get! pos).toNat < 128) : Utf8.decode s pos = ((s.get! pos).toNat, 1) := by
  rw [decode_at]; unfold decodeN; rw [if_pos h]
theorem decN_high (n b0 b1 b2 b3 : Nat) (hb : b0 < 256) (h : 128 ≤ b0) (hn : 1 ≤ n) :
    128 ≤ (decodeN n b0 b1 b2 b3).1 ∧ 1 ≤ (decodeN n b0 b1 b2 b3).2 ∧ (decodeN n b0 b1 b2 b3).2 ≤ n ∧ (decodeN n b0 b1 b2 b3).2 ≤ 4 ∧ (1 < (decodeN n b0 b1 b2 b3).2 → 128 ≤ b1) ∧ (2 < (decodeN n b0 b1 b2 b3).2 → 128 ≤ b2) ∧ (3 < (decodeN n b0 b1 b2 b3).2 → 128 ≤ b3) := by
  unfold decodeN
  rw [if_neg (by omega)]
  repeat' split
  all_goals (simp only; omega)
theorem get_toList (s : ByteArray) (i : Nat) (h : i < s.size) : s.data.toList[i]? = some (s.get! i) := by
  obtain ⟨d⟩ := s
  have h' : i < d.size := h
  show d.toList[i]? = some (d[i]!)
  rw [Array.getElem?_toList, getElem!_pos d i h', Array.getElem?_eq_getElem h']

theorem piece_nb (s : ByteArray) (pos k : Nat) (h : ∀ j, pos ≤ j → j < pos + k → 128 ≤ (s.get! j).toNat) (hk : pos + k ≤ s.size) : Nb ((s.data.toList.drop pos).take k) := by
  intro b hb
  obtain ⟨j, hj⟩ := List.mem_iff_getElem?.1 hb
  rw [List.getElem?_take] at hj
  split at hj
  · rename_i hjk
    rw [List.getElem?_drop, get_toList s _ (by omega)] at hj
    cases hj
    have := h (pos + j) (by omega) (by omega)
    constructor <;> (intro e; rw [e] at this; revert this; decide)
  · cases hj

theorem drop_head (s : ByteArray) (pos : Nat) (h : pos < s.size) : s.data.toList.drop pos = s.get! pos :: s.data.toList.drop (pos + 1) := by
  have hl : pos < s.data.toList.length := by rw [← size_eq]; exact h
  rw [List.drop_eq_getElem_cons hl]
  congr 1
  have := get_toList s pos h
  rw [List.getElem?_eq_getElem hl] at this
  exact Option.some.inj this

def pcs (l : List UInt8) (x : Nat × Nat) : List UInt8 := (l.drop x.1).take (x.2 - x.1)
def opn (l : List UInt8) (st : Option Nat) (pos : Nat) : List UInt8 := match st with
  | some a => pcs l (a, pos)
  | none => []
theorem pcs_ne (s : ByteArray) (a pos : Nat) (h : a < pos) (hp : pos ≤ s.size) : pcs s.data.toList (a, pos) ≠ [] := by
  intro e
  have := congrArg List.length e
  have hz := size_eq s
  simp [pcs, List.length_take, List.length_drop] at this
  simp at hz
  omega
theorem pcs_grow (l : List UInt8) (a pos k : Nat) (h : a ≤ pos) : pcs l (a, pos) ++ (l.drop pos).take k = pcs l (a, pos + k) := by
  unfold pcs
  simp only
  rw [show pos + k - a = (pos - a) + k by omega, List.take_add, List.drop_drop, show a + (pos - a) = pos by omega]

/-- from pos on: what the pass over the runes finds is what the pass over the bytes finds -/
theorem span_wds (s : ByteArray) : ∀ (f pos : Nat) (st : Option Nat) (acc : List (Nat × Nat)), s.size ≤ pos + f → pos ≤ s.size → (∀ a, st = some a → a < pos) →
    (closeSpans s (spansFromP isBlR s f pos st acc)).map (pcs s.data.toList) = acc.map (pcs s.data.toList) ++ wds (opn s.data.toList st pos) (s.data.toList.drop pos) := by
  have fin : ∀ (st : Option Nat) (acc : List (Nat × Nat)), (∀ a, st = some a → a < s.size) →
      (closeSpans s (acc, st)).map (pcs s.data.toList) = acc.map (pcs s.data.toList) ++ wds (opn s.data.toList st s.size) (s.data.toList.drop s.size) := by
    intro st acc hst
    have hd : s.data.toList.drop s.size = [] := List.drop_eq_nil_of_le (by rw [← size_eq]; exact Nat.le_refl _)
    rw [hd]
    cases st with
    | none => simp [closeSpans, opn, wds]
    | some a => simp [closeSpans, opn, wds, pcs_ne s a s.size (hst a rfl) (Nat.le_refl _)]
  intro f
  induction f with
  | zero =>
    intro pos st acc h hp hst
    obtain rfl : pos = s.size := by omega
    exact fin st acc hst
  | succ f ih =>
    intro pos st acc h hp hst
    by_cases hlt : pos < s.size
    · by_cases hb : (s.get! pos).toNat < 128
      · have hd := dec_low s pos hb
        unfold spansFromP
        rw [if_pos hlt, hd, drop_head s pos hlt]
        simp only
        by_cases hbl : s.get! pos = 32 ∨ s.get! pos = 9
        · have e : isBlR (s.get! pos).toNat = true := by rcases hbl with e | e <;> (rw [e]; rfl)
          rw [if_pos e, wds, if_pos hbl]
          cases st with
          | none =>
            simp only
            rw [ih _ none acc (by omega) (by omega) (fun a h => by cases h)]
            simp [opn]
          | some a =>
            simp only
            rw [ih _ none _ (by omega) (by omega) (fun a h => by cases h)]
            have hn := pcs_ne s a pos (hst a rfl) hp
            simp [opn, hn]
        · have e : isBlR (s.get! pos).toNat = false := by
            unfold isBlR
            rw [Bool.or_eq_false_iff, beq_eq_false_iff_ne, beq_eq_false_iff_ne]
            exact ⟨fun e => hbl (.inl (UInt8.toNat_inj.1 e)), fun e => hbl (.inr (UInt8.toNat_inj.1 e))⟩
          have ht : [s.get! pos] = (s.data.toList.drop pos).take 1 := by rw [drop_head s pos hlt]; rfl
          rw [e, if_neg (by simp), wds, if_neg hbl]
          cases st with
          | none =>
            simp only
            rw [ih _ (some pos) acc (by omega) (by omega) (fun a h => by cases h; omega)]
            congr 2
            rw [ht]
            simp [opn, pcs]
          | some a =>
            simp only
            rw [ih _ (some a) acc (by omega) (by omega) (fun b h => by cases h; have := hst a rfl; omega)]
            congr 2
            rw [ht]
            exact (pcs_grow _ _ _ _ (Nat.le_of_lt (hst a rfl))).symm
      · obtain ⟨r, k, hrk⟩ : ∃ r k, Utf8.decode s pos = (r, k) := ⟨_, _, rfl⟩
        have hh := decN_high (s.size - pos) (s.get! pos).toNat (s.get! (pos + 1)).toNat (s.get! (pos + 2)).toNat (s.get! (pos + 3)).toNat (UInt8.toNat_lt _) (by omega) (by omega)
        rw [← decode_at, hrk] at hh
        obtain ⟨h1, h2, h3, h4, h5, h6, h7⟩ := hh
        simp only at h1 h2 h3 h4 h5 h6 h7
        have hnb : Nb ((s.data.toList.drop pos).take k) := piece_nb s pos k (fun j j0 j1 => by
          have : j = pos ∨ j = pos + 1 ∨ j = pos + 2 ∨ j = pos + 3 := by omega
          rcases this with e | e | e | e <;> subst e
          · omega
          · exact h5 (by omega)
          · exact h6 (by omega)
          · exact h7 (by omega)) (by omega)
        have e : isBlR r = false := by
          unfold isBlR
          rw [Bool.or_eq_false_iff, beq_eq_false_iff_ne, beq_eq_false_iff_ne]
          omega
        have hsp : s.data.toList.drop pos = (s.data.toList.drop pos).take k ++ s.data.toList.drop (pos + k) := by
          rw [← List.drop_drop, List.take_append_drop]
        unfold spansFromP
        rw [if_pos hlt, hrk]
        simp only
        rw [e, if_neg (by simp)]
        cases st with
        | none =>
          simp only
          rw [ih _ (some pos) acc (by omega) (by omega) (fun a h => by cases h; omega)]
          conv => rhs; rw [hsp, wds_skip _ _ _ hnb]
          congr 2
          simp [opn, pcs]
        | some a =>
          simp only
          rw [ih _ (some a) acc (by omega) (by omega) (fun b h => by cases h; have := hst a rfl; omega)]
          conv => rhs; rw [hsp, wds_skip _ _ _ hnb]
          congr 2
          exact (pcs_grow _ _ _ _ (Nat.le_of_lt (hst a rfl))).symm
    · obtain rfl : pos = s.size := by omega
      rw [spansFromP_end isBlR s _ _ _ _ hlt]
      exact fin st acc hst

theorem fieldsP_wds (s : ByteArray) : (goFieldsP isBlR s).map (·.data.toList) = wds [] s.data.toList := by
  have h := span_wds s s.size 0 none [] (by omega) (Nat.zero_le _) (fun a h => by cases h)
  simp only [List.map_nil, List.nil_append, opn, List.drop_zero] at h
  unfold goFieldsP spansOfP
  rw [← h, List.map_map]
  congr 1
  funext x
  simp [pcs, extract_data]

theorem idx_one (c : UInt8) : ∀ l : List UInt8, (index l [c] = -1 ∧ c ∉ l) ∨ ∃ m t, l = m ++ c :: t ∧ c ∉ m ∧ index l [c] = (m.length : Int)
  | [] => .inl ⟨rfl, by simp⟩
  | b :: l => by
    unfold index
    by_cases hb : b = c
    · subst hb
      exact .inr ⟨[], l, rfl, by simp, by simp⟩
    · have hp : [c].isPrefixOf (b :: l) = false := by simp [List.isPrefixOf, beq_eq_false_iff_ne]; exact fun e => hb e.symm
      rw [hp]
      rcases idx_one c l with ⟨h1, h2⟩ | ⟨m, t, h1, h2, h3⟩
      · exact .inl ⟨by simp [h1], by simp [h2]; exact fun e => hb e.symm⟩
      · refine .inr ⟨b :: m, t, by rw [h1]; rfl, by simp [h2]; exact fun e => hb e.symm, ?_⟩
        rw [h3]
        have : ((m.length : Int) == -1) = false := by rw [beq_eq_false_iff_ne]; omega
        simp [this]
theorem lns_none (c : UInt8) : ∀ l : List UInt8, c ∉ l → lns c l = [l]
  | [], _ => rfl
  | b :: l, h => by
    simp at h
    rw [lns, if_neg (fun e => h.1 e.symm), lns_none c l h.2]
theorem lns_hit (c : UInt8) : ∀ m t : List UInt8, c ∉ m → lns c (m ++ c :: t) = m :: lns c t
  | [], t, _ => by simp [lns]
  | b :: m, t, h => by
    simp at h
    rw [List.cons_append, lns, if_neg (fun e => h.1 e.symm), lns_hit c m t h.2]
theorem splitK_lns (c : UInt8) : ∀ (n : Nat) (l : List UInt8), l.length ≤ n → splitK [c] 0 (Lib.count l [c]) l = lns c l
  | n, l, hn => by
    rcases idx_one c l with ⟨h1, h2⟩ | ⟨m, t, h1, h2, h3⟩
    · rw [count_miss h1, lns_none c l h2]; rfl
    · rw [count_hit (by simp) h3, Nat.add_comm, splitK, if_neg (by rw [h3, beq_iff_eq]; omega), h3]
      have e1 : l.take ((m.length : Int).toNat + 0) = m := by rw [h1]; simp
      have e2 : l.drop (m.length + [c].length) = t := by rw [h1]; simp
      rw [e1]
      have e3 : l.drop ((m.length : Int).toNat + [c].length) = t := by simpa using e2
      rw [e3, e2]
      cases n with
      | zero => rw [h1] at hn; simp at hn
      | succ n =>
        rw [splitK_lns c n t (by rw [h1] at hn; simp at hn; omega), h1, lns_hit c m t h2]
theorem splitB_lns (c : UInt8) (s : ByteArray) : (splitB ⟨#[c]⟩ 0 (countB s ⟨#[c]⟩) s).map (·.data.toList) = lns c s.data.toList := by
  rw [splitB_data]
  exact splitK_lns c _ _ (Nat.le_refl _)
theorem dkw_all {c : UInt8} : ∀ {l : List UInt8}, c ∉ l → l.takeWhile (· != c) = l
  | [], _ => rfl
  | b :: l, h => by
    simp at h
    rw [List.takeWhile_cons_of_pos (by simp; exact fun e => h.1 e.symm), dkw_all h.2]
theorem cut_one (c : UInt8) (l : List UInt8) : (cut l [c]).1 = l.takeWhile (· != c) := by
  unfold cut
  rcases idx_one c l with ⟨h1, h2⟩ | ⟨m, t, h1, h2, h3⟩
  · rw [if_neg (by rw [h1]; decide)]
    exact (dkw_all h2).symm
  · rw [if_pos (by rw [h3]; omega), h3]
    simp only [Int.toNat_natCast]
    rw [h1, List.take_left' rfl, List.takeWhile_append_of_pos (by intro b hb; simp; exact fun e => h2 (e ▸ hb))]
    simp

/-- the lines of a text that have a word, word by word -/
def dkL (t : List UInt8) : List (List (List UInt8)) := ((lns 10 t).map fun s => wds [] (s.takeWhile (· != 59))).filter (!·.isEmpty)

theorem lns_len (c : UInt8) : ∀ l : List UInt8, (lns c l).length ≤ l.length + 1
  | [] => by simp [lns]
  | b :: t => by
    have h := lns_len c t
    rw [lns]
    split
    · simp; omega
    · split
      · rename_i x xs e; rw [e] at h; simp at h ⊢; omega
      · simp
end Go.Proofs.YthibhlimogcpeaaGreatDoor

/-
  PLAIN: the bits of a number, in sixteens; the lines and words of the texts that DeskBack lays.
-/
namespace Go.Proofs.YthibhlimogcpeaaGreatDoor
open Go.Lib

/-- a digit in sixteens -/
def hxd (d : Nat) : UInt8 := if d < 10 then UInt8.ofNat (48 + d) else UInt8.ofNat (87 + d)
/-- n digits -/
def hdg (x : Nat) : Nat → List UInt8
  | 0 => []
  | n + 1 => hdg (x / 16) n ++ [hxd (x % 16)]
theorem hdg_len : ∀ (n x : Nat), (hdg x n).length = n
  | 0, _ => rfl
  | n + 1, x => by simp [hdg, hdg_len n]
theorem hxd_hx (d : Nat) (h : d < 16) : IsHx (hxd d) ∧ hxv (hxd d) = d := by
  have : d = 0 ∨ d = 1 ∨ d = 2 ∨ d = 3 ∨ d = 4 ∨ d = 5 ∨ d = 6 ∨ d = 7 ∨ d = 8 ∨ d = 9 ∨ d = 10 ∨ d = 11 ∨ d = 12 ∨ d = 13 ∨ d = 14 ∨ d = 15 := by omega
  rcases this with h | h | h | h | h | h | h | h | h | h | h | h | h | h | h | h <;> subst h <;> exact ⟨by unfold IsHx; decide, by decide⟩
theorem hdg_hx : ∀ (n x : Nat), ∀ c ∈ hdg x n, IsHx c
  | 0, _, c, h => by simp [hdg] at h
  | n + 1, x, c, h => by
    simp [hdg] at h
    rcases h with h | h
    · exact hdg_hx n _ c h
    · subst h; exact (hxd_hx _ (Nat.mod_lt _ (by omega))).1
theorem hdg_val : ∀ (n x : Nat), x < 16 ^ n → hxN 0 (hdg x n) = x
  | 0, x, h => by simp at h; subst h; rfl
  | n + 1, x, h => by
    rw [hdg, hxN_app, hdg_val n (x / 16) (by rw [Nat.pow_succ] at h; omega)]
    simp only [hxN]
    rw [(hxd_hx _ (Nat.mod_lt _ (by omega))).2]
    omega
theorem hdg_zero : ∀ n, hdg 0 n = List.replicate n 48
  | 0 => rfl
  | n + 1 => by rw [hdg, hdg_zero n, List.replicate_succ']; rfl
theorem hdg_pad (m : Nat) : ∀ (n x : Nat), x < 16 ^ n → hdg x (m + n) = List.replicate m 48 ++ hdg x n
  | 0, x, h => by simp at h; subst h; rw [hdg_zero, hdg_zero]; simp
  | n + 1, x, h => by
    rw [← Nat.add_assoc, hdg, hdg_pad m n (x / 16) (by rw [Nat.pow_succ] at h; omega), hdg, List.append_assoc]
/-- the bits of a number -/
def bitT (x : Int) : List UInt8 := 35 :: hdg x.toNat 16

/-- what may stand in a word -/
def Wd (l : List UInt8) : Prop := l ≠ [] ∧ ∀ b ∈ l, b ≠ 10 ∧ b ≠ 59 ∧ b ≠ 32 ∧ b ≠ 9
theorem Wd.nb {l : List UInt8} (h : Wd l) : Nb l := fun b hb => ⟨(h.2 b hb).2.2.1, (h.2 b hb).2.2.2⟩
theorem Wd.n10 {l : List UInt8} (h : Wd l) : (10 : UInt8) ∉ l := fun hb => (h.2 10 hb).1 rfl
theorem Wd.n59 {l : List UInt8} (h : Wd l) : (59 : UInt8) ∉ l := fun hb => (h.2 59 hb).2.1 rfl
/-- show -/
def swT : List UInt8 := [115, 104, 111, 119]
theorem swT_wd : Wd swT := ⟨by simp [swT], by unfold swT; decide⟩
theorem wds_two {a b : List UInt8} (ha : Wd a) (hb : Wd b) : wds [] (a ++ 32 :: b) = [a, b] := by
  rw [wds_skip a [] _ ha.nb, List.nil_append, wds, if_pos (.inl rfl), if_neg ha.1]
  have := wds_skip b [] [] hb.nb
  rw [List.append_nil] at this
  rw [this]
  simp [wds, hb.1]
theorem line_two {a b : List UInt8} (ha : Wd a) (hb : Wd b) : wds [] ((a ++ 32 :: b).takeWhile (· != 59)) = [a, b] := by
  rw [dkw_all (by simp; exact ⟨ha.n59, hb.n59⟩), wds_two ha hb]
theorem dkL_one {a : List UInt8} (ha : Wd a) : dkL (swT ++ 32 :: a ++ [10]) = [[swT, a]] := by
  unfold dkL
  rw [lns_hit 10 (swT ++ 32 :: a) [] (by simp; exact ⟨swT_wd.n10, ha.n10⟩)]
  simp [lns, line_two swT_wd ha]
  simp [wds]
theorem dkL_two {a b : List UInt8} (ha : Wd a) (hb : Wd b) : dkL (swT ++ 32 :: a ++ 10 :: (swT ++ 32 :: b ++ [10])) = [[swT, a], [swT, b]] := by
  unfold dkL
  rw [lns_hit 10 (swT ++ 32 :: a) _ (by simp; exact ⟨swT_wd.n10, ha.n10⟩), lns_hit 10 (swT ++ 32 :: b) [] (by simp; exact ⟨swT_wd.n10, hb.n10⟩)]
  simp [lns, line_two swT_wd ha, line_two swT_wd hb]
  simp [wds]
theorem bitT_wd (x : Int) : Wd (bitT x) := by
  refine ⟨by simp [bitT], fun b hb => ?_⟩
  simp [bitT] at hb
  rcases hb with rfl | hb
  · decide
  · have := hdg_hx 16 _ b hb
    unfold IsHx at this
    refine ⟨?_, ?_, ?_, ?_⟩ <;> (intro e; subst e; revert this; decide)
end Go.Proofs.YthibhlimogcpeaaGreatDoor
