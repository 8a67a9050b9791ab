/-
  SOME OF MY TEXTS in one: Hx Hp. Each says what it proves.
-/
import Derived.Test.YtofdjfdnckmmmaaGreatDoorDk
import Derived.Test.YtofdjfdnckmmmaaGreatDoorNat7
import Derived.Lib.ConvBytes
set_option linter.unusedVariables false
set_option linter.unusedSimpArgs false
/-
  PLAIN: hexadecimal digits of a number; what hex.write tells.
-/
namespace Go.Proofs.YtofdjfdnckmmmaaGreatDoor
open Nt Fm Fl

/-- a digit in sixteens -/
def hexd (v : Nat) : UInt8 := if v < 10 then UInt8.ofNat (48 + v) else UInt8.ofNat (87 + v)
/-- so many digits of a number, the last ones -/
def hxD (M : Nat) : Nat → List UInt8
  | 0 => []
  | k + 1 => hexd (M / 16 ^ k % 16) :: hxD M k
theorem hxD_len (M : Nat) : ∀ k, (hxD M k).length = k
  | 0 => rfl
  | k + 1 => by rw [hxD, List.length_cons, hxD_len M k]
/-- what stands ahead -/
def hxP (x : Int) : List UInt8 := if 9223372036854775808 ≤ x then [45, 48, 120] else [48, 120]
/-- an exponent -/
def hxE (p : Int) : List UInt8 := (if 0 ≤ p then [112, 43] else [112]) ++ Lib.itoa p
/-- the exponent of the first digit -/
def hxp (d : D) : Int := blen d.m + d.e - 1
/-- what write tells of a number -/
def hxW (x : Int) (d : D) (places : Nat) : List UInt8 :=
  hxP x ++ (if d.m = 0 then [48] ++ (if 0 < places then [46] ++ List.replicate places 48 else []) ++ [112, 43, 48]
    else [49] ++ (if 0 < places then [46] else []) ++ hxD (d.m * 2 ^ (4 * places - (blen d.m - 1))) places ++ hxE (hxp d))
/-- a limb's part -/
theorem limb_nibble {l : List Nat} (hl : Lims l) (k : Nat) : val l / 16 ^ k % 16 = (l.getD (k / 8) 0) / 2 ^ (4 * (k % 8)) % 16 := by
  have e16 : (16 : Nat) ^ k = 2 ^ (32 * (k / 8)) * 2 ^ (4 * (k % 8)) := by
    rw [← Nat.pow_add, show (16 : Nat) = 2 ^ 4 by decide, ← Nat.pow_mul]; congr 1; omega
  rw [e16, ← Nat.div_div_eq_div_mul]
  have hs : 4 * (k % 8) ≤ 28 := by omega
  generalize 4 * (k % 8) = s at *
  generalize k / 8 = j at *
  have h1 : val l / 2 ^ (32 * j) = val (l.drop j) := by
    have := val_take_drop l j
    by_cases hj : j ≤ l.length
    · have h2 := val_take_drop l j hj
      have h3 := val_lt (fun d hd => hl d (List.mem_of_mem_take hd) : Lims (l.take j))
      rw [List.length_take, Nat.min_eq_left hj] at h3
      rw [h2, Nat.add_comm, Nat.mul_add_div (Nat.two_pow_pos _), Nat.div_eq_of_lt h3, Nat.add_zero]
    · have h3 := val_lt hl
      rw [List.drop_of_length_le (by omega)]
      exact Nat.div_eq_of_lt (Nat.lt_of_lt_of_le h3 (Nat.pow_le_pow_right (by omega) (by omega)))
  rw [h1]
  cases hd : l.drop j with
  | nil =>
    have : l.getD j 0 = 0 := by
      have : l.length ≤ j := by
        exact List.drop_eq_nil_iff.1 hd
      simp [List.getD, List.getElem?_eq_none this]
    rw [this]; simp [val]
  | cons d r =>
    have hj : j < l.length := by
      rcases Nat.lt_or_ge j l.length with h | h
      · exact h
      · rw [List.drop_of_length_le h] at hd; simp at hd
    have hdd : l.getD j 0 = d := by
      rw [List.drop_eq_getElem_cons hj] at hd
      simp only [List.cons.injEq] at hd
      simp [List.getD, hj, hd.1]
    rw [hdd]
    simp only [val]
    have e32 : (4294967296 : Nat) = 2 ^ s * (2 ^ (28 - s) * 16) := by
      rw [← Nat.mul_assoc, ← Nat.pow_add, show s + (28 - s) = 28 by omega]
    rw [e32, Nat.mul_assoc, Nat.add_comm d, Nat.mul_add_div (Nat.two_pow_pos _), Nat.mul_assoc, Nat.mul_left_comm (2 ^ (28 - s)), Nat.mul_add_mod]
end Go.Proofs.YtofdjfdnckmmmaaGreatDoor

/-
  THE WALK of strconv.ParseUint at base 16, sixteen digits at most.
-/
namespace Go.Proofs.YtofdjfdnckmmmaaGreatDoor
open Go.RowKit

/-- is it a digit in sixteens? -/
def IsHx (c : UInt8) : Prop := (48 ≤ c.toNat ∧ c.toNat ≤ 57) ∨ (97 ≤ c.toNat ∧ c.toNat ≤ 102)
/-- what it counts -/
def hxv (c : UInt8) : Nat := if c.toNat ≤ 57 then c.toNat - 48 else c.toNat - 87
theorem hxv_lt {c : UInt8} (h : IsHx c) : hxv c < 16 := by
  unfold IsHx at h; unfold hxv; split <;> omega
/-- the number with such digits -/
def hxN (a : Nat) : List UInt8 → Nat
  | [] => a
  | c :: l => hxN (a * 16 + hxv c) l
theorem hxN_app (a : Nat) : ∀ (l m : List UInt8), hxN a (l ++ m) = hxN (hxN a l) m
  | [], _ => rfl
  | c :: l, m => by rw [List.cons_append, hxN, hxN, hxN_app]
theorem hxN_lt : ∀ (l : List UInt8) (a : Nat), (∀ c ∈ l, IsHx c) → hxN a l < (a + 1) * 16 ^ l.length
  | [], a, _ => by simp [hxN]
  | c :: l, a, h => by
    have h1 := hxN_lt l (a * 16 + hxv c) (fun d hd => h d (by simp [hd]))
    have h2 := hxv_lt (h c (by simp))
    rw [hxN, List.length_cons, Nat.pow_succ]
    have h3 : (a * 16 + hxv c + 1) * 16 ^ l.length ≤ ((a + 1) * 16) * 16 ^ l.length := Nat.mul_le_mul_right _ (by omega)
    have h4 : (a + 1) * (16 ^ l.length * 16) = ((a + 1) * 16) * 16 ^ l.length := by rw [Nat.mul_comm (16 ^ l.length), Nat.mul_assoc]
    omega
theorem lower_hx (c : UInt8) (h : 97 ≤ c.toNat ∧ c.toNat ≤ 102) : bits .or .u8 ((c.toNat : Nat) : Int) 32 = (c.toNat : Int) := by
  have : c.toNat = 97 ∨ c.toNat = 98 ∨ c.toNat = 99 ∨ c.toNat = 100 ∨ c.toNat = 101 ∨ c.toNat = 102 := by omega
  rcases this with h | h | h | h | h | h <;> (rw [h]; decide)
theorem below_bytes (w : World) (e : TypeId) (s : ByteArray) : Below w.heap.size w (Lib.bytesWorld w e s) := by
  unfold Lib.bytesWorld
  have h1 : Below w.heap.size w (w.drew.alloc (.cells (Lib.bytesCells w e s) e)) := ((Below.refl _ w).drew).alloc (by simp) _
  refine ⟨h1.os, h1.tape, h1.output, ?_, ?_⟩
  · simp [World.freeze]
  · intro b hb
    rw [← h1.block b hb]
    unfold World.freeze
    simp [Array.getElem?_modify]
    intro h; omega
theorem lower_any (c : Nat) (w : World) : Calls Tryz.prog 185 #[.int .u8 (c : Int)] w fun e w' => e = .returned (.int .u8 (bits .or .u8 (c : Int) 32)) ∧ w = w' := by
  go_enter Tryz.func185, Tryz.ntmps185
  go_wp2
  go_ret
  exact ⟨rfl, rfl⟩
set_option maxHeartbeats 32000000 in
set_option maxRecDepth 100000 in
theorem ipu_any (bs : List UInt8) (t : ByteArray) (ht : t = ⟨bs.toArray⟩) (h : ∀ c ∈ bs, IsHx c) (h1 : 1 ≤ bs.length) (h8 : bs.length ≤ 16) (w : World) :
    Calls Tryz.prog 140 #[.string t, .int .i64 16, .int .i64 64] w fun e w' => e = .returned (.tuple #[.int .u64 ((hxN 0 bs : Nat) : Int), .nilIface]) ∧ w' = Lib.bytesWorld w 5 t := by
  have hz : t.size = bs.length := by rw [ht]; rfl
  have hne : t.size ≠ 0 := by omega
  have hemp : t.toList.isEmpty = false := by
    rw [← decide_eq_emptyBytes]
    exact decide_eq_false (fun h => hne (by rw [h]; rfl))
  have hcv := Lib.run_convert_string_bytes (P := Tryz.prog) w 9 37 5 t (u := .string) Tryz.underlying9 Tryz.underlying37 Tryz.underlying5
  have hB : ∀ j, j < t.size → (Lib.bytesWorld w 5 t).cell? ⟨w.heap.size, j, none⟩ = some (.int .u8 (t.data.toList.getD j 0).toNat) := fun j hj => Lib.bytesWorld_cell w 5 t j hj
  obtain ⟨W1, hW1⟩ : ∃ W1, W1 = Lib.bytesWorld w 5 t := ⟨_, rfl⟩
  rw [← hW1] at hcv hB ⊢
  clear hW1
  have hd : t.data.toList = bs := by rw [ht]
  rw [hd] at hB
  obtain ⟨R, hR⟩ : ∃ R : Int, R = ((hxN 0 bs : Nat) : Int) := ⟨_, rfl⟩
  rw [← hR]
  have HR := Lib.hid hR
  have HH := Lib.hid h
  have hmv : IntKind.u64.wrap (IntKind.u64.wrap 18446744073709551616 - 1) = 18446744073709551615 := by
    rw [IntKind.wrap_u64, IntKind.wrap_u64]
    decide
  have h8' := h8
  have HB := Lib.hid hB
  clear hR h ht hd hB
  go_enter Tryz.func140, Tryz.ntmps140
  go_wp2
  go_loop [12, 13, 101] (fun vu vn vi => ∃ (k : Nat) (a : Int), vu = .bool false ∧ vn = .int .u64 a ∧ vi = .int .i64 k ∧ k ≤ t.size ∧ 0 ≤ a ∧ a < 18446744073709551616 ∧ Hid (a = ((hxN 0 (bs.take k) : Nat) : Int) ∧ True))
    (fun _ _ vi => t.size - (intOf vi).toNat)
  case atStart => exact ⟨0, 0, rfl, rfl, rfl, by omega, by omega, by omega, Lib.hid ⟨rfl, trivial⟩⟩
  case round =>
    obtain ⟨k, a, rfl, rfl, rfl, hk, a0, a1, ha⟩ := hrel
    by_cases hkn : k < t.size
    · have hc := HB.out k hkn
      obtain ⟨c, hcc⟩ : ∃ c, c = bs.getD k 0 := ⟨_, rfl⟩
      rw [← hcc] at hc
      have hkb : k < bs.length := by omega
      have hce : bs[k] = c := by rw [hcc]; simp [List.getD, hkb]
      have hx : IsHx c := HH.out c (by rw [← hce]; exact List.getElem_mem hkb)
      have htk : hxN 0 (bs.take (k + 1)) = hxN 0 (bs.take k) * 16 + hxv c := by
        rw [List.take_succ_eq_append_getElem hkb, hxN_app, hce]; rfl
      have hlt0 := hxN_lt (bs.take k) 0 (fun d hd => HH.out d (List.mem_of_mem_take hd))
      have hle : (16 : Nat) ^ (bs.take k).length ≤ 16 ^ 15 := Nat.pow_le_pow_right (by omega) (by rw [List.length_take]; omega)
      have e168 : (16 : Nat) ^ 15 = 1152921504606846976 := by decide
      have hlt : a < 1152921504606846976 := by rw [ha.out.1]; omega
      have hv := hxv_lt hx
      have HN : Hid (a * 16 + ((hxv c : Nat) : Int) = ((hxN 0 (bs.take (k + 1)) : Nat) : Int) ∧ True) := Lib.hid ⟨by rw [htk, ha.out.1]; omega, trivial⟩
      have hlt2 : a * 16 + ((hxv c : Nat) : Int) < 18446744073709551616 := by omega
      clear hlt0 hle htk e168 ha HB hce
      rcases hx with hx | hx
      · obtain ⟨d0, d1⟩ := hx
        have hvd : ((hxv c : Nat) : Int) = (c.toNat : Int) - 48 := by unfold hxv; rw [if_pos d1]; omega
        rw [hvd] at HN hlt2
        clear hvd hv hcc
        go_wp2
        refine ⟨⟨k + 1, a * 16 + ((c.toNat : Int) - 48), rfl, (by first | rfl | (congr 1; omega)), (by first | rfl | (congr 1; omega)), by omega, by omega, hlt2, HN⟩, by simp [intOf]; omega⟩
      · obtain ⟨d0, d1⟩ := hx
        have hlw := lower_hx c ⟨d0, d1⟩
        have hvd : ((hxv c : Nat) : Int) = (c.toNat : Int) - 87 := by unfold hxv; rw [if_neg (by omega)]; omega
        rw [hvd] at HN hlt2
        clear hvd hv hcc
        go_wp2_with (go_at_call 185; refine (lower_any _ _).mono ?_; rintro e w' ⟨rfl, rfl⟩; rw [hlw])
        refine ⟨⟨k + 1, a * 16 + ((c.toNat : Int) - 87), rfl, (by first | rfl | (congr 1; omega)), (by first | rfl | (congr 1; omega)), by omega, by omega, hlt2, HN⟩, by simp [intOf]; omega⟩
    · obtain rfl : k = t.size := by omega
      have ht2 : bs.take t.size = bs := by rw [hz, List.take_length]
      have he : a = R := by rw [ha.out.1, HR.out, ht2]
      subst he
      clear ha ht2
      go_wp2
      go_ret2
      exact ⟨rfl, rfl⟩
set_option maxHeartbeats 4000000 in
theorem pu16_any (bs : List UInt8) (t : ByteArray) (ht : t = ⟨bs.toArray⟩) (h : ∀ c ∈ bs, IsHx c) (h1 : 1 ≤ bs.length) (h8 : bs.length ≤ 16) (w : World) :
    Calls Tryz.prog 106 #[.string t, .int .i64 16, .int .i64 64] w fun e w' => e = .returned (.tuple #[.int .u64 ((hxN 0 bs : Nat) : Int), .nilIface]) ∧ Below w.heap.size w w' := by
  have IP := Lib.hid (fun w' => ipu_any bs t ht h h1 h8 w')
  have HB := Lib.hid (below_bytes w 5 t)
  clear h ht
  go_enter Tryz.func106, Tryz.ntmps106
  go_wp2_with (go_at_call 140; refine (IP.out _).mono ?_; rintro e w1 ⟨rfl, rfl⟩)
  go_ret2
  exact ⟨rfl, HB.out⟩
end Go.Proofs.YtofdjfdnckmmmaaGreatDoor
