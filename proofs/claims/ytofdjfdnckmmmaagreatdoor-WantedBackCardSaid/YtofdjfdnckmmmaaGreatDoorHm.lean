/-
  THE WALKS of hex.mantissa, hex.take.
-/
import Derived.Test.YtofdjfdnckmmmaaGreatDoorHxp
import Derived.Test.YtofdjfdnckmmmaaGreatDoorLb
import Derived.Test.YtofdjfdnckmmmaaGreatDoorBd
import Derived.Test.YtofdjfdnckmmmaaGreatDoorNa
import Derived.Deep.LoopGhost
import Derived.Shelf.Strings.SlTrimAscii
set_option linter.unusedVariables false
set_option linter.unusedSimpArgs false
namespace Go.Proofs.YtofdjfdnckmmmaaGreatDoor
open Go.Shelf Go.RowKit Go.Lib Nt

theorem hxN_two (a : Nat) : ∀ l : List UInt8, hxN a l = a * 2 ^ (4 * l.length) + hxN 0 l
  | [] => by simp [hxN]
  | c :: l => by
    rw [hxN, hxN, hxN_two (a * 16 + hxv c) l, hxN_two (0 * 16 + hxv c) l, Nat.zero_mul, Nat.zero_add, Nat.add_mul, List.length_cons, show 4 * (l.length + 1) = 4 + 4 * l.length by omega, Nat.pow_add, Nat.mul_assoc, Nat.add_assoc]
theorem hxN_bd (l : List UInt8) (h : ∀ c ∈ l, IsHx c) : hxN 0 l < 2 ^ (4 * l.length) := by
  have h1 := hxN_lt l 0 h
  rw [show (16 : Nat) = 2 ^ 4 by decide, ← Nat.pow_mul] at h1
  omega
set_option maxHeartbeats 8000000 in
theorem mantissa_any (bs : List UInt8) (t : ByteArray) (ht : t = ⟨bs.toArray⟩) (h : ∀ c ∈ bs, IsHx c) (hl : bs.length ≤ 2000) (w : World) :
    Calls Tryz.prog 217 #[.string t] w (RetNV w (hxN 0 bs)) := by
  have HH := Lib.hid h
  have HT := Lib.hid ht
  clear h ht
  go_enter Tryz.func217, Tryz.ntmps217
  go_wp2
  go_loopg [0, 3] bs.length (fun k sv ov wr => ∃ (l r : List UInt8) (S : ByteArray), r.length ≤ k ∧ sv = .string S ∧ S.size = r.length ∧ Hid (S = ⟨r.toArray⟩ ∧ bs = l ++ r) ∧ Hid (NV wr ov (hxN 0 l)) ∧ Hid (Below w.heap.size w wr))
  case atStart => exact ⟨[], bs, t, Nat.le_refl _, rfl, by rw [HT.out]; rfl, Lib.hid ⟨HT.out, rfl⟩, Lib.hid (NV.nil _), Lib.hid (Below.refl _ _)⟩
  case round =>
    obtain ⟨l, r, S, hrk, rfl, hz, HS, HO, HB⟩ := hrel
    have hlr : l.length + r.length = bs.length := by rw [HS.out.2, List.length_append]
    rcases Nat.eq_zero_or_pos r.length with hr0 | hr0
    · have hrn : r = [] := List.length_eq_zero_iff.1 hr0
      have hbl : bs = l := by rw [HS.out.2, hrn, List.append_nil]
      have HBL := Lib.hid hbl
      obtain ⟨a1, n1, c1, rfl⟩ := HO.out.shape
      rw [hr0] at hz
      clear hrn hbl hlr hr0
      go_wp2
      go_ret
      exact ⟨_, rfl, by rw [HBL.out]; exact HO.out, HB.out⟩
    · obtain ⟨k, hk⟩ : ∃ k, k = min r.length 8 := ⟨_, rfl⟩
      have hk1 : 1 ≤ k ∧ k ≤ 8 ∧ k ≤ r.length := by omega
      obtain ⟨k1, k8, kr⟩ := hk1
      have hmin : min ((r.length : Nat) : Int) 8 = (k : Int) := by omega
      have hA : ∀ c ∈ r.take k, IsHx c := fun c hc => HH.out c (by rw [HS.out.2]; exact List.mem_append_right _ (List.mem_of_mem_take hc))
      have hla : ∀ c ∈ l, IsHx c := fun c hc => HH.out c (by rw [HS.out.2]; exact List.mem_append_left _ hc)
      have hlen : (r.take k).length = k := by rw [List.length_take]; omega
      obtain ⟨T, hT⟩ : ∃ T : ByteArray, T = S.extract 0 k := ⟨_, rfl⟩
      have hT2 : T = ⟨(r.take k).toArray⟩ := by
        rw [hT, HS.out.1]
        apply ByteArray.ext
        simp [ByteArray.data_extract]
      obtain ⟨U, hU⟩ : ∃ U : ByteArray, U = S.extract k S.size := ⟨_, rfl⟩
      have hU2 : U = ⟨(r.drop k).toArray⟩ := by
        rw [hU, HS.out.1]
        apply ByteArray.ext
        simp [ByteArray.data_extract]
        rw [List.take_of_length_le]
        simp [ByteArray.size]
      have hUz : U.size = r.length - k := by rw [hU2]; show (r.drop k).toArray.size = _; simp
      have PU := Lib.hid (fun w' => pu16_any (r.take k) T hT2 hA (by omega) (by omega) w')
      have hnb := hxN_lt (r.take k) 0 hA
      have hle : (16 : Nat) ^ (r.take k).length ≤ 16 ^ 8 := Nat.pow_le_pow_right (by omega) (by omega)
      have e168 : (16 : Nat) ^ 8 = 4294967296 := by decide
      obtain ⟨n, hn⟩ : ∃ n, n = hxN 0 (r.take k) := ⟨_, rfl⟩
      rw [← hn] at PU
      have hn2 : n < 4294967296 := by rw [hn]; omega
      have OF := Lib.hid (fun w' => natOf_any (n : Int) (by omega) (by omega) w')
      simp only [Int.toNat_natCast] at OF
      obtain ⟨K0, hK0, hK1⟩ : ∃ K0, 9000 ≤ K0 ∧ K0 ≤ 9000 := ⟨9000, by omega, by omega⟩
      have hlb : hxN 0 l < 2 ^ K0 := Nat.lt_of_lt_of_le (hxN_bd l hla) (Nat.pow_le_pow_right (by omega) (by omega))
      have LF := Lib.hid (fun va X w' (hv : NV w' va (hxN 0 l)) (hX : X = ((4 * k : Nat) : Int)) => left_any va _ (4 * k) K0 X w' hv hX hlb (by omega) (by omega))
      have hsum : hxN 0 l * 2 ^ (4 * k) + n = hxN 0 (l ++ r.take k) := by rw [hxN_app, hxN_two (hxN 0 l), hlen, hn]
      have hpb : hxN 0 l * 2 ^ (4 * k) < 2 ^ (K0 + 4 * k) := by rw [Nat.pow_add]; exact Nat.mul_lt_mul_of_pos_right hlb (Nat.two_pow_pos _)
      have hnk : n < 2 ^ (K0 + 4 * k) := Nat.lt_of_lt_of_le (show n < 2 ^ 32 by omega) (Nat.pow_le_pow_right (by omega) (by omega))
      have PL := Lib.hid (fun va vb w' (ha : NV w' va (hxN 0 l * 2 ^ (4 * k))) (hb : NV w' vb n) => by have h := plus_any va vb _ n (K0 + 4 * k) w' ha hb hpb hnk (by omega); rw [hsum] at h; exact h)
      have HREST : Hid (bs = (l ++ r.take k) ++ r.drop k) := Lib.hid (by rw [List.append_assoc, List.take_append_drop]; exact HS.out.2)
      have HU2 := Lib.hid hU2
      have hks : (k : Int) ≤ ((r.length : Nat) : Int) := by omega
      have hrp : (0 : Int) < ((r.length : Nat) : Int) := by omega
      have hud : (r.drop k).length = r.length - k := by simp
      obtain ⟨rl, hrl⟩ : ∃ rl, rl = r.length := ⟨_, rfl⟩
      rw [← hrl] at hz hmin hks hrp hUz hud kr hrk
      rw [hz] at hU
      have HT1 : Hid (S.extract 0 k = T) := Lib.hid hT.symm
      have HU1 : Hid (S.extract k rl = U) := Lib.hid hU.symm
      clear hk hA hla hlen hT hT2 hU hU2 hnb hle e168 hn hn2 hlb hsum hpb hnk hlr hr0 hrl HS
      go_wp2_with fail
      rw [HT1.out]
      refine (PU.out _).mono ?_
      rintro e w1 ⟨rfl, hb⟩
      replace HO := Lib.hid (HO.out.below hb)
      replace HB := Lib.hid (bl_thru HB.out (Nat.le_refl _) hb)
      clear hb
      go_wp2_with fail
      refine (LF.out _ _ _ HO.out (by omega)).mono ?_
      rintro e w2 ⟨v2, rfl, hv, hb⟩
      have N2 := Lib.hid hv
      replace HB := Lib.hid (bl_thru HB.out (Nat.le_refl _) hb)
      clear hv hb HO
      go_wp2_with fail
      refine (OF.out _).mono ?_
      rintro e w3 ⟨v3, rfl, hv, hb⟩
      have N3 := Lib.hid hv
      replace N2 := Lib.hid (N2.out.below hb)
      replace HB := Lib.hid (bl_thru HB.out (Nat.le_refl _) hb)
      clear hv hb
      go_wp2_with fail
      refine (PL.out _ _ _ N2.out N3.out).mono ?_
      rintro e w4 ⟨v4, rfl, hv, hb⟩
      have N4 := Lib.hid hv
      replace HB := Lib.hid (bl_thru HB.out (Nat.le_refl _) hb)
      clear hv hb
      go_wp2
      try rw [HU1.out]
      go_roundg (gk - 1)
      case measure => omega
      case rel => exact ⟨l ++ r.take k, r.drop k, U, by omega, by first | rfl | (rw [HU1.out]), by omega, Lib.hid ⟨HU2.out, HREST.out⟩, N4, HB⟩
def Tryz.laysTrimLeft_ren : Go.Shelf.Ren := ⟨fun | 161 => 58 | 231 => 93 | 227 => 94 | 233 => 95 | 235 => 96 | 228 => 134 | 197 => 110 | 151 => 135 | 260 => 143 | 152 => 182 | 137 => 47 | 119 => 221 | 224 => 124 | 225 => 123 | 217 => 77 | 266 => 126 | n => n, fun | 9 => 9 | 4 => 4 | 3 => 3 | 5 => 5 | 117 => 135 | 116 => 134 | 0 => 0 | 124 => 138 | 105 => 151 | 21 => 21 | 119 => 198 | 46 => 89 | 139 => 201 | 138 => 200 | n => n, fun | 3 => 2 | 4 => 3 | n => n⟩
theorem Tryz.laysTrimLeft : Go.Proofs.Lays.n161 Tryz.prog Tryz.laysTrimLeft_ren := {
  mixed := by kernel_rfl
  f119 := Tryz.func221.trans (congrArg some (by kernel_rfl))
  f137 := Tryz.func47.trans (congrArg some (by kernel_rfl))
  f151 := Tryz.func135.trans (congrArg some (by kernel_rfl))
  f152 := Tryz.func182.trans (congrArg some (by kernel_rfl))
  f161 := Tryz.func58.trans (congrArg some (by kernel_rfl))
  f197 := Tryz.func110.trans (congrArg some (by kernel_rfl))
  f217 := Tryz.func77.trans (congrArg some (by kernel_rfl))
  f224 := Tryz.func124.trans (congrArg some (by kernel_rfl))
  f225 := Tryz.func123.trans (congrArg some (by kernel_rfl))
  f227 := Tryz.func94.trans (congrArg some (by kernel_rfl))
  f228 := Tryz.func134.trans (congrArg some (by kernel_rfl))
  f231 := Tryz.func93.trans (congrArg some (by kernel_rfl))
  f233 := Tryz.func95.trans (congrArg some (by kernel_rfl))
  f235 := Tryz.func96.trans (congrArg some (by kernel_rfl))
  f260 := Tryz.func143.trans (congrArg some (by kernel_rfl))
  f266 := Tryz.func126.trans (congrArg some (by kernel_rfl))
  t0 := Tryz.underlying0
  a0 := Tryz.isAgg0
  z0 := Tryz.sizeOf0
  v0 := Tryz.zeroValue0
  t3 := Tryz.underlying3
  a3 := Tryz.isAgg3
  z3 := Tryz.sizeOf3
  v3 := Tryz.zeroValue3
  t4 := Tryz.underlying4
  a4 := Tryz.isAgg4
  z4 := Tryz.sizeOf4
  v4 := Tryz.zeroValue4
  t5 := Tryz.underlying5
  a5 := Tryz.isAgg5
  z5 := Tryz.sizeOf5
  v5 := Tryz.zeroValue5
  t9 := Tryz.underlying9
  a9 := Tryz.isAgg9
  z9 := Tryz.sizeOf9
  v9 := Tryz.zeroValue9
  t21 := Tryz.underlying21
  a21 := Tryz.isAgg21
  z21 := Tryz.sizeOf21
  v21 := Tryz.zeroValue21
  t46 := Tryz.underlying89
  a46 := Tryz.isAgg89
  z46 := Tryz.sizeOf89
  v46 := Tryz.zeroValue89
  t105 := Tryz.underlying151
  a105 := Tryz.isAgg151
  z105 := Tryz.sizeOf151
  v105 := Tryz.zeroValue151
  t116 := Tryz.underlying134
  a116 := Tryz.isAgg134
  z116 := Tryz.sizeOf134
  t117 := Tryz.underlying135
  a117 := Tryz.isAgg135
  z117 := Tryz.sizeOf135
  v117 := Tryz.zeroValue135
  t119 := Tryz.underlying198
  a119 := Tryz.isAgg198
  z119 := Tryz.sizeOf198
  t124 := Tryz.underlying138
  a124 := Tryz.isAgg138
  z124 := Tryz.sizeOf138
  v124 := Tryz.zeroValue138
  t138 := Tryz.underlying200
  a138 := Tryz.isAgg200
  z138 := Tryz.sizeOf200
  v138 := Tryz.zeroValue200
  t139 := Tryz.underlying201
  a139 := Tryz.isAgg201
  z139 := Tryz.sizeOf201
  v139 := Tryz.zeroValue201
  g3 := by kernel_rfl
  g4 := by kernel_rfl }
theorem fTrimLeft : Tryz.laysTrimLeft_ren.f 161 = 58 := by kernel_rfl
theorem trimLeft_any (s : ByteArray) (cs : List UInt8) (hcs : cs.all (fun b => decide (b.toNat < 128)) = true) (hl : cs.length ≤ 1000) (w : World) :
    Calls Tryz.prog 58 #[.string s, .string ⟨cs.toArray⟩] w fun e w' => e = .returned (.string ⟨(s.data.toList.dropWhile (cs.contains ·)).toArray⟩) ∧ Below w.heap.size w w' := by
  have h := Any.strings_TrimLeft_laid Tryz.laysTrimLeft (by kernel_rfl) s ⟨cs.toArray⟩ w (by show cs.toArray.size < _; simp; omega) (by
    intro j b hj
    exact of_decide_eq_true (List.all_eq_true.1 hcs b (List.mem_of_getElem? hj)))
  rw [fTrimLeft] at h
  exact h
theorem dropW_len {p : UInt8 → Bool} (l : List UInt8) : (l.dropWhile p).length ≤ l.length := (List.dropWhile_sublist p).length_le
theorem takeW_len {p : UInt8 → Bool} : ∀ l : List UInt8, l.take (l.length - (l.dropWhile p).length) = l.takeWhile p
  | [] => rfl
  | c :: l => by
    by_cases h : p c = true
    · rw [List.dropWhile_cons_of_pos h, List.takeWhile_cons_of_pos h]
      have := dropW_len (p := p) l
      rw [List.length_cons, show l.length + 1 - (l.dropWhile p).length = (l.length - (l.dropWhile p).length) + 1 by omega, List.take_succ_cons, takeW_len l]
    · rw [List.dropWhile_cons_of_neg h, List.takeWhile_cons_of_neg h]; simp
theorem take_any (s : List UInt8) (S : ByteArray) (hS : S = ⟨s.toArray⟩) (cs : List UInt8) (C : ByteArray) (hC : C = ⟨cs.toArray⟩) (hcs : cs.all (fun b => decide (b.toNat < 128)) = true) (hl : cs.length ≤ 1000) (hsl : s.length ≤ 100000) (w : World) :
    Calls Tryz.prog 238 #[.string S, .string C] w fun e w' => e = .returned (.tuple #[.string ⟨(s.takeWhile (cs.contains ·)).toArray⟩, .string ⟨(s.dropWhile (cs.contains ·)).toArray⟩]) ∧ Below w.heap.size w w' := by
  have TL := Lib.hid (fun w' => trimLeft_any S cs hcs hl w')
  rw [← hC] at TL
  have hd : S.data.toList = s := by rw [hS]
  rw [hd] at TL
  obtain ⟨R, hR⟩ : ∃ R : ByteArray, R = ⟨(s.dropWhile (cs.contains ·)).toArray⟩ := ⟨_, rfl⟩
  rw [← hR] at TL
  rw [← hR]
  have hz : S.size = s.length := by rw [hS]; rfl
  have hrz : R.size = (s.dropWhile (cs.contains ·)).length := by rw [hR]; rfl
  have hle := dropW_len (p := (cs.contains ·)) s
  obtain ⟨k, hk⟩ : ∃ k, k = s.length - (s.dropWhile (cs.contains ·)).length := ⟨_, rfl⟩
  have hx : S.extract 0 k = ⟨(s.takeWhile (cs.contains ·)).toArray⟩ := by
    rw [← takeW_len s, ← hk, hS]
    apply ByteArray.ext
    simp [ByteArray.data_extract]
  have HX := Lib.hid hx
  rw [← HX.out]
  generalize (s.dropWhile (cs.contains ·)).length = b at *
  generalize s.length = a at *
  have hkz : (a : Int) - (b : Int) = (k : Int) := by omega
  have hka : (k : Int) ≤ (a : Int) := by omega
  clear hd hR hx hk hS hC hcs
  go_enter Tryz.func238, Tryz.ntmps238
  go_wp2_with (go_at_call 58; refine (TL.out _).mono ?_; rintro e w1 ⟨rfl, hb⟩; have HB := Lib.hid hb; clear hb)
  go_ret2
  exact ⟨rfl, HB.out⟩
end Go.Proofs.YtofdjfdnckmmmaaGreatDoor
