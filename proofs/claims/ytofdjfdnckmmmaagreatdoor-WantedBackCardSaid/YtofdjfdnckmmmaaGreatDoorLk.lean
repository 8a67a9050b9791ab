/-
  SOME OF MY TEXTS in one: Hw Lg Si Sci Dcl. Each says what it proves.
-/
import Derived.Test.YtofdjfdnckmmmaaGreatDoorHxp
import Derived.Test.YtofdjfdnckmmmaaGreatDoorFx
import Derived.Test.YtofdjfdnckmmmaaGreatDoorNy
import Derived.Test.YtofdjfdnckmmmaaGreatDoorDo
import Derived.Test.YtofdjfdnckmmmaaGreatDoorBa
set_option linter.unusedVariables false
set_option linter.unusedSimpArgs false
/-
  THE WALK of hex.write.
-/
namespace Go.Proofs.YtofdjfdnckmmmaaGreatDoor
open Go.RowKit Nt Fm Fl

theorem itoaI (p : Int) (w : World) (h0 : -100000 ≤ p) (h1 : p ≤ 100000) (hT : Tab10 w) :
    Calls Tryz.prog 73 #[.int .i64 p] w fun e w' => e = .returned (.string ⟨(Lib.itoa p).toArray⟩) ∧ Below w.heap.size w w' := by
  have h := Any.strconv_Itoa Tryz.laysItoa p (by omega) (by omega) w hT
  rw [fItoa] at h
  refine h.mono ?_
  rintro e w' ⟨rfl, k, os, rfl⟩
  exact ⟨rfl, below_grown w k os⟩
theorem itoa_len (p : Int) (h : p.natAbs < 100000) : (Lib.itoa p).length ≤ 6 := by
  have h1 := dec_len_le 5 p.natAbs (by omega) (by omega)
  unfold Lib.itoa
  split
  · rename_i hp
    simp only [List.length_cons]; omega
  · rename_i hp
    have : (Lib.decDigits p.natAbs).length ≤ 6 := by omega
    first | omega | (rw [show p.toNat = p.natAbs by omega]; omega)
theorem and15 (a : Nat) (h : a < 4294967296) : bits .and .u32 (a : Int) 15 = ((a % 16 : Nat) : Int) := by
  have h1 := bits_and_u32_nat a 15 h (by decide)
  rw [show ((15 : Nat) : Int) = 15 from rfl] at h1
  rw [h1, show (15 : Nat) = 2 ^ 4 - 1 by decide, Nat.and_two_pow_sub_one_eq_mod]
theorem enc_byte (b : UInt8) (hb : b.toNat < 128) : Utf8.encode (wrap32 ((b.toNat : Nat) : Int)) = ⟨#[b]⟩ := by
  have e : wrap32 ((b.toNat : Nat) : Int) = (b.toNat : Int) := by unfold wrap32; omega
  rw [e]
  have v : Utf8.valid (b.toNat : Int) = true := by simp [Utf8.valid]; omega
  simp [Utf8.encode, v, hb]
theorem hexd_at (n : Nat) (h : n < 16) : ∀ h : n < (⟨#[48, 49, 50, 51, 52, 53, 54, 55, 56, 57, 97, 98, 99, 100, 101, 102]⟩ : ByteArray).size, (⟨#[48, 49, 50, 51, 52, 53, 54, 55, 56, 57, 97, 98, 99, 100, 101, 102]⟩ : ByteArray)[n]'h = hexd n ∧ (hexd n).toNat < 128 := by
  have : n = 0 ∨ n = 1 ∨ n = 2 ∨ n = 3 ∨ n = 4 ∨ n = 5 ∨ n = 6 ∨ n = 7 ∨ n = 8 ∨ n = 9 ∨ n = 10 ∨ n = 11 ∨ n = 12 ∨ n = 13 ∨ n = 14 ∨ n = 15 := by omega
  rcases this with rfl | rfl | rfl | rfl | rfl | rfl | rfl | rfl | rfl | rfl | rfl | rfl | rfl | rfl | rfl | rfl
  · intro _; exact ⟨rfl, by decide⟩
  · intro _; exact ⟨rfl, by decide⟩
  · intro _; exact ⟨rfl, by decide⟩
  · intro _; exact ⟨rfl, by decide⟩
  · intro _; exact ⟨rfl, by decide⟩
  · intro _; exact ⟨rfl, by decide⟩
  · intro _; exact ⟨rfl, by decide⟩
  · intro _; exact ⟨rfl, by decide⟩
  · intro _; exact ⟨rfl, by decide⟩
  · intro _; exact ⟨rfl, by decide⟩
  · intro _; exact ⟨rfl, by decide⟩
  · intro _; exact ⟨rfl, by decide⟩
  · intro _; exact ⟨rfl, by decide⟩
  · intro _; exact ⟨rfl, by decide⟩
  · intro _; exact ⟨rfl, by decide⟩
  · intro _; exact ⟨rfl, by decide⟩
theorem hexd_ch (n : Nat) (hn : n < 16) : ∀ h : n < (⟨#[48, 49, 50, 51, 52, 53, 54, 55, 56, 57, 97, 98, 99, 100, 101, 102]⟩ : ByteArray).size, Utf8.encode (wrap32 (((⟨#[48, 49, 50, 51, 52, 53, 54, 55, 56, 57, 97, 98, 99, 100, 101, 102]⟩ : ByteArray)[n]'h).toNat : Int)) = ⟨#[hexd n]⟩ := by
  intro h
  obtain ⟨e1, e2⟩ := hexd_at n hn h
  rw [e1, enc_byte _ e2]
set_option maxRecDepth 100000 in
set_option maxHeartbeats 8000000 in
theorem write_nz (x : Int) (x0 : 0 ≤ x) (x1 : x ≤ 18446744073709551615) (v : Value) (d : D) (places : Nat) (w : World) (hd : DV w v d) (hm : d.m < 2 ^ 200) (e0 : -3000 ≤ d.e) (e1 : d.e ≤ 3000) (hp : places ≤ 100) (hbl : blen d.m ≤ 4 * places + 1) (hT10 : Tab10 w) (hz : d.m ≠ 0) :
    Calls Tryz.prog 87 #[.int .u64 x, v, .int .i64 (places : Int)] w fun e w' => e = .returned (.string ⟨(hxW x d places).toArray⟩) ∧ Below w.heap.size w w' := by
  obtain ⟨s, rfl, hs⟩ := hd
  obtain ⟨sa, sn, sc, rfl, hl1, hl2, hz'⟩ := nv_len hs
  unfold hxW
  rw [if_neg hz]
  have hn : 1 ≤ sn := by
    rcases hz' with ⟨h, -⟩ | ⟨-, h⟩
    · exact absurd h hz
    · exact h
  have hnz : ((sn : Int) == 0) = false := by rw [beq_eq_false_iff_ne]; omega
  have LN := Lib.hid (fun w' (h : NV w' (.slice sa sn sc) d.m) => natLen_any _ d.m 200 w' h hm (by omega))
  obtain ⟨L, hL⟩ : ∃ L, L = blen d.m := ⟨_, rfl⟩
  have hL1 : 1 ≤ L := by rw [hL]; unfold blen; rw [if_neg hz]; omega
  have hL2 : L ≤ 200 := by rw [hL]; exact blen_le_of hm
  obtain ⟨sh, hsh⟩ : ∃ sh, sh = 4 * places - (blen d.m - 1) := ⟨_, rfl⟩
  have LF := Lib.hid (fun X w' (h : NV w' (.slice sa sn sc) d.m) (hX : X = (sh : Int)) => left_any _ d.m sh 200 X w' h hX hm (by omega) (by omega))
  obtain ⟨M, hM⟩ : ∃ M, M = d.m * 2 ^ sh := ⟨_, rfl⟩
  rw [← hsh, ← hM]
  rw [← hM] at LF
  rw [← hL] at LN
  have hpp : hxp d = (L : Int) + d.e - 1 := by unfold hxp; rw [hL]
  obtain ⟨p, hpq⟩ : ∃ p, p = hxp d := ⟨_, rfl⟩
  rw [← hpq] at hpp
  rw [← hpq]
  have IT := Lib.hid (fun w' h => itoaI p w' (by omega) (by omega) h)
  have hil := itoa_len p (by omega)
  have hsh2 : (sh : Int) = d.e - p + 4 * (places : Int) := by omega
  have hMlt : M ≠ 0 := by rw [hM]; exact Nat.ne_of_gt (Nat.mul_pos (Nat.pos_of_ne_zero hz) (Nat.two_pow_pos _))
  have HS := Lib.hid hs
  have XC : Hid (Box (w.alloc (.cells #[.bool d.neg, .slice sa sn sc, .int .i64 d.e] 68)) w.heap.size 68 (.bool d.neg) (.slice sa sn sc) (.int .i64 d.e)) := Lib.hid (Box.new w (.bool d.neg) (.slice sa sn sc) (.int .i64 d.e) 68)
  have B0 : Hid (Below w.heap.size w (w.alloc (.cells #[.bool d.neg, .slice sa sn sc, .int .i64 d.e] 68))) := Lib.hid ((Below.refl _ _).alloc (Nat.le_refl _) _)
  have H0 := Lib.hid (HS.out.alloc (.cells #[.bool d.neg, .slice sa sn sc, .int .i64 d.e] 68))
  have T0 := Lib.hid (hT10.below ((Below.refl _ _).alloc (Nat.le_refl _) (.cells #[.bool d.neg, .slice sa sn sc, .int .i64 d.e] 68)))
  have hp2 : d.e - p + 4 * (places : Int) = (sh : Int) := by omega
  have hwL : IntKind.i64.wrap ((L : Int) + d.e) = (L : Int) + d.e := IntWalk.i64_in _ (by omega)
  have hwp : IntKind.i64.wrap ((L : Int) + d.e - 1) = p := by rw [IntWalk.i64_in _ (by omega)]; omega
  obtain ⟨IS, hIS⟩ : ∃ IS : ByteArray, IS = ⟨(Lib.itoa p).toArray⟩ := ⟨_, rfl⟩
  rw [← hIS] at IT
  have zI : IS.size ≤ 6 := by
    have : IS.size = (Lib.itoa p).length := by rw [hIS]; rfl
    omega
  have HIS := Lib.hid hIS
  have hpb : -4000 ≤ p ∧ p ≤ 4000 := by omega
  obtain ⟨RS, hRS⟩ : ∃ RS : ByteArray, RS = ⟨(hxP x ++ ([49] ++ (if 0 < places then [46] else []) ++ hxD M places ++ hxE p)).toArray⟩ := ⟨_, rfl⟩
  rw [← hRS]
  have hsg : (9223372036854775808 ≤ x ∧ (x / 9223372036854775808 == 1) = true ∧ Hid (hxP x = [45, 48, 120])) ∨ (¬ 9223372036854775808 ≤ x ∧ (x / 9223372036854775808 == 1) = false ∧ Hid (hxP x = [48, 120])) := by
    by_cases h : 9223372036854775808 ≤ x
    · exact Or.inl ⟨h, by rw [beq_iff_eq]; omega, Lib.hid (by unfold hxP; rw [if_pos h])⟩
    · exact Or.inr ⟨h, by rw [beq_eq_false_iff_ne]; omega, Lib.hid (by unfold hxP; rw [if_neg h])⟩
  have HR := Lib.hid hRS
  clear hRS hL hsh hM hpq hpp hsh2 hbl hm hs hT10 hz hil hIS hz'
  by_cases hp0 : 0 < places
  · have hp0i : (0 : Int) < (places : Int) := by omega
    have HP0 := Lib.hid hp0
    rcases hsg with ⟨hs0, hh, HPX⟩ | ⟨hs0, hh, HPX⟩
    all_goals
      go_enter Tryz.func87, Tryz.ntmps87
      go_wp2_with fail
      obtain ⟨V, hV⟩ : ∃ V, V = w.alloc (.cells #[.bool d.neg, .slice sa sn sc, .int .i64 d.e] 68) := ⟨_, rfl⟩
      rw [← hV] at XC B0 H0 T0
      rw [← hV]
      clear hV
      replace XC := Lib.hid XC.out.drew
      replace B0 := Lib.hid B0.out.drew
      replace H0 := Lib.hid H0.out.drew
      replace T0 : Hid (Tab10 V.drew) := Lib.hid (T0.out.below (Below.refl _ _).drew)
      obtain ⟨p0, p1, p2, -, -, -⟩ := XC.out.cells
      go_region_held3 (fun w' => w'.cell? ⟨w.heap.size, 1, none⟩ = some (.slice sa sn sc) ∧ w'.cell? ⟨w.heap.size, 2, none⟩ = some (.int .i64 d.e))
        (first
          | exact ⟨p1, p2⟩
          | (go_keep; done))
        (first
          | (go_at_call 59; refine (LN.out _ H0.out).mono ?_; rintro e w' ⟨rfl, rfl⟩))
      try simp only [hwL, hwp]
      clear hwp hwL
      go_wp2_with fail
      try rw [hp2]
      refine (LF.out _ _ H0.out (by omega)).mono ?_
      rintro r w2 ⟨v2, rfl, hv, hb⟩
      have B2 := Lib.hid (bl_thru B0.out (Nat.le_refl _) hb)
      have T2 := Lib.hid (T0.out.below hb)
      obtain ⟨l, k1, k2, ⟨k3, ao, cap, rfl, k5, k6, k7⟩⟩ := hv
      have hl0 : 0 < l.length := by
        rcases Nat.eq_zero_or_pos l.length with h | h
        · rw [List.length_eq_zero_iff.1 h] at k2; exact absurd k2.symm hMlt
        · exact h
      obtain ⟨bm, om, rfl, kb, kc⟩ : ∃ b off, ao = some ⟨b, off, none⟩ ∧ b < w2.heap.size ∧ ∀ i, i < l.length → w2.cell? ⟨b, off + i, none⟩ = some (.int .u32 ((l.getD i 0 : Nat) : Int)) := by
        rcases k7 with h | ⟨b, off, h1, h2, h3⟩
        · omega
        · exact ⟨b, off, h1, h2, h3⟩
      have NIB : Hid (∀ k, M / 16 ^ k % 16 = (l.getD (k / 8) 0) / 2 ^ (4 * (k % 8)) % 16) := Lib.hid (fun k => by rw [← k2]; exact limb_nibble k3 k)
      have HKC := Lib.hid kc
      have HK3 := Lib.hid k3
      unfold maxLen at k6
      clear hb p0 p1 p2 k2 kc k3 k1 k7 hMlt XC H0 B0 T0
      go_wp2_with fail
      go_loopw [7, 10] (fun ov iv wr => wr = w2 ∧ ∃ (k : Nat) (iz : Int) (O : ByteArray), k ≤ places ∧ iz ≤ (k : Int) - 1 ∧ (k : Int) - 1 ≤ iz ∧ iv = .int .i64 iz ∧ ov = .string O ∧ O.size + k ≤ 5 + places ∧ Hid (∃ o : List UInt8, O = ⟨o.toArray⟩ ∧ o ++ hxD M k = hxP x ++ [49, 46] ++ hxD M places)) (fun _ iv _ => (intOf iv + 1).toNat)
      case atStart => exact ⟨rfl, places, (places : Int) - 1, _, Nat.le_refl _, by omega, by omega, rfl, rfl, by first | (show 5 + _ ≤ _; omega) | (show 4 + _ ≤ _; omega) | (show 3 + _ ≤ _; omega), Lib.hid ⟨hxP x ++ [49, 46], by rw [HPX.out]; rfl, rfl⟩⟩
      case round =>
        obtain ⟨rfl, k, iz, O, hk, hi1, hi2, rfl, rfl, hO, HO⟩ := hrel
        by_cases hk0 : k = 0
        · obtain rfl : iz = -1 := by omega
          subst hk0
          clear hi1 hi2 hk
          have HF : Hid (∀ es : List UInt8, RS = ⟨(hxP x ++ ([49, 46] ++ hxD M places ++ hxE p)).toArray⟩ ∧ O ++ ⟨es.toArray⟩ = ⟨(hxP x ++ [49, 46] ++ hxD M places ++ es).toArray⟩) := Lib.hid (fun es => by
            obtain ⟨o, a1, a2⟩ := HO.out
            simp only [hxD, List.append_nil] at a2
            refine ⟨by rw [HR.out, if_pos HP0.out]; rfl, ?_⟩
            rw [a1, a2, ByteArray.mk_append_mk]
            try simp [hxD])
          by_cases hpp : 0 ≤ p
          · have HPP : Hid (hxE p = [112, 43] ++ Lib.itoa p) := Lib.hid (by unfold hxE; rw [if_pos hpp])
            go_wp2_with (go_at_call 73; refine (IT.out _ T2.out).mono ?_; rintro e w3 ⟨rfl, hb3⟩; have B3 := Lib.hid (bl_thru B2.out (Nat.le_refl _) hb3); clear hb3)
            go_ret
            refine ⟨?_, B3.out⟩
            refine congrArg (fun z => Ending.returned (Value.string z)) ?_
            rw [(HF.out []).1, (HF.out [112, 43]).2, HIS.out, HPP.out, ByteArray.mk_append_mk]
            simp
          · have HPP : Hid (hxE p = [112] ++ Lib.itoa p) := Lib.hid (by unfold hxE; rw [if_neg hpp])
            go_wp2_with (go_at_call 73; refine (IT.out _ T2.out).mono ?_; rintro e w3 ⟨rfl, hb3⟩; have B3 := Lib.hid (bl_thru B2.out (Nat.le_refl _) hb3); clear hb3)
            go_ret
            refine ⟨?_, B3.out⟩
            refine congrArg (fun z => Ending.returned (Value.string z)) ?_
            rw [(HF.out []).1, (HF.out [112]).2, HIS.out, HPP.out, ByteArray.mk_append_mk]
            simp
        · obtain ⟨j, rfl⟩ : ∃ j, k = j + 1 := ⟨k - 1, by omega⟩
          obtain rfl : iz = (j : Int) := by omega
          have hnib := NIB.out j
          by_cases hlt : j / 8 < l.length
          · have hc := HKC.out (j / 8) hlt
            have hlti : (j : Int) / 8 < (l.length : Int) := by omega
            obtain ⟨X, hX⟩ : ∃ X, X = l.getD (j / 8) 0 := ⟨_, rfl⟩
            have hX1 : X < 4294967296 := by rw [hX]; exact HK3.out.getD (j / 8)
            rw [← hX] at hc hnib
            obtain ⟨nb, hnb⟩ : ∃ nb, nb = X / 2 ^ (4 * (j % 8)) % 16 := ⟨_, rfl⟩
            rw [← hnb] at hnib
            have hnb16 : nb < 16 := by rw [hnb]; exact Nat.mod_lt _ (by omega)
            have e1 : bits BinOp.and IntKind.u32 ((X : Int) / 2 ^ (4 * (j % 8))) 15 = (nb : Int) := by
              have h1 := and15 (X / 2 ^ (4 * (j % 8))) (Nat.lt_of_le_of_lt (Nat.div_le_self _ _) hX1)
              rw [hnb, ← h1]
              congr 1
            have hch := hexd_ch nb hnb16
            obtain ⟨C, hC⟩ : ∃ C : ByteArray, C = ⟨#[hexd nb]⟩ := ⟨_, rfl⟩
            rw [← hC] at hch
            have hCz : C.size = 1 := by rw [hC]; rfl
            have HC := Lib.hid hC
            have HNIB := Lib.hid hnib
            clear hX hnb hC hnib
            go_wp2
            go_roundw
            case rel => exact ⟨by first | rfl | trivial, j, (j : Int) - 1, O ++ C, by omega, by omega, by omega, by go_num, rfl, by rw [ByteArray.size_append]; omega, Lib.hid (by
              obtain ⟨o, a1, a2⟩ := HO.out
              refine ⟨o ++ [hexd nb], by rw [a1, HC.out, ByteArray.mk_append_mk], ?_⟩
              rw [← a2, hxD, HNIB.out]; simp)⟩
            case measure => simp [intOf] <;> omega
          · have hlti : ¬ (j : Int) / 8 < (l.length : Int) := by omega
            have hg0 : l.getD (j / 8) 0 = 0 := by
              simp [List.getD, List.getElem?_eq_none (Nat.le_of_not_lt hlt)]
            rw [hg0, Nat.zero_div, Nat.zero_mod] at hnib
            have hch := hexd_ch 0 (by omega)
            obtain ⟨C, hC⟩ : ∃ C : ByteArray, C = ⟨#[hexd 0]⟩ := ⟨_, rfl⟩
            rw [← hC] at hch
            have hch0 : Utf8.encode (wrap32 48) = C := by rw [hC]; exact enc_byte 48 (by decide)
            have hch1 : Utf8.encode 48 = C := by rw [← hch0, show wrap32 48 = 48 by unfold wrap32; omega]
            have e1 : bits BinOp.and IntKind.u32 0 15 = 0 := by decide
            have hCz : C.size = 1 := by rw [hC]; rfl
            have HC := Lib.hid hC
            have HNIB := Lib.hid hnib
            clear hC hnib hg0
            go_wp2
            go_roundw
            case rel => exact ⟨by first | rfl | trivial, j, (j : Int) - 1, O ++ C, by omega, by omega, by omega, by go_num, rfl, by rw [ByteArray.size_append]; omega, Lib.hid (by
              obtain ⟨o, a1, a2⟩ := HO.out
              refine ⟨o ++ [hexd 0], by rw [a1, HC.out, ByteArray.mk_append_mk], ?_⟩
              rw [← a2, hxD, HNIB.out]; simp)⟩
            case measure => simp [intOf] <;> omega
  · obtain rfl : places = 0 := by omega
    have HP0 := Lib.hid hp0
    have hzz : ((0 : Nat) : Int) = 0 := rfl
    rw [hzz] at hp2
    rw [hzz]
    clear hp0 hzz
    rcases hsg with ⟨hs0, hh, HPX⟩ | ⟨hs0, hh, HPX⟩
    all_goals
      go_enter Tryz.func87, Tryz.ntmps87
      go_wp2_with fail
      obtain ⟨V, hV⟩ : ∃ V, V = w.alloc (.cells #[.bool d.neg, .slice sa sn sc, .int .i64 d.e] 68) := ⟨_, rfl⟩
      rw [← hV] at XC B0 H0 T0
      rw [← hV]
      clear hV
      replace XC := Lib.hid XC.out.drew
      replace B0 := Lib.hid B0.out.drew
      replace H0 := Lib.hid H0.out.drew
      replace T0 : Hid (Tab10 V.drew) := Lib.hid (T0.out.below (Below.refl _ _).drew)
      obtain ⟨p0, p1, p2, -, -, -⟩ := XC.out.cells
      go_region_held3 (fun w' => w'.cell? ⟨w.heap.size, 1, none⟩ = some (.slice sa sn sc) ∧ w'.cell? ⟨w.heap.size, 2, none⟩ = some (.int .i64 d.e))
        (first
          | exact ⟨p1, p2⟩
          | (go_keep; done))
        (first
          | (go_at_call 59; refine (LN.out _ H0.out).mono ?_; rintro e w' ⟨rfl, rfl⟩))
      try simp only [hwL, hwp]
      clear hwp hwL
      go_wp2_with fail
      try rw [hp2]
      refine (LF.out _ _ H0.out (by omega)).mono ?_
      rintro r w2 ⟨v2, rfl, hv, hb⟩
      have B2 := Lib.hid (bl_thru B0.out (Nat.le_refl _) hb)
      have T2 := Lib.hid (T0.out.below hb)
      obtain ⟨l, k1, k2, ⟨k3, ao, cap, rfl, k5, k6, k7⟩⟩ := hv
      have hl0 : 0 < l.length := by
        rcases Nat.eq_zero_or_pos l.length with h | h
        · rw [List.length_eq_zero_iff.1 h] at k2; exact absurd k2.symm hMlt
        · exact h
      obtain ⟨bm, om, rfl, kb, kc⟩ : ∃ b off, ao = some ⟨b, off, none⟩ ∧ b < w2.heap.size ∧ ∀ i, i < l.length → w2.cell? ⟨b, off + i, none⟩ = some (.int .u32 ((l.getD i 0 : Nat) : Int)) := by
        rcases k7 with h | ⟨b, off, h1, h2, h3⟩
        · omega
        · exact ⟨b, off, h1, h2, h3⟩
      have NIB : Hid (∀ k, M / 16 ^ k % 16 = (l.getD (k / 8) 0) / 2 ^ (4 * (k % 8)) % 16) := Lib.hid (fun k => by rw [← k2]; exact limb_nibble k3 k)
      have HKC := Lib.hid kc
      have HK3 := Lib.hid k3
      unfold maxLen at k6
      clear hb p0 p1 p2 k2 kc k3 k1 k7 hMlt XC H0 B0 T0
      go_wp2_with fail
      go_loopw [7, 10] (fun ov iv wr => wr = w2 ∧ ∃ (k : Nat) (iz : Int) (O : ByteArray), k ≤ 0 ∧ iz ≤ (k : Int) - 1 ∧ (k : Int) - 1 ≤ iz ∧ iv = .int .i64 iz ∧ ov = .string O ∧ O.size + k ≤ 5 + 0 ∧ Hid (∃ o : List UInt8, O = ⟨o.toArray⟩ ∧ o ++ hxD M k = hxP x ++ [49] ++ hxD M 0)) (fun _ iv _ => (intOf iv + 1).toNat)
      case atStart => exact ⟨rfl, 0, -1, _, Nat.le_refl _, by omega, by omega, rfl, rfl, by first | (show 5 + _ ≤ _; omega) | (show 4 + _ ≤ _; omega) | (show 3 + _ ≤ _; omega), Lib.hid ⟨hxP x ++ [49], by rw [HPX.out]; rfl, rfl⟩⟩
      case round =>
        obtain ⟨rfl, k, iz, O, hk, hi1, hi2, rfl, rfl, hO, HO⟩ := hrel
        obtain rfl : k = 0 := by omega
        obtain rfl : iz = -1 := by omega
        clear hi1 hi2 hk
        have HF : Hid (∀ es : List UInt8, RS = ⟨(hxP x ++ ([49] ++ hxD M 0 ++ hxE p)).toArray⟩ ∧ O ++ ⟨es.toArray⟩ = ⟨(hxP x ++ [49] ++ hxD M 0 ++ es).toArray⟩) := Lib.hid (fun es => by
          obtain ⟨o, a1, a2⟩ := HO.out
          simp only [hxD, List.append_nil] at a2
          refine ⟨by rw [HR.out, if_neg HP0.out]; rfl, ?_⟩
          rw [a1, a2, ByteArray.mk_append_mk]
          try simp [hxD])
        by_cases hpp : 0 ≤ p
        · have HPP : Hid (hxE p = [112, 43] ++ Lib.itoa p) := Lib.hid (by unfold hxE; rw [if_pos hpp])
          go_wp2_with (go_at_call 73; refine (IT.out _ T2.out).mono ?_; rintro e w3 ⟨rfl, hb3⟩; have B3 := Lib.hid (bl_thru B2.out (Nat.le_refl _) hb3); clear hb3)
          go_ret
          refine ⟨?_, B3.out⟩
          refine congrArg (fun z => Ending.returned (Value.string z)) ?_
          rw [(HF.out []).1, (HF.out [112, 43]).2, HIS.out, HPP.out, ByteArray.mk_append_mk]
          simp
        · have HPP : Hid (hxE p = [112] ++ Lib.itoa p) := Lib.hid (by unfold hxE; rw [if_neg hpp])
          go_wp2_with (go_at_call 73; refine (IT.out _ T2.out).mono ?_; rintro e w3 ⟨rfl, hb3⟩; have B3 := Lib.hid (bl_thru B2.out (Nat.le_refl _) hb3); clear hb3)
          go_ret
          refine ⟨?_, B3.out⟩
          refine congrArg (fun z => Ending.returned (Value.string z)) ?_
          rw [(HF.out []).1, (HF.out [112]).2, HIS.out, HPP.out, ByteArray.mk_append_mk]
          simp
set_option maxHeartbeats 8000000 in
theorem write_any (x : Int) (x0 : 0 ≤ x) (x1 : x ≤ 18446744073709551615) (v : Value) (d : D) (places : Nat) (w : World) (hd : DV w v d) (hm : d.m < 2 ^ 200) (e0 : -3000 ≤ d.e) (e1 : d.e ≤ 3000) (hp : places ≤ 100) (hbl : blen d.m ≤ 4 * places + 1) (hT10 : Tab10 w) :
    Calls Tryz.prog 87 #[.int .u64 x, v, .int .i64 (places : Int)] w fun e w' => e = .returned (.string ⟨(hxW x d places).toArray⟩) ∧ Below w.heap.size w w' := by
  by_cases hz0 : d.m = 0
  · obtain ⟨s, rfl, hs⟩ := hd
    obtain ⟨sa, sn, sc, rfl, hl1, hl2, hz'⟩ := nv_len hs
    obtain rfl : sn = 0 := by
      rcases hz' with ⟨-, h⟩ | ⟨h, -⟩
      · exact h
      · exact absurd hz0 h
    unfold hxW
    rw [if_pos hz0]
    obtain ⟨RS, hRS⟩ : ∃ RS : ByteArray, RS = ⟨(hxP x ++ ([48] ++ (if 0 < places then [46] ++ List.replicate places 48 else []) ++ [112, 43, 48])).toArray⟩ := ⟨_, rfl⟩
    rw [← hRS]
    have hsg : (9223372036854775808 ≤ x ∧ (x / 9223372036854775808 == 1) = true ∧ Hid (hxP x = [45, 48, 120])) ∨ (¬ 9223372036854775808 ≤ x ∧ (x / 9223372036854775808 == 1) = false ∧ Hid (hxP x = [48, 120])) := by
      by_cases h : 9223372036854775808 ≤ x
      · exact Or.inl ⟨h, by rw [beq_iff_eq]; omega, Lib.hid (by unfold hxP; rw [if_pos h])⟩
      · exact Or.inr ⟨h, by rw [beq_eq_false_iff_ne]; omega, Lib.hid (by unfold hxP; rw [if_neg h])⟩
    have HR := Lib.hid hRS
    have RP := Lib.hid (fun X w' (h : X = ((places : Nat) : Int)) => rep_any places X h (by omega) w')
    obtain ⟨Z, hZ⟩ : ∃ Z : ByteArray, Z = ⟨(List.replicate places (48 : UInt8)).toArray⟩ := ⟨_, rfl⟩
    rw [← hZ] at RP
    have zZ : Z.size ≤ 100 := by
      have : Z.size = places := by rw [hZ]; simp [ByteArray.size]
      omega
    have HZ := Lib.hid hZ
    have B0 : Hid (Below w.heap.size w (w.alloc (.cells #[.bool d.neg, .slice sa 0 sc, .int .i64 d.e] 68))) := Lib.hid ((Below.refl _ _).alloc (Nat.le_refl _) _)
    clear hRS hm hs hz' hbl hT10 hZ hz0
    by_cases hp0 : 0 < places
    · have hp0i : (0 : Int) < (places : Int) := by omega
      have HP0 := Lib.hid hp0
      clear hp0
      rcases hsg with ⟨hs0, hh, HPX⟩ | ⟨hs0, hh, HPX⟩
      all_goals
        go_enter Tryz.func87, Tryz.ntmps87
        go_wp2_with (go_at_call 26; refine (RP.out _ _ rfl).mono ?_; rintro e w3 ⟨rfl, hb3⟩; have B3 := Lib.hid (bl_thru B0.out (Nat.le_refl _) hb3); clear hb3)
        go_ret
        refine ⟨congrArg (fun z => Ending.returned (Value.string z)) ?_, B3.out⟩
        rw [HR.out, if_pos HP0.out, HPX.out, HZ.out]
        apply ByteArray.ext
        simp [ByteArray.data_append]
    · have hp0i : ¬ (0 : Int) < (places : Int) := by omega
      have HP0 := Lib.hid hp0
      clear hp0
      rcases hsg with ⟨hs0, hh, HPX⟩ | ⟨hs0, hh, HPX⟩
      all_goals
        go_enter Tryz.func87, Tryz.ntmps87
        go_wp2
        go_ret
        refine ⟨congrArg (fun z => Ending.returned (Value.string z)) ?_, B0.out⟩
        rw [HR.out, if_neg HP0.out, HPX.out]
        rfl
  · exact write_nz x x0 x1 v d places w hd hm e0 e1 hp hbl hT10 hz0
end Go.Proofs.YtofdjfdnckmmmaaGreatDoor

/-
  THE WALKS of decimal.Log10, its closure.
-/
namespace Go.Proofs.YtofdjfdnckmmmaaGreatDoor
open Go.RowKit Nt Fm Fl

/-- is it 10^p or more? -/
def Ge10 (d : D) (p : Int) : Prop := dD d (-p) ≤ dN d (-p)
instance (d : D) (p : Int) : Decidable (Ge10 d p) := Nat.decLe _ _
theorem ge_anti {d : D} {p q : Int} (h : p ≤ q) (hq : Ge10 d q) : Ge10 d p := by
  obtain ⟨k, hk⟩ : ∃ k : Nat, -p = -q + k := ⟨(q - p).toNat, by omega⟩
  have h1 := d_shift d (-q) k
  have h2 := Nat.mul_le_mul_right (10 ^ k * dD d (-q + k)) hq
  rw [← Nat.mul_assoc (dN d (-q)), ← h1, Nat.mul_comm (dD d (-q))] at h2
  have h3 := Nat.le_of_mul_le_mul_right h2 (dD_pos d _)
  unfold Ge10
  rw [hk]
  have h4 : 1 * dD d (-q + k) ≤ 10 ^ k * dD d (-q + k) := Nat.mul_le_mul_right _ (Nat.pow_pos (by omega))
  omega
theorem isLg_iff {d : D} {p : Int} : IsLg d p ↔ Ge10 d p ∧ ¬ Ge10 d (p + 1) := by unfold IsLg Ge10; omega
theorem isLg_uniq {d : D} {p q : Int} (hp : IsLg d p) (hq : IsLg d q) : p = q := by
  rw [isLg_iff] at hp hq
  rcases Int.lt_trichotomy p q with h | h | h
  · exact absurd (ge_anti (show p + 1 ≤ q by omega) hq.1) hp.2
  · exact h
  · exact absurd (ge_anti (show q + 1 ≤ p by omega) hp.1) hq.2
/-- the p for which it is so -/
noncomputable def lgD (d : D) : Int := Classical.epsilon (IsLg d)
theorem lgD_eq {d : D} {p : Int} (h : IsLg d p) : lgD d = p := isLg_uniq (Classical.epsilon_spec ⟨p, h⟩) h
/-- a number of some size, not 0 -/
structure Mid (d : D) : Prop where
  m0 : d.m ≠ 0
  m1 : d.m < 2 ^ 64
  e0 : -1200 ≤ d.e
  e1 : d.e ≤ 1200
theorem ten_ge (a : Nat) : 2 ^ (3 * a) ≤ 10 ^ a := by rw [Nat.pow_mul]; exact Nat.pow_le_pow_left (by omega) a
theorem ten_six (a : Nat) : 2 ^ (19 * a) ≤ 10 ^ (6 * a) := by rw [Nat.pow_mul, Nat.pow_mul]; exact Nat.pow_le_pow_left (by decide) a
theorem mid_low {d : D} (h : Mid d) : Ge10 d (-400) := by
  obtain ⟨m0, m1, e0, e1⟩ := h
  unfold Ge10 dN dD
  obtain ⟨K, hK⟩ : ∃ K : Nat, K = 400 := ⟨_, rfl⟩
  rw [show (- -(400 : Int)).toNat = K by omega, show (-(- -400 : Int)).toNat = 0 by omega, Nat.pow_zero, Nat.one_mul]
  have h1 : 2 ^ (-d.e).toNat ≤ 2 ^ (3 * K) := Nat.pow_le_pow_right (by omega) (by omega)
  have h2 := ten_ge K
  have h3 : 1 * 10 ^ K * 1 ≤ d.m * 10 ^ K * 2 ^ d.e.toNat := Nat.mul_le_mul (Nat.mul_le_mul_right _ (by omega)) (Nat.two_pow_pos _)
  omega
theorem mid_high {d : D} (h : Mid d) : ¬ Ge10 d 400 := by
  obtain ⟨m0, m1, e0, e1⟩ := h
  unfold Ge10 dN dD
  obtain ⟨K, hK⟩ : ∃ K : Nat, K = 66 := ⟨_, rfl⟩
  obtain ⟨E, hE⟩ : ∃ E : Nat, E = 1200 := ⟨_, rfl⟩
  rw [show (-(400 : Int)).toNat = 0 by omega, show (-(-400 : Int)).toNat = 6 * K + 4 by omega, Nat.pow_zero, Nat.mul_one]
  have h1 : d.m * 2 ^ d.e.toNat < 2 ^ (64 + E) := by
    rw [Nat.pow_add]
    exact Nat.mul_lt_mul_of_lt_of_le m1 (Nat.pow_le_pow_right (by omega) (by omega)) (Nat.two_pow_pos _)
  have h2 : 2 ^ (64 + E) ≤ 2 ^ (19 * K + 12) := Nat.pow_le_pow_right (by omega) (by omega)
  have h3 : 2 ^ (19 * K + 12) ≤ 10 ^ (6 * K + 4) := by
    rw [Nat.pow_add, Nat.pow_add]
    exact Nat.mul_le_mul (ten_six K) (by decide)
  have h4 : 10 ^ (6 * K + 4) * 1 ≤ 10 ^ (6 * K + 4) * 2 ^ (-d.e).toNat := Nat.mul_le_mul_left _ (Nat.two_pow_pos _)
  omega
theorem blen_pos {n : Nat} (h : n ≠ 0) : 1 ≤ blen n := by unfold blen; rw [if_neg h]; omega
set_option maxHeartbeats 4000000 in
theorem less_any (b : Nat) (s : Value) (d : D) (p : Int) (w : World) (hb : Box w b 68 (.bool d.neg) s (.int .i64 d.e)) (hs : NV w s d.m) (hm : Mid d) (p0 : -1000 ≤ p) (p1 : p ≤ 1000) :
    Calls Tryz.prog 172 #[.int .i64 p, .pointer (some ⟨b, 0, none⟩)] w fun e w' => e = .returned (.bool (!decide (Ge10 d p))) ∧ Below w.heap.size w w' := by
  obtain ⟨as', ns, cs, rfl⟩ := hs.shape
  have HB := Lib.hid hb
  have HS := Lib.hid hs
  have SC := Lib.hid (fun v X w' (h : DV w' v d) (hX : X = -p) => scaled_any v d X 64 w' h hm.m1 (by omega) (by omega) (by omega) (by have := hm.e0; omega) (by have := hm.e1; omega))
  have CM := Lib.hid (fun va vb w' (ha : NV w' va (dN d (-p))) (hb : NV w' vb (dD d (-p))) => compare_any va vb _ _ w' ha hb)
  obtain ⟨c0, c1, c2, -, -, -⟩ := hb.cells
  have hsg : decide (sgn2 ((dN d (-p) : Nat) : Int) ((dD d (-p) : Nat) : Int) < 0) = (!decide (Ge10 d p)) := by
    unfold sgn2 Ge10
    by_cases h : dN d (-p) < dD d (-p)
    · rw [if_pos (by omega), decide_eq_false (by omega : ¬ dD d (-p) ≤ dN d (-p))]; rfl
    · rw [if_neg (by omega), decide_eq_true (by omega : dD d (-p) ≤ dN d (-p))]
      split <;> rfl
  obtain ⟨R, hR⟩ : ∃ R, R = (!decide (Ge10 d p)) := ⟨_, rfl⟩
  rw [← hR] at hsg
  rw [← hR]
  generalize sgn2 ((dN d (-p) : Nat) : Int) ((dD d (-p) : Nat) : Int) = sg at *
  have SG : Hid (decide (sg < 0) = R ∧ True) := Lib.hid ⟨hsg, trivial⟩
  have hpw : IntKind.i64.wrap (-p) = -p := IntWalk.i64_in _ (by omega)
  have B0 : Hid (Below w.heap.size w w) := Lib.hid (Below.refl _ _)
  clear hb hs hm hR hsg
  go_enter Tryz.func172, Tryz.ntmps172
  go_wp2_with (go_at_call 78; refine (SC.out _ _ _ ⟨_, rfl, HS.out⟩ (by first | rfl | omega)).mono ?_; rintro e w2 ⟨bb, rfl, -, hr2, hb2⟩; obtain ⟨s2, vn, vd, q1, q2, q3⟩ := hr2; obtain ⟨an, nn, cn, rfl⟩ := q2.shape; obtain ⟨ad, nd, cd, rfl⟩ := q3.shape; have R2 : Hid (Row5 w2 bb d.neg s2 d.e (.slice an nn cn) (.slice ad nd cd)) := Lib.hid q1; have N2 := Lib.hid q2; have D2 := Lib.hid q3; have B2 := Lib.hid (bl_thru B0.out (Nat.le_refl _) hb2); clear q1 q2 q3 hb2)
  replace N2 := Lib.hid N2.out.drew
  replace D2 := Lib.hid D2.out.drew
  obtain ⟨p0, p3, p4⟩ := R2.out.cells
  go_region_held3 (fun w' => w'.cell? ⟨bb, 3, none⟩ = some (.slice an nn cn) ∧ w'.cell? ⟨bb, 4, none⟩ = some (.slice ad nd cd))
    (first
      | exact ⟨p3, p4⟩
      | (go_keep; done))
    (first
      | (go_at_call 101; refine (CM.out _ _ _ N2.out D2.out).mono ?_; rintro rr w4 ⟨rfl, nw, rfl⟩))
  rw [SG.out.1]
  go_wp2
  go_ret
  exact ⟨rfl, below_to_drewN B2.out⟩
set_option maxHeartbeats 4000000 in
theorem log10_any (v : Value) (d : D) (w : World) (hd : DV w v d) (hm : Mid d) :
    Calls Tryz.prog 129 #[v] w fun e w' => e = .returned (.int .i64 (lgD d)) ∧ Below w.heap.size w w' := by
  obtain ⟨s, rfl, hs⟩ := hd
  obtain ⟨sa, sn, sc, rfl⟩ := hs.shape
  have HS := Lib.hid hs
  have LN := Lib.hid (fun w' (h : NV w' (.slice sa sn sc) d.m) => natLen_any _ d.m 64 w' h hm.m1 (by omega))
  have LS := Lib.hid (fun b p w' hb (h : NV w' (.slice sa sn sc) d.m) p0 p1 => less_any b _ d p w' hb h hm p0 p1)
  have hl := blen_le_of hm.m1
  have hl2 := blen_pos hm.m0
  have he0 := hm.e0
  have he1 := hm.e1
  have ML : Hid (∀ p, ¬ Ge10 d p → -400 < p) := Lib.hid (fun p h => by
    rcases Int.lt_or_le (-400) p with h1 | h1
    · exact h1
    · exact absurd (ge_anti h1 (mid_low hm)) h)
  have MH : Hid (∀ p, Ge10 d p → p < 400) := Lib.hid (fun p h => by
    rcases Int.lt_or_le p 400 with h1 | h1
    · exact h1
    · exact absurd (ge_anti h1 h) (mid_high hm))
  clear hs hm
  generalize blen d.m = ln at *
  have B : Hid (Below w.heap.size w w) := Lib.hid (Below.refl _ _)
  go_enter Tryz.func129, Tryz.ntmps129
  go_wp2_with fail
  obtain ⟨V, hV⟩ : ∃ V, V = w.alloc (.cells #[.bool d.neg, .slice sa sn sc, .int .i64 d.e] 68) := ⟨_, rfl⟩
  have XC : Hid (Box V w.heap.size 68 (.bool d.neg) (.slice sa sn sc) (.int .i64 d.e)) := Lib.hid (by rw [hV]; exact Box.new w (.bool d.neg) (.slice sa sn sc) (.int .i64 d.e) 68)
  replace B : Hid (Below w.heap.size w V) := Lib.hid (by rw [hV]; exact (Below.refl _ _).alloc (Nat.le_refl _) _)
  replace HS : Hid (NV V (.slice sa sn sc) d.m) := Lib.hid (by rw [hV]; exact HS.out.alloc _)
  rw [← hV]
  clear hV
  replace XC := Lib.hid XC.out.drew
  replace B := Lib.hid B.out.drew
  replace HS := Lib.hid HS.out.drew
  obtain ⟨p0, p1, p2, -, -, -⟩ := XC.out.cells
  go_region_held3 (fun w' => w'.cell? ⟨w.heap.size, 1, none⟩ = some (.slice sa sn sc) ∧ w'.cell? ⟨w.heap.size, 2, none⟩ = some (.int .i64 d.e))
    (first
      | exact ⟨p1, p2⟩
      | (go_keep; done))
    (first
      | (go_at_call 59; refine (LN.out _ HS.out).mono ?_; rintro e w' ⟨rfl, rfl⟩))
  go_wp2_with fail
  obtain ⟨P0, hP0, hP1, hP2⟩ : ∃ P0, IntKind.i64.wrap ((IntKind.i64.wrap (IntKind.i64.wrap (IntKind.i64.wrap ((ln : Int) + d.e) - 1) * 30103)).tdiv 100000) = P0 ∧ -400 ≤ P0 ∧ P0 ≤ 400 := by
    rw [IntWalk.i64_in ((ln : Int) + d.e) (by omega), IntWalk.i64_in ((ln : Int) + d.e - 1) (by omega), IntWalk.i64_in (((ln : Int) + d.e - 1) * 30103) (by omega)]
    have h1 : -362 * 100000 ≤ ((ln : Int) + d.e - 1) * 30103 := by omega
    have h2 : ((ln : Int) + d.e - 1) * 30103 ≤ 381 * 100000 := by omega
    generalize ((ln : Int) + d.e - 1) * 30103 = a at *
    have h3 := Int.tdiv_eq_ediv (a := a) (b := 100000)
    have h4 : -400 ≤ a.tdiv 100000 ∧ a.tdiv 100000 ≤ 400 := by
      rw [h3]; split
      · omega
      · rw [show Int.sign 100000 = 1 by rfl]; omega
    rw [IntWalk.i64_in _ (by omega)]
    exact ⟨_, rfl, h4.1, h4.2⟩
  simp only [hP0]
  clear hP0 hl hl2 p0 p1 p2 LN
  go_loopw [3] (fun pv wr => ∃ p : Int, pv = .int .i64 p ∧ -400 ≤ p ∧ p ≤ 400 ∧ Hid (Box wr w.heap.size 68 (.bool d.neg) (.slice sa sn sc) (.int .i64 d.e)) ∧ Hid (NV wr (.slice sa sn sc) d.m) ∧ Hid (Below w.heap.size w wr)) (fun pv _ => (intOf pv + 400).toNat)
  case atStart => exact ⟨P0, rfl, hP1, hP2, XC, HS, B⟩
  case round =>
    obtain ⟨p, rfl, q0, q1, XR, HR, BR⟩ := hrel
    clear XC HS B hP1 hP2
    by_cases hg : Ge10 d p
    · have LS1 := Lib.hid (LS.out _ p _ XR.out HR.out (by omega) (by omega))
      rw [show (!decide (Ge10 d p)) = false by rw [decide_eq_true hg]; rfl] at LS1
      have HG := Lib.hid hg
      clear hg
      go_wp2_with fail
      refine LS1.out.mono ?_
      rintro e w1 ⟨rfl, hb⟩
      have X1 := Lib.hid (XR.out.below hb)
      have H1 := Lib.hid (HR.out.below hb)
      have B1 := Lib.hid (bl_thru BR.out (Nat.le_refl _) hb)
      clear hb LS1 XR HR BR
      go_wp2_with fail
      go_loopw [3] (fun pv wr => ∃ p : Int, pv = .int .i64 p ∧ -400 ≤ p ∧ p ≤ 400 ∧ Hid (Ge10 d p ∧ True) ∧ Hid (Box wr w.heap.size 68 (.bool d.neg) (.slice sa sn sc) (.int .i64 d.e)) ∧ Hid (NV wr (.slice sa sn sc) d.m) ∧ Hid (Below w.heap.size w wr)) (fun pv _ => (400 - intOf pv).toNat)
      case atStart => exact ⟨p, rfl, q0, q1, Lib.hid ⟨HG.out, trivial⟩, X1, H1, B1⟩
      case round =>
        obtain ⟨p', rfl, r0, r1, HG2, XR, HR, BR⟩ := hrel
        clear X1 H1 B1 HG q0 q1
        by_cases hg : Ge10 d (p' + 1)
        · have hlt := MH.out _ hg
          have LS1 := Lib.hid (LS.out _ (p' + 1) _ XR.out HR.out (by omega) (by omega))
          rw [show (!decide (Ge10 d (p' + 1))) = false by rw [decide_eq_true hg]; rfl] at LS1
          have HG := Lib.hid hg
          clear hg
          go_wp2_with fail
          refine LS1.out.mono ?_
          rintro e w1 ⟨rfl, hb⟩
          have X1 := Lib.hid (XR.out.below hb)
          have H1 := Lib.hid (HR.out.below hb)
          have B1 := Lib.hid (bl_thru BR.out (Nat.le_refl _) hb)
          clear hb LS1 XR HR BR
          go_wp2
          go_roundw
          case rel => exact ⟨p' + 1, by go_num, by omega, by omega, Lib.hid ⟨HG.out, trivial⟩, X1, H1, B1⟩
          case measure => simp [intOf] <;> omega
        · have LS1 := Lib.hid (LS.out _ (p' + 1) _ XR.out HR.out (by omega) (by omega))
          rw [show (!decide (Ge10 d (p' + 1))) = true by rw [decide_eq_false hg]; rfl] at LS1
          have hlg : lgD d = p' := lgD_eq (isLg_iff.2 ⟨HG2.out.1, hg⟩)
          have HG := Lib.hid hlg
          clear hg hlg
          go_wp2_with fail
          refine LS1.out.mono ?_
          rintro e w1 ⟨rfl, hb⟩
          have B1 := Lib.hid (bl_thru BR.out (Nat.le_refl _) hb)
          clear hb LS1 XR HR BR
          go_wp2
          go_ret
          exact ⟨by rw [HG.out]; rfl, B1.out⟩
    · have hlt := ML.out _ hg
      have LS1 := Lib.hid (LS.out _ p _ XR.out HR.out (by omega) (by omega))
      rw [show (!decide (Ge10 d p)) = true by rw [decide_eq_false hg]; rfl] at LS1
      clear hg
      go_wp2_with fail
      refine LS1.out.mono ?_
      rintro e w1 ⟨rfl, hb⟩
      have X1 := Lib.hid (XR.out.below hb)
      have H1 := Lib.hid (HR.out.below hb)
      have B1 := Lib.hid (bl_thru BR.out (Nat.le_refl _) hb)
      clear hb LS1 XR HR BR
      go_wp2
      go_roundw
      case rel => exact ⟨p - 1, by go_num, by omega, by omega, X1, H1, B1⟩
      case measure => simp [intOf] <;> omega
end Go.Proofs.YtofdjfdnckmmmaaGreatDoor

/-
  THE WALKS of decimal.Digits, Power, Sci.
-/
namespace Go.Proofs.YtofdjfdnckmmmaaGreatDoor
open Go.RowKit Nt Fm Fl

theorem mid_some {d : D} (h : Mid d) : ∀ n : Nat, ¬ Ge10 d (-400 + n) → ∃ p, IsLg d p
  | 0, hn => absurd (mid_low h) (by simpa using hn)
  | n + 1, hn => by
    by_cases hg : Ge10 d (-400 + n)
    · exact ⟨_, isLg_iff.2 ⟨hg, by rw [show (-400 : Int) + n + 1 = -400 + ((n + 1 : Nat) : Int) by omega]; exact hn⟩⟩
    · exact mid_some h n hg
theorem mid_lg {d : D} (h : Mid d) : IsLg d (lgD d) := Classical.epsilon_spec (mid_some h 800 (mid_high h))
theorem mid_bd {d : D} (h : Mid d) : -400 ≤ lgD d ∧ lgD d ≤ 400 := by
  have h1 := isLg_iff.1 (mid_lg h)
  constructor
  · rcases Int.lt_or_le (lgD d) (-400) with h2 | h2
    · exact absurd (ge_anti (show lgD d + 1 ≤ -400 by omega) (mid_low h)) h1.2
    · exact h2
  · rcases Int.lt_or_le 400 (lgD d) with h2 | h2
    · exact absurd (ge_anti (show (400 : Int) ≤ lgD d by omega) h1.1) (mid_high h)
    · exact h2
/-- the digits, as a number -/
noncomputable def dgQ (d : D) (g : Nat) (mode : Int) : Nat := dQ d ((g : Int) - 1 - lgD d) mode
/-- what Digits tells: the text -/
noncomputable def dgT (d : D) (g : Nat) (mode : Int) : List UInt8 := if d.m = 0 then List.replicate g 48 else dgS (dgQ d g mode) g
/-- .. the exponent -/
noncomputable def dgP (d : D) (g : Nat) (mode : Int) : Int := if d.m = 0 then 0 else if g < (Lib.decDigits (dgQ d g mode)).length then lgD d + 1 else lgD d
/-- .. whether it was changed -/
noncomputable def dgC (d : D) (g : Nat) : Bool := if d.m = 0 then false else dC d ((g : Int) - 1 - lgD d)
def RetSIB (w : World) (s : List UInt8) (p : Int) (b : Bool) (e : Ending) (w' : World) : Prop := e = .returned (.tuple #[.string ⟨s.toArray⟩, .int .i64 p, .bool b]) ∧ Below w.heap.size w w'
theorem ba_take {S : ByteArray} {l : List UInt8} (hS : S = ⟨l.toArray⟩) (g : Nat) : S.extract 0 g = ⟨(l.take g).toArray⟩ := by
  subst hS
  apply ByteArray.ext
  simp [ByteArray.data_extract]
set_option maxHeartbeats 8000000 in
theorem digits_any (v : Value) (d : D) (g : Nat) (mode : Int) (w : World) (hd : DV w v d) (hm : d.m = 0 ∨ Mid d) (g1 : 1 ≤ g) (g2 : g ≤ 1000) (m0 : 0 ≤ mode) (m1 : mode ≤ 4) (hT10 : Tab10 w) :
    Calls Tryz.prog 84 #[v, .int .i64 (g : Int), .int .i64 mode] w (RetSIB w (dgT d g mode) (dgP d g mode) (dgC d g)) := by
  obtain ⟨s, rfl, hs⟩ := hd
  obtain ⟨sa, sn, sc, rfl, hl1, hl2, hz⟩ := nv_len hs
  unfold dgT dgP dgC
  have HS := Lib.hid hs
  rcases hz with ⟨hz, rfl⟩ | ⟨hz, hn⟩
  · rw [if_pos hz, if_pos hz, if_pos hz]
    have RP := Lib.hid (fun X w' (h : X = ((g : Nat) : Int)) => rep_any g X h (by omega) w')
    obtain ⟨Z, hZ⟩ : ∃ Z : ByteArray, Z = ⟨(List.replicate g (48 : UInt8)).toArray⟩ := ⟨_, rfl⟩
    unfold RetSIB
    rw [← hZ] at RP
    rw [← hZ]
    have B0 : Hid (Below w.heap.size w (w.alloc (.cells #[.bool d.neg, .slice sa 0 sc, .int .i64 d.e] 68))) := Lib.hid ((Below.refl _ _).alloc (Nat.le_refl _) _)
    clear hZ hm hT10 hs HS
    go_enter Tryz.func84, Tryz.ntmps84
    go_wp2_with (go_at_call 26; refine (RP.out _ _ rfl).mono ?_; rintro e w3 ⟨rfl, hb3⟩; have B3 := Lib.hid (bl_thru B0.out (Nat.le_refl _) hb3); clear hb3)
    go_ret3
    exact ⟨rfl, B3.out⟩
  · rw [if_neg hz, if_neg hz, if_neg hz]
    have hmid : Mid d := hm.resolve_left hz
    have hlg := mid_lg hmid
    obtain ⟨lb0, lb1⟩ := mid_bd hmid
    obtain ⟨bq0, bq1⟩ := dg_bd hlg g g1 mode
    have hql := dec_len_le (g + 1) (dgQ d g mode) (by omega) (by
      have : 10 ^ g < 10 ^ (g + 1) := Nat.pow_lt_pow_right (by omega) (by omega)
      unfold dgQ; omega)
    obtain ⟨K0, hK0, hK1⟩ : ∃ K0, 20000 ≤ K0 ∧ K0 ≤ 20000 := ⟨20000, by omega, by omega⟩
    have b1 : dN d ((g : Int) - 1 - lgD d) < 2 ^ K0 := by
      have e0 := hmid.e1
      exact Nat.lt_of_lt_of_le (dN_lt d _ (kd := 64) hmid.m1).2 (Nat.pow_le_pow_right (by omega) (by omega))
    have b2 : dD d ((g : Int) - 1 - lgD d) < 2 ^ K0 := by
      have e0 := hmid.e0
      exact Nat.lt_of_lt_of_le (dD_lt _ _) (Nat.pow_le_pow_right (by omega) (by omega))
    have LG := Lib.hid (fun v w' (h : DV w' v d) => log10_any v d w' h hmid)
    have SC := Lib.hid (fun v w' (h : DV w' v d) => scaled_any v d ((g : Int) - 1 - lgD d) 64 w' h hmid.m1 (by omega) (by omega) (by omega) (by have := hmid.e0; omega) (by have := hmid.e1; omega))
    have RR := Lib.hid (fun B w' (h : RatN w' B d.neg (dN d ((g : Int) - 1 - lgD d)) (dD d ((g : Int) - 1 - lgD d))) => rround_any B _ _ _ K0 mode w' h b1 (dD_pos _ _) b2 (by omega) m0 m1)
    have hq := dQ_lt d ((g : Int) - 1 - lgD d) mode b1
    change Hid (∀ B w' (h : RatN w' B d.neg (dN d ((g : Int) - 1 - lgD d)) (dD d ((g : Int) - 1 - lgD d))), Calls Tryz.prog 80 #[.pointer (some ⟨B, 0, none⟩), .int .i64 mode] w' (RetNVB w' (dgQ d g mode) (dC d ((g : Int) - 1 - lgD d)))) at RR
    have DC := Lib.hid (fun va w' (h : NV w' va (dgQ d g mode)) (h2 : Tab10 w') => decimal_any va _ (K0 + 1) w' h hq (by omega) h2)
    generalize dC d ((g : Int) - 1 - lgD d) = cc at *
    generalize dgQ d g mode = q at *
    generalize hlgd : lgD d = lg at *
    have hw1 : (g : Int) - 1 - lg = IntKind.i64.wrap ((g : Int) - 1 - lg) := (IntWalk.i64_in _ (by omega)).symm
    obtain ⟨n, hn'⟩ : ∃ n, n = (Lib.decDigits q).length := ⟨_, rfl⟩
    obtain ⟨S, hS⟩ : ∃ S : ByteArray, S = ⟨(Lib.decDigits q).toArray⟩ := ⟨_, rfl⟩
    have hSz : S.size = n := by rw [hn', hS]; rfl
    rw [← hS] at DC
    have HSS := Lib.hid hS
    have HN := Lib.hid hn'
    have B0 : Hid (Below w.heap.size w (w.alloc (.cells #[.bool d.neg, .slice sa sn sc, .int .i64 d.e] 68))) := Lib.hid ((Below.refl _ _).alloc (Nat.le_refl _) _)
    have H0 := Lib.hid (HS.out.alloc (.cells #[.bool d.neg, .slice sa sn sc, .int .i64 d.e] 68))
    have XC : Hid (Box (w.alloc (.cells #[.bool d.neg, .slice sa sn sc, .int .i64 d.e] 68)) w.heap.size 68 (.bool d.neg) (.slice sa sn sc) (.int .i64 d.e)) := Lib.hid (Box.new w (.bool d.neg) (.slice sa sn sc) (.int .i64 d.e) 68)
    have T0 := Lib.hid (hT10.below ((Below.refl _ _).alloc (Nat.le_refl _) (.cells #[.bool d.neg, .slice sa sn sc, .int .i64 d.e] 68)))
    have hnz : ((sn : Int) == 0) = false := by rw [beq_eq_false_iff_ne]; omega
    rw [← hn'] at hql
    have epost : ∀ b : Bool, b = decide (g < n) → (if g < (Lib.decDigits q).length then lg + 1 else lg) = (if b = true then lg + 1 else lg) ∧ dgS q g = (if b = true then (Lib.decDigits q).take g else Lib.decDigits q) := by
      intro b hb
      rw [hb]
      unfold dgS
      rw [← hn']
      by_cases h : g < n
      · simp [h]
      · simp [h]
    by_cases hgn : g < n
    · obtain ⟨ep1, ep2⟩ := epost true (by rw [decide_eq_true hgn])
      rw [if_pos rfl] at ep1 ep2
      rw [ep1, ep2]
      have HE := Lib.hid (ba_take hS g)
      unfold RetSIB
      rw [← HE.out]
      have hgi : (g : Int) < (n : Int) := by omega
      have hgn' : (g : Int) ≤ (n : Int) := by omega
      clear hs HS hm hz hmid hlg b1 b2 hq bq0 bq1 hlgd hn' hS epost ep1 ep2 hT10 hgn HE hw1
      go_enter Tryz.func84, Tryz.ntmps84
      go_wp2_with (first
        | (go_at_call 129; refine (LG.out _ _ ⟨_, rfl, H0.out⟩).mono ?_; rintro e w1 ⟨rfl, hb⟩; have H1 := Lib.hid (H0.out.below hb); have X1 := Lib.hid (XC.out.below hb); have T1 := Lib.hid (T0.out.below hb); have B1 := Lib.hid (bl_thru B0.out (Nat.le_refl _) hb); obtain ⟨p0, p1, p2, -, -, -⟩ := X1.out.cells; clear hb)
        | (go_at_call 78; refine (SC.out _ _ ⟨_, rfl, H1.out⟩).mono ?_; rintro e w2 ⟨bb, rfl, -, hr2, hb2⟩; have R2 := Lib.hid hr2; have B2 := Lib.hid (bl_thru B1.out (Nat.le_refl _) hb2); have T2 := Lib.hid (T1.out.below hb2); clear hr2 hb2)
        | (go_at_call 80; refine (RR.out _ _ (by obtain ⟨s, vn, vd, h1, h2, h3⟩ := R2.out; exact ⟨s, _, vn, vd, h1, h2, h3⟩)).mono ?_; rintro e w3 ⟨v3, rfl, hv3, hb3⟩; have N3 := Lib.hid hv3; have B3 := Lib.hid (bl_thru B2.out (Nat.le_refl _) hb3); have T3 := Lib.hid (T2.out.below hb3); clear hv3 hb3)
        | (go_at_call 83; refine (DC.out _ _ N3.out T3.out).mono ?_; rintro e w5 ⟨rfl, hb5⟩; have B5 := Lib.hid (bl_thru B3.out (Nat.le_refl _) hb5); clear hb5))
      go_ret3
      exact ⟨rfl, B5.out⟩
    · obtain ⟨ep1, ep2⟩ := epost false (by rw [decide_eq_false hgn])
      simp only [Bool.false_eq_true, if_false] at ep1 ep2
      rw [ep1, ep2]
      unfold RetSIB
      rw [← hS]
      have hgi : (n : Int) ≤ (g : Int) := by omega
      clear hs HS hm hz hmid hlg b1 b2 hq bq0 bq1 hlgd hn' hS epost ep1 ep2 hT10 hgn hw1
      go_enter Tryz.func84, Tryz.ntmps84
      go_wp2_with (first
        | (go_at_call 129; refine (LG.out _ _ ⟨_, rfl, H0.out⟩).mono ?_; rintro e w1 ⟨rfl, hb⟩; have H1 := Lib.hid (H0.out.below hb); have X1 := Lib.hid (XC.out.below hb); have T1 := Lib.hid (T0.out.below hb); have B1 := Lib.hid (bl_thru B0.out (Nat.le_refl _) hb); obtain ⟨p0, p1, p2, -, -, -⟩ := X1.out.cells; clear hb)
        | (go_at_call 78; refine (SC.out _ _ ⟨_, rfl, H1.out⟩).mono ?_; rintro e w2 ⟨bb, rfl, -, hr2, hb2⟩; have R2 := Lib.hid hr2; have B2 := Lib.hid (bl_thru B1.out (Nat.le_refl _) hb2); have T2 := Lib.hid (T1.out.below hb2); clear hr2 hb2)
        | (go_at_call 80; refine (RR.out _ _ (by obtain ⟨s, vn, vd, h1, h2, h3⟩ := R2.out; exact ⟨s, _, vn, vd, h1, h2, h3⟩)).mono ?_; rintro e w3 ⟨v3, rfl, hv3, hb3⟩; have N3 := Lib.hid hv3; have B3 := Lib.hid (bl_thru B2.out (Nat.le_refl _) hb3); have T3 := Lib.hid (T2.out.below hb3); clear hv3 hb3)
        | (go_at_call 83; refine (DC.out _ _ N3.out T3.out).mono ?_; rintro e w5 ⟨rfl, hb5⟩; have B5 := Lib.hid (bl_thru B3.out (Nat.le_refl _) hb5); clear hb5))
      go_ret3
      exact ⟨rfl, B5.out⟩
theorem itoaP (n : Nat) (X : Int) (hX : X = (n : Int)) (h : n < 1000000) (w : World) (hT : Tab10 w) :
    Calls Tryz.prog 73 #[.int .i64 X] w fun e w' => e = .returned (.string ⟨(Lib.decDigits n).toArray⟩) ∧ Below w.heap.size w w' := by
  subst hX
  exact itoa_any n (by omega) w hT
theorem ba_mk (a b : List UInt8) {A : ByteArray} (hA : A = ⟨b.toArray⟩) : (⟨a.toArray⟩ : ByteArray) ++ A = ⟨(a ++ b).toArray⟩ := ba_app a b rfl hA
set_option maxHeartbeats 4000000 in
theorem power_any (p : Int) (w : World) (p0 : -10000 ≤ p) (p1 : p ≤ 10000) (hT : Tab10 w) :
    Calls Tryz.prog 85 #[.int .i64 p] w fun e w' => e = .returned (.string ⟨(pwS p).toArray⟩) ∧ Below w.heap.size w w' := by
  have IT := Lib.hid (fun X w' (h : X = ((p.natAbs : Nat) : Int)) (hT : Tab10 w') => itoaP p.natAbs X h (by omega) w' hT)
  obtain ⟨D, hD⟩ : ∃ D : ByteArray, D = ⟨(Lib.decDigits p.natAbs).toArray⟩ := ⟨_, rfl⟩
  rw [← hD] at IT
  have hz : D.size ≤ 10 := by
    have h1 := dec_len_le 5 p.natAbs (by omega) (by omega)
    have : D.size = (Lib.decDigits p.natAbs).length := by rw [hD]; rfl
    omega
  have H0 := Lib.hid hT
  have hw : IntKind.i64.wrap (-p) = -p := IntWalk.i64_in _ (by omega)
  by_cases hn : p < 0
  · by_cases ht : p.natAbs < 10
    · have e : pwS p = [45, 48] ++ Lib.decDigits p.natAbs := by unfold pwS; rw [if_pos hn, if_pos ht]; rfl
      rw [e, ← ba_mk _ _ hD]
      have ht2 : -p < 10 := by omega
      clear e hT hD ht
      go_enter Tryz.func85, Tryz.ntmps85
      go_wp2_with (go_at_call 73; refine (IT.out _ _ (by omega) H0.out).mono ?_; rintro e w3 ⟨rfl, hb3⟩; have B3 := Lib.hid hb3; clear hb3)
      go_ret
      exact ⟨rfl, B3.out⟩
    · have e : pwS p = [45] ++ Lib.decDigits p.natAbs := by unfold pwS; rw [if_pos hn, if_neg ht]; rfl
      rw [e, ← ba_mk _ _ hD]
      have ht2 : ¬ -p < 10 := by omega
      clear e hT hD ht
      go_enter Tryz.func85, Tryz.ntmps85
      go_wp2_with (go_at_call 73; refine (IT.out _ _ (by omega) H0.out).mono ?_; rintro e w3 ⟨rfl, hb3⟩; have B3 := Lib.hid hb3; clear hb3)
      go_ret
      exact ⟨rfl, B3.out⟩
  · by_cases ht : p.natAbs < 10
    · have e : pwS p = [43, 48] ++ Lib.decDigits p.natAbs := by unfold pwS; rw [if_neg hn, if_pos ht]; rfl
      rw [e, ← ba_mk _ _ hD]
      have ht2 : p < 10 := by omega
      clear e hT hD ht
      go_enter Tryz.func85, Tryz.ntmps85
      go_wp2_with (go_at_call 73; refine (IT.out _ _ (by omega) H0.out).mono ?_; rintro e w3 ⟨rfl, hb3⟩; have B3 := Lib.hid hb3; clear hb3)
      go_ret
      exact ⟨rfl, B3.out⟩
    · have e : pwS p = [43] ++ Lib.decDigits p.natAbs := by unfold pwS; rw [if_neg hn, if_neg ht]; rfl
      rw [e, ← ba_mk _ _ hD]
      have ht2 : ¬ p < 10 := by omega
      clear e hT hD ht
      go_enter Tryz.func85, Tryz.ntmps85
      go_wp2_with (go_at_call 73; refine (IT.out _ _ (by omega) H0.out).mono ?_; rintro e w3 ⟨rfl, hb3⟩; have B3 := Lib.hid hb3; clear hb3)
      go_ret
      exact ⟨rfl, B3.out⟩
end Go.Proofs.YtofdjfdnckmmmaaGreatDoor

/-
  THE WALK of decimal.Sci.
-/
namespace Go.Proofs.YtofdjfdnckmmmaaGreatDoor
open Go.RowKit Nt Fm Fl

/-- what Sci tells: the error -/
def scE (x digits mode : Int) : Int := if hasV x = true then (if (0 ≤ mode ∧ mode ≤ 4) ∧ 1 ≤ digits ∧ digits ≤ 800 then 0 else 1) else 4
/-- .. the text -/
noncomputable def scT (x : Int) (g : Nat) (mode : Int) : List UInt8 := sgS x ++ (pt (dgT (valD x) g mode) (g - 1) ++ ([101] ++ pwS (dgP (valD x) g mode)))
noncomputable def scS (x digits mode : Int) : List UInt8 := if scE x digits mode = 0 then scT x digits.toNat mode else []
/-- .. whether it was changed -/
noncomputable def scC (x digits mode : Int) : Bool := decide (scE x digits mode = 0) && dgC (valD x) digits.toNat
theorem scE_cases (x digits mode : Int) : (hasV x = false ∧ scE x digits mode = 4) ∨ (hasV x = true ∧ ¬ ((0 ≤ mode ∧ mode ≤ 4) ∧ 1 ≤ digits ∧ digits ≤ 800) ∧ scE x digits mode = 1) ∨ (hasV x = true ∧ ((0 ≤ mode ∧ mode ≤ 4) ∧ 1 ≤ digits ∧ digits ≤ 800) ∧ scE x digits mode = 0) := by
  unfold scE
  cases hasV x
  · left; simp
  · right
    by_cases h : (0 ≤ mode ∧ mode ≤ 4) ∧ 1 ≤ digits ∧ digits ≤ 800
    · right; exact ⟨rfl, h, by rw [if_pos rfl, if_pos h]⟩
    · left; exact ⟨rfl, h, by rw [if_pos rfl, if_neg h]⟩
theorem val_mid {x : Int} (x0 : 0 ≤ x) (x1 : x ≤ 18446744073709551615) : (valD x).m = 0 ∨ Mid (valD x) := by
  obtain ⟨f1, f2, f3, f4, f5⟩ := valD_facts x x0 x1
  by_cases h : (valD x).m = 0
  · exact Or.inl h
  · exact Or.inr ⟨h, by omega, by omega, by omega⟩
theorem dgT_len {d : D} (hm : d.m = 0 ∨ Mid d) {g : Nat} (g1 : 1 ≤ g) (mode : Int) : (dgT d g mode).length = g := by
  unfold dgT
  by_cases h : d.m = 0
  · rw [if_pos h]; simp
  · rw [if_neg h]
    obtain ⟨b0, b1⟩ := dg_bd (mid_lg (hm.resolve_left h)) g g1 mode
    exact (dgS_spec g1 b0 b1).1
theorem dgP_bd {d : D} (hm : d.m = 0 ∨ Mid d) (g : Nat) (mode : Int) : -400 ≤ dgP d g mode ∧ dgP d g mode ≤ 401 := by
  unfold dgP
  by_cases h : d.m = 0
  · rw [if_pos h]; omega
  · rw [if_neg h]
    obtain ⟨b0, b1⟩ := mid_bd (hm.resolve_left h)
    split <;> omega
theorem pwS_le (p : Int) (h : p.natAbs < 100000) : (pwS p).length ≤ 10 := by
  have h1 := dec_len_le 5 p.natAbs (by omega) (by omega)
  have h2 : ∀ b : Bool, ((if b = true then [48] else []) : List UInt8).length ≤ 1 := by intro b; cases b <;> simp
  have h3 := h2 (decide (p.natAbs < 10))
  simp only [decide_eq_true_eq] at h3
  unfold pwS
  rw [List.length_cons, List.length_append]
  omega
set_option maxHeartbeats 8000000 in
theorem sci_any (x digits mode : Int) (x0 : 0 ≤ x) (x1 : x ≤ 18446744073709551615) (w : World) (hT : Tab w) (hT10 : Tab10 w) :
    Calls Tryz.prog 49 #[.int .u64 x, .int .i64 digits, .int .i64 mode] w (RetSBE w (scS x digits mode) (scC x digits mode) (scE x digits mode)) := by
  have HV := Lib.hid (fun w' => hasValue_any x x0 x1 w')
  have KN := Lib.hid (fun w' => known_any mode w')
  unfold scS scC
  rcases scE_cases x digits mode with ⟨h1, hE⟩ | ⟨h1, h2, hE⟩ | ⟨h1, h2, hE⟩
  · rw [h1] at HV
    rw [hE, if_neg (by decide), show (decide ((4 : Int) = 0) && dgC (valD x) digits.toNat) = false by rfl]
    clear hE h1 hT hT10
    go_enter Tryz.func49, Tryz.ntmps49
    go_wp2_with (go_at_call 27; refine (HV.out _).mono ?_; rintro e w1 ⟨rfl, rfl⟩)
    go_ret3
    exact ⟨rfl, Below.refl _ _⟩
  · rw [h1] at HV
    rw [hE, if_neg (by decide), show (decide ((1 : Int) = 0) && dgC (valD x) digits.toNat) = false by rfl]
    clear hE h1 hT hT10
    by_cases hk : 0 ≤ mode ∧ mode ≤ 4
    · have hkb : knownB mode = true := by unfold knownB; rw [decide_eq_true_eq]; exact hk
      rw [hkb] at KN
      by_cases hp : digits < 1
      · clear h2 hk hkb
        go_enter Tryz.func49, Tryz.ntmps49
        go_wp2_with (first
          | (go_at_call 27; refine (HV.out _).mono ?_; rintro e w1 ⟨rfl, rfl⟩)
          | (go_at_call 28; refine (KN.out _).mono ?_; rintro e w1 ⟨rfl, rfl⟩))
        go_ret3
        exact ⟨rfl, Below.refl _ _⟩
      · have hp2 : 800 < digits := by
          rcases Int.lt_or_le 800 digits with h | h
          · exact h
          · exact absurd ⟨hk, by omega, h⟩ h2
        clear h2 hk hkb
        go_enter Tryz.func49, Tryz.ntmps49
        go_wp2_with (first
          | (go_at_call 27; refine (HV.out _).mono ?_; rintro e w1 ⟨rfl, rfl⟩)
          | (go_at_call 28; refine (KN.out _).mono ?_; rintro e w1 ⟨rfl, rfl⟩))
        go_ret3
        exact ⟨rfl, Below.refl _ _⟩
    · have hkb : knownB mode = false := by unfold knownB; rw [decide_eq_false_iff_not]; exact hk
      rw [hkb] at KN
      clear h2 hk hkb
      go_enter Tryz.func49, Tryz.ntmps49
      go_wp2_with (first
        | (go_at_call 27; refine (HV.out _).mono ?_; rintro e w1 ⟨rfl, rfl⟩)
        | (go_at_call 28; refine (KN.out _).mono ?_; rintro e w1 ⟨rfl, rfl⟩))
      go_ret3
      exact ⟨rfl, Below.refl _ _⟩
  · obtain ⟨⟨m0, m1⟩, g0, g1⟩ := h2
    have hkb : knownB mode = true := by unfold knownB; rw [decide_eq_true_eq]; exact ⟨m0, m1⟩
    rw [h1] at HV
    rw [hkb] at KN
    rw [hE, if_pos rfl, show (decide ((0 : Int) = 0) && dgC (valD x) digits.toNat) = dgC (valD x) digits.toNat by rfl]
    clear hE h1 hkb
    obtain ⟨g, rfl⟩ := Int.eq_ofNat_of_zero_le (show 0 ≤ digits by omega)
    rw [Int.toNat_natCast]
    have hmid := val_mid x0 x1
    have VL := Lib.hid (fun w' h => value_any x x0 x1 w' h)
    have DG := Lib.hid (fun v w' (h : DV w' v (valD x)) h2 => digits_any v (valD x) g mode w' h hmid (by omega) (by omega) m0 m1 h2)
    have SG := Lib.hid (fun w' => dcsign_any x x0 x1 w')
    have hlen := dgT_len hmid (g := g) (by omega) mode
    have PT := Lib.hid (fun X w' (hX : X = ((g - 1 : Nat) : Int)) => by have h := point_any (dgT (valD x) g mode) (g - 1) w' (by omega) (by omega); rw [← hX] at h; exact h)
    obtain ⟨bp0, bp1⟩ := dgP_bd hmid g mode
    have PW := Lib.hid (fun w' h => power_any (dgP (valD x) g mode) w' (by omega) (by omega) h)
    have hpw := pwS_le (dgP (valD x) g mode) (by omega)
    have hpl : (pt (dgT (valD x) g mode) (g - 1)).length ≤ 2000 := by
      rw [pt_one (by omega) hlen]; split
      · omega
      · simp; omega
    have hsl := sgS_len x
    unfold scT
    generalize dgT (valD x) g mode = ds at *
    generalize dgP (valD x) g mode = dp at *
    generalize dgC (valD x) g = dc at *
    generalize pt ds (g - 1) = ps at *
    generalize sgS x = ss at *
    generalize pwS dp = es at *
    obtain ⟨PS, hPS⟩ : ∃ PS : ByteArray, PS = ⟨ps.toArray⟩ := ⟨_, rfl⟩
    obtain ⟨SS, hSS⟩ : ∃ SS : ByteArray, SS = ⟨ss.toArray⟩ := ⟨_, rfl⟩
    obtain ⟨ES, hES⟩ : ∃ ES : ByteArray, ES = ⟨es.toArray⟩ := ⟨_, rfl⟩
    obtain ⟨DS, hDS⟩ : ∃ DS : ByteArray, DS = ⟨ds.toArray⟩ := ⟨_, rfl⟩
    have z1 : PS.size ≤ 2000 := by
      have : PS.size = ps.length := by rw [hPS]; rfl
      omega
    have z2 : SS.size ≤ 1 := by
      have : SS.size = ss.length := by rw [hSS]; rfl
      omega
    have z3 : ES.size ≤ 10 := by
      have : ES.size = es.length := by rw [hES]; rfl
      omega
    have hA : SS ++ PS ++ ⟨#[101]⟩ ++ ES = ⟨(ss ++ (ps ++ ([101] ++ es))).toArray⟩ := by
      rw [ba_app ss ps hSS hPS, ba_app (ss ++ ps) [101] rfl rfl, ba_app _ es rfl hES]
      simp
    unfold RetSIB at DG
    rw [← hPS, ← hDS] at PT
    rw [← hSS] at SG
    rw [← hES] at PW
    rw [← hDS] at DG
    have HA := Lib.hid hA
    unfold RetSBE
    rw [← HA.out]
    have H1 := Lib.hid hT
    have H2 := Lib.hid hT10
    have B0 : Hid (Below w.heap.size w w) := Lib.hid (Below.refl _ _)
    clear hT hT10 hPS hSS hES hDS hA hmid hlen hpw hpl hsl
    go_enter Tryz.func49, Tryz.ntmps49
    go_wp2_with (first
      | (go_at_call 27; refine (HV.out _).mono ?_; rintro e w1 ⟨rfl, rfl⟩)
      | (go_at_call 28; refine (KN.out _).mono ?_; rintro e w1 ⟨rfl, rfl⟩)
      | (go_at_call 79; refine (VL.out _ H1.out).mono ?_; rintro e w1 ⟨v1, rfl, hd1, hb1⟩; have D1 := Lib.hid hd1; have B1 := Lib.hid hb1; have T1 := Lib.hid (H2.out.below hb1); clear hd1 hb1)
      | (go_at_call 84; refine (DG.out _ _ D1.out T1.out).mono ?_; rintro e w2 ⟨rfl, hb2⟩; have B2 := Lib.hid (bl_thru B1.out (Nat.le_refl _) hb2); have T2 := Lib.hid (T1.out.below hb2); clear hb2)
      | (go_at_call 81; refine (SG.out _).mono ?_; rintro e w4 ⟨rfl, rfl⟩)
      | (go_at_call 82; refine (PT.out _ _ (by omega)).mono ?_; rintro e w6 ⟨rfl, hb6⟩; have B6 := Lib.hid (bl_thru B2.out (Nat.le_refl _) hb6); have T6 := Lib.hid (T2.out.below hb6); clear hb6)
      | (go_at_call 85; refine (PW.out _ T6.out).mono ?_; rintro e w7 ⟨rfl, hb7⟩; have B7 := Lib.hid (bl_thru B6.out (Nat.le_refl _) hb7); clear hb7))
    go_ret3
    exact ⟨rfl, B7.out⟩
end Go.Proofs.YtofdjfdnckmmmaaGreatDoor

/-
  THE WALKS of ulpkeep.lessText, decimalLives.
-/
namespace Go.Proofs.YtofdjfdnckmmmaaGreatDoor
open Go.RowKit Nt Fm Fl

def decG : Nat → Nat → List UInt8 → List UInt8
  | 0, u, acc => UInt8.ofNat (48 + u) :: acc
  | f + 1, u, acc => if u < 10 then UInt8.ofNat (48 + u) :: acc else decG f (u / 10) (UInt8.ofNat (48 + u % 10) :: acc)
theorem decG_eq : ∀ (f u : Nat) (acc : List UInt8), u < 10 ^ (f + 1) → decG f u acc = Lib.decDigits u ++ acc
  | 0, u, acc, h => by rw [dec_small (by simpa using h)]; rfl
  | f + 1, u, acc, h => by
    unfold decG
    split
    · rename_i hu; rw [dec_small hu]; rfl
    · rename_i hu
      rw [decG_eq f _ _ (by rw [Nat.div_lt_iff_lt_mul (by omega), ← Nat.pow_succ]; exact h), dec_big hu, List.append_assoc]; rfl
theorem bless_lt : ∀ (l m : List UInt8), Op.bytesLess l m = true ↔ l < m
  | [], [] => by simp [Op.bytesLess]
  | _ :: _, [] => by simp [Op.bytesLess]
  | [], _ :: _ => by simp [Op.bytesLess]
  | a :: l, b :: m => by
    rw [Op.bytesLess, List.cons_lt_cons_iff, Bool.or_eq_true, Bool.and_eq_true, decide_eq_true_eq, beq_iff_eq, bless_lt l m]
/-- is one text less than another one: by its length, then by its signs -/
def ltBb (s t : List UInt8) : Bool := decide (s.length < t.length) || (decide (s.length = t.length) && Op.bytesLess s t)
theorem ltBb_iff (s t : List UInt8) : ltBb s t = true ↔ ltB s t := by
  unfold ltBb ltB
  rw [Bool.or_eq_true, Bool.and_eq_true, decide_eq_true_eq, decide_eq_true_eq, bless_lt]
/-- 0.1, all of it -/
theorem lv_ex : exE 4591870180066957722 = 0 ∧ exS 4591870180066957722 = [48, 46, 49, 48, 48, 48, 48, 48, 48, 48, 48, 48, 48, 48, 48, 48, 48, 48, 48, 53, 53, 53, 49, 49, 49, 53, 49, 50, 51, 49, 50, 53, 55, 56, 50, 55, 48, 50, 49, 49, 56, 49, 53, 56, 51, 52, 48, 52, 53, 52, 49, 48, 49, 53, 54, 50, 53] := by
  have hv : hasV 4591870180066957722 = true := by kernel_rfl
  have hd : valD 4591870180066957722 = ⟨false, 3602879701896397, -55⟩ := by kernel_rfl
  have hq : qA ⟨false, 3602879701896397, -55⟩ = 1000000000000000055511151231257827021181583404541015625 := by kernel_rfl
  have hp : pl ⟨false, 3602879701896397, -55⟩ = 55 := by kernel_rfl
  have hs : sgS 4591870180066957722 = [] := by kernel_rfl
  have h := decG_eq 60 1000000000000000055511151231257827021181583404541015625 [] (by decide)
  rw [List.append_nil] at h
  refine ⟨by unfold exE; rw [if_pos hv], ?_⟩
  unfold exS
  rw [if_pos hv, hd, hq, hp, hs, ← h]
  kernel_rfl
theorem lv_fx : fxE 13836183955189006336 0 0 = 0 ∧ fxS 13836183955189006336 0 0 = [45, 50] ∧ fxC 13836183955189006336 0 0 = true := by
  have hv : fxE 13836183955189006336 0 0 = 0 := by kernel_rfl
  have hq : dQ (valD 13836183955189006336) 0 0 = 2 := by kernel_rfl
  refine ⟨hv, ?_, by kernel_rfl⟩
  unfold fxS
  rw [if_pos hv, hq, dec_small (by omega)]
  kernel_rfl
theorem lv_sc : scE 4681608360884174848 3 0 = 0 ∧ scS 4681608360884174848 3 0 = [49, 46, 48, 48, 101, 43, 48, 53] := by
  have hv : scE 4681608360884174848 3 0 = 0 := by kernel_rfl
  have hd : valD 4681608360884174848 = ⟨false, 3125, 5⟩ := by kernel_rfl
  have hl : lgD ⟨false, 3125, 5⟩ = 5 := lgD_eq (by unfold IsLg; decide)
  refine ⟨hv, ?_⟩
  unfold scS
  rw [if_pos hv]
  unfold scT dgT dgP dgQ
  rw [hd, hl]
  have hq : dQ ⟨false, 3125, 5⟩ (((Int.toNat 3 : Nat) : Int) - 1 - 5) 0 = 100 := by kernel_rfl
  rw [hq, if_neg (by decide), if_neg (by decide)]
  have h := decG_eq 5 100 [] (by decide)
  rw [List.append_nil] at h
  have h2 := dec_small (r := 5) (by omega)
  have h3 : decG 5 100 [] = [49, 48, 48] := by kernel_rfl
  have h4 : (if Int.toNat 3 < ([49, 48, 48] : List UInt8).length then (5 : Int) + 1 else 5) = 5 := by decide
  unfold dgS pwS
  rw [← h, h3, h4, show (5 : Int).natAbs = 5 from rfl, h2]
  first | rfl | decide
theorem lv_arg : (0 : Int) ≤ 4591870180066957722 ∧ (4591870180066957722 : Int) ≤ 18446744073709551615 ∧ (0 : Int) ≤ 13836183955189006336 ∧ (13836183955189006336 : Int) ≤ 18446744073709551615 ∧ (0 : Int) ≤ 4681608360884174848 ∧ (4681608360884174848 : Int) ≤ 18446744073709551615 := by omega
end Go.Proofs.YtofdjfdnckmmmaaGreatDoor
