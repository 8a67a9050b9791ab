/-
  THE WALK of hex.write.
-/
import Derived.Test.YtjmmgffdagcflaaGreatDoorHxp
import Derived.Test.YtjmmgffdagcflaaGreatDoorFx
import Derived.Test.YtjmmgffdagcflaaGreatDoorNy
set_option linter.unusedVariables false
set_option linter.unusedSimpArgs false
namespace Go.Proofs.YtjmmgffdagcflaaGreatDoor
open Go.RowKit Nt Fm Fl

theorem itoaI (p : Int) (w : World) (h0 : -100000 ≤ p) (h1 : p ≤ 100000) (hT : Tab10 w) :
    Calls Tryz.prog 120 #[.int .i64 p] w fun e w' => e = .returned (.string ⟨(Lib.itoa p).toArray⟩) ∧ Below w.heap.size w w' := by
  have h := Any.strconv_Itoa Tryz.laysItoa p (by omega) (by omega) w hT
  rw [fItoa] at h
  refine h.mono ?_
  rintro e w' ⟨rfl, k, os, rfl⟩
  exact ⟨rfl, below_grown w k os⟩
theorem itoa_len (p : Int) (h : p.natAbs < 100000) : (Lib.itoa p).length ≤ 6 := by
  have h1 := dec_len_le 5 p.natAbs (by omega) (by omega)
  unfold Lib.itoa
  split
  · rename_i hp
    simp only [List.length_cons]; omega
  · rename_i hp
    have : (Lib.decDigits p.natAbs).length ≤ 6 := by omega
    first | omega | (rw [show p.toNat = p.natAbs by omega]; omega)
theorem and15 (a : Nat) (h : a < 4294967296) : bits .and .u32 (a : Int) 15 = ((a % 16 : Nat) : Int) := by
  have h1 := bits_and_u32_nat a 15 h (by decide)
  rw [show ((15 : Nat) : Int) = 15 from rfl] at h1
  rw [h1, show (15 : Nat) = 2 ^ 4 - 1 by decide, Nat.and_two_pow_sub_one_eq_mod]
theorem enc_byte (b : UInt8) (hb : b.toNat < 128) : Utf8.encode (wrap32 ((b.toNat : Nat) : Int)) = ⟨#[b]⟩ := by
  have e : wrap32 ((b.toNat : Nat) : Int) = (b.toNat : Int) := by unfold wrap32; omega
  rw [e]
  have v : Utf8.valid (b.toNat : Int) = true := by simp [Utf8.valid]; omega
  simp [Utf8.encode, v, hb]
theorem hexd_at (n : Nat) (h : n < 16) : ∀ h : n < (⟨#[48, 49, 50, 51, 52, 53, 54, 55, 56, 57, 97, 98, 99, 100, 101, 102]⟩ : ByteArray).size, (⟨#[48, 49, 50, 51, 52, 53, 54, 55, 56, 57, 97, 98, 99, 100, 101, 102]⟩ : ByteArray)[n]'h = hexd n ∧ (hexd n).toNat < 128 := by
  have : n = 0 ∨ n = 1 ∨ n = 2 ∨ n = 3 ∨ n = 4 ∨ n = 5 ∨ n = 6 ∨ n = 7 ∨ n = 8 ∨ n = 9 ∨ n = 10 ∨ n = 11 ∨ n = 12 ∨ n = 13 ∨ n = 14 ∨ n = 15 := by omega
  rcases this with rfl | rfl | rfl | rfl | rfl | rfl | rfl | rfl | rfl | rfl | rfl | rfl | rfl | rfl | rfl | rfl
  · intro _; exact ⟨rfl, by decide⟩
  · intro _; exact ⟨rfl, by decide⟩
  · intro _; exact ⟨rfl, by decide⟩
  · intro _; exact ⟨rfl, by decide⟩
  · intro _; exact ⟨rfl, by decide⟩
  · intro _; exact ⟨rfl, by decide⟩
  · intro _; exact ⟨rfl, by decide⟩
  · intro _; exact ⟨rfl, by decide⟩
  · intro _; exact ⟨rfl, by decide⟩
  · intro _; exact ⟨rfl, by decide⟩
  · intro _; exact ⟨rfl, by decide⟩
  · intro _; exact ⟨rfl, by decide⟩
  · intro _; exact ⟨rfl, by decide⟩
  · intro _; exact ⟨rfl, by decide⟩
  · intro _; exact ⟨rfl, by decide⟩
  · intro _; exact ⟨rfl, by decide⟩
theorem hexd_ch (n : Nat) (hn : n < 16) : ∀ h : n < (⟨#[48, 49, 50, 51, 52, 53, 54, 55, 56, 57, 97, 98, 99, 100, 101, 102]⟩ : ByteArray).size, Utf8.encode (wrap32 (((⟨#[48, 49, 50, 51, 52, 53, 54, 55, 56, 57, 97, 98, 99, 100, 101, 102]⟩ : ByteArray)[n]'h).toNat : Int)) = ⟨#[hexd n]⟩ := by
  intro h
  obtain ⟨e1, e2⟩ := hexd_at n hn h
  rw [e1, enc_byte _ e2]
set_option maxRecDepth 100000 in
set_option maxHeartbeats 8000000 in
theorem write_nz (x : Int) (x0 : 0 ≤ x) (x1 : x ≤ 18446744073709551615) (v : Value) (d : D) (places : Nat) (w : World) (hd : DV w v d) (hm : d.m < 2 ^ 200) (e0 : -3000 ≤ d.e) (e1 : d.e ≤ 3000) (hp : places ≤ 100) (hbl : blen d.m ≤ 4 * places + 1) (hT10 : Tab10 w) (hz : d.m ≠ 0) :
    Calls Tryz.prog 93 #[.int .u64 x, v, .int .i64 (places : Int)] w fun e w' => e = .returned (.string ⟨(hxW x d places).toArray⟩) ∧ Below w.heap.size w w' := by
  obtain ⟨s, rfl, hs⟩ := hd
  obtain ⟨sa, sn, sc, rfl, hl1, hl2, hz'⟩ := nv_len hs
  unfold hxW
  rw [if_neg hz]
  have hn : 1 ≤ sn := by
    rcases hz' with ⟨h, -⟩ | ⟨-, h⟩
    · exact absurd h hz
    · exact h
  have hnz : ((sn : Int) == 0) = false := by rw [beq_eq_false_iff_ne]; omega
  have LN := Lib.hid (fun w' (h : NV w' (.slice sa sn sc) d.m) => natLen_any _ d.m 200 w' h hm (by omega))
  obtain ⟨L, hL⟩ : ∃ L, L = blen d.m := ⟨_, rfl⟩
  have hL1 : 1 ≤ L := by rw [hL]; unfold blen; rw [if_neg hz]; omega
  have hL2 : L ≤ 200 := by rw [hL]; exact blen_le_of hm
  obtain ⟨sh, hsh⟩ : ∃ sh, sh = 4 * places - (blen d.m - 1) := ⟨_, rfl⟩
  have LF := Lib.hid (fun X w' (h : NV w' (.slice sa sn sc) d.m) (hX : X = (sh : Int)) => left_any _ d.m sh 200 X w' h hX hm (by omega) (by omega))
  obtain ⟨M, hM⟩ : ∃ M, M = d.m * 2 ^ sh := ⟨_, rfl⟩
  rw [← hsh, ← hM]
  rw [← hM] at LF
  rw [← hL] at LN
  have hpp : hxp d = (L : Int) + d.e - 1 := by unfold hxp; rw [hL]
  obtain ⟨p, hpq⟩ : ∃ p, p = hxp d := ⟨_, rfl⟩
  rw [← hpq] at hpp
  rw [← hpq]
  have IT := Lib.hid (fun w' h => itoaI p w' (by omega) (by omega) h)
  have hil := itoa_len p (by omega)
  have hsh2 : (sh : Int) = d.e - p + 4 * (places : Int) := by omega
  have hMlt : M ≠ 0 := by rw [hM]; exact Nat.ne_of_gt (Nat.mul_pos (Nat.pos_of_ne_zero hz) (Nat.two_pow_pos _))
  have HS := Lib.hid hs
  have XC : Hid (Box (w.alloc (.cells #[.bool d.neg, .slice sa sn sc, .int .i64 d.e] 40)) w.heap.size 40 (.bool d.neg) (.slice sa sn sc) (.int .i64 d.e)) := Lib.hid (Box.new w (.bool d.neg) (.slice sa sn sc) (.int .i64 d.e) 40)
  have B0 : Hid (Below w.heap.size w (w.alloc (.cells #[.bool d.neg, .slice sa sn sc, .int .i64 d.e] 40))) := Lib.hid ((Below.refl _ _).alloc (Nat.le_refl _) _)
  have H0 := Lib.hid (HS.out.alloc (.cells #[.bool d.neg, .slice sa sn sc, .int .i64 d.e] 40))
  have T0 := Lib.hid (hT10.below ((Below.refl _ _).alloc (Nat.le_refl _) (.cells #[.bool d.neg, .slice sa sn sc, .int .i64 d.e] 40)))
  have hp2 : d.e - p + 4 * (places : Int) = (sh : Int) := by omega
  have hwL : IntKind.i64.wrap ((L : Int) + d.e) = (L : Int) + d.e := IntWalk.i64_in _ (by omega)
  have hwp : IntKind.i64.wrap ((L : Int) + d.e - 1) = p := by rw [IntWalk.i64_in _ (by omega)]; omega
  obtain ⟨IS, hIS⟩ : ∃ IS : ByteArray, IS = ⟨(Lib.itoa p).toArray⟩ := ⟨_, rfl⟩
  rw [← hIS] at IT
  have zI : IS.size ≤ 6 := by
    have : IS.size = (Lib.itoa p).length := by rw [hIS]; rfl
    omega
  have HIS := Lib.hid hIS
  have hpb : -4000 ≤ p ∧ p ≤ 4000 := by omega
  obtain ⟨RS, hRS⟩ : ∃ RS : ByteArray, RS = ⟨(hxP x ++ ([49] ++ (if 0 < places then [46] else []) ++ hxD M places ++ hxE p)).toArray⟩ := ⟨_, rfl⟩
  rw [← hRS]
  have hsg : (9223372036854775808 ≤ x ∧ (x / 9223372036854775808 == 1) = true ∧ Hid (hxP x = [45, 48, 120])) ∨ (¬ 9223372036854775808 ≤ x ∧ (x / 9223372036854775808 == 1) = false ∧ Hid (hxP x = [48, 120])) := by
    by_cases h : 9223372036854775808 ≤ x
    · exact Or.inl ⟨h, by rw [beq_iff_eq]; omega, Lib.hid (by unfold hxP; rw [if_pos h])⟩
    · exact Or.inr ⟨h, by rw [beq_eq_false_iff_ne]; omega, Lib.hid (by unfold hxP; rw [if_neg h])⟩
  have HR := Lib.hid hRS
  clear hRS hL hsh hM hpq hpp hsh2 hbl hm hs hT10 hz hil hIS hz'
  by_cases hp0 : 0 < places
  · have hp0i : (0 : Int) < (places : Int) := by omega
    have HP0 := Lib.hid hp0
    rcases hsg with ⟨hs0, hh, HPX⟩ | ⟨hs0, hh, HPX⟩
    all_goals
      go_enter Tryz.func93, Tryz.ntmps93
      go_wp2_with fail
      obtain ⟨V, hV⟩ : ∃ V, V = w.alloc (.cells #[.bool d.neg, .slice sa sn sc, .int .i64 d.e] 40) := ⟨_, rfl⟩
      rw [← hV] at XC B0 H0 T0
      rw [← hV]
      clear hV
      replace XC := Lib.hid XC.out.drew
      replace B0 := Lib.hid B0.out.drew
      replace H0 := Lib.hid H0.out.drew
      replace T0 : Hid (Tab10 V.drew) := Lib.hid (T0.out.below (Below.refl _ _).drew)
      obtain ⟨p0, p1, p2, -, -, -⟩ := XC.out.cells
      go_region_held3 (fun w' => w'.cell? ⟨w.heap.size, 1, none⟩ = some (.slice sa sn sc) ∧ w'.cell? ⟨w.heap.size, 2, none⟩ = some (.int .i64 d.e))
        (first
          | exact ⟨p1, p2⟩
          | (go_keep; done))
        (first
          | (go_at_call 90; refine (LN.out _ H0.out).mono ?_; rintro e w' ⟨rfl, rfl⟩))
      try simp only [hwL, hwp]
      clear hwp hwL
      go_wp2_with fail
      try rw [hp2]
      refine (LF.out _ _ H0.out (by omega)).mono ?_
      rintro r w2 ⟨v2, rfl, hv, hb⟩
      have B2 := Lib.hid (bl_thru B0.out (Nat.le_refl _) hb)
      have T2 := Lib.hid (T0.out.below hb)
      obtain ⟨l, k1, k2, ⟨k3, ao, cap, rfl, k5, k6, k7⟩⟩ := hv
      have hl0 : 0 < l.length := by
        rcases Nat.eq_zero_or_pos l.length with h | h
        · rw [List.length_eq_zero_iff.1 h] at k2; exact absurd k2.symm hMlt
        · exact h
      obtain ⟨bm, om, rfl, kb, kc⟩ : ∃ b off, ao = some ⟨b, off, none⟩ ∧ b < w2.heap.size ∧ ∀ i, i < l.length → w2.cell? ⟨b, off + i, none⟩ = some (.int .u32 ((l.getD i 0 : Nat) : Int)) := by
        rcases k7 with h | ⟨b, off, h1, h2, h3⟩
        · omega
        · exact ⟨b, off, h1, h2, h3⟩
      have NIB : Hid (∀ k, M / 16 ^ k % 16 = (l.getD (k / 8) 0) / 2 ^ (4 * (k % 8)) % 16) := Lib.hid (fun k => by rw [← k2]; exact limb_nibble k3 k)
      have HKC := Lib.hid kc
      have HK3 := Lib.hid k3
      unfold maxLen at k6
      clear hb p0 p1 p2 k2 kc k3 k1 k7 hMlt XC H0 B0 T0
      go_wp2_with fail
      go_loopw [7, 10] (fun ov iv wr => wr = w2 ∧ ∃ (k : Nat) (iz : Int) (O : ByteArray), k ≤ places ∧ iz ≤ (k : Int) - 1 ∧ (k : Int) - 1 ≤ iz ∧ iv = .int .i64 iz ∧ ov = .string O ∧ O.size + k ≤ 5 + places ∧ Hid (∃ o : List UInt8, O = ⟨o.toArray⟩ ∧ o ++ hxD M k = hxP x ++ [49, 46] ++ hxD M places)) (fun _ iv _ => (intOf iv + 1).toNat)
      case atStart => exact ⟨rfl, places, (places : Int) - 1, _, Nat.le_refl _, by omega, by omega, rfl, rfl, by first | (show 5 + _ ≤ _; omega) | (show 4 + _ ≤ _; omega) | (show 3 + _ ≤ _; omega), Lib.hid ⟨hxP x ++ [49, 46], by rw [HPX.out]; rfl, rfl⟩⟩
      case round =>
        obtain ⟨rfl, k, iz, O, hk, hi1, hi2, rfl, rfl, hO, HO⟩ := hrel
        by_cases hk0 : k = 0
        · obtain rfl : iz = -1 := by omega
          subst hk0
          clear hi1 hi2 hk
          have HF : Hid (∀ es : List UInt8, RS = ⟨(hxP x ++ ([49, 46] ++ hxD M places ++ hxE p)).toArray⟩ ∧ O ++ ⟨es.toArray⟩ = ⟨(hxP x ++ [49, 46] ++ hxD M places ++ es).toArray⟩) := Lib.hid (fun es => by
            obtain ⟨o, a1, a2⟩ := HO.out
            simp only [hxD, List.append_nil] at a2
            refine ⟨by rw [HR.out, if_pos HP0.out]; rfl, ?_⟩
            rw [a1, a2, ByteArray.mk_append_mk]
            try simp [hxD])
          by_cases hpp : 0 ≤ p
          · have HPP : Hid (hxE p = [112, 43] ++ Lib.itoa p) := Lib.hid (by unfold hxE; rw [if_pos hpp])
            go_wp2_with (go_at_call 120; refine (IT.out _ T2.out).mono ?_; rintro e w3 ⟨rfl, hb3⟩; have B3 := Lib.hid (bl_thru B2.out (Nat.le_refl _) hb3); clear hb3)
            go_ret
            refine ⟨?_, B3.out⟩
            refine congrArg (fun z => Ending.returned (Value.string z)) ?_
            rw [(HF.out []).1, (HF.out [112, 43]).2, HIS.out, HPP.out, ByteArray.mk_append_mk]
            simp
          · have HPP : Hid (hxE p = [112] ++ Lib.itoa p) := Lib.hid (by unfold hxE; rw [if_neg hpp])
            go_wp2_with (go_at_call 120; refine (IT.out _ T2.out).mono ?_; rintro e w3 ⟨rfl, hb3⟩; have B3 := Lib.hid (bl_thru B2.out (Nat.le_refl _) hb3); clear hb3)
            go_ret
            refine ⟨?_, B3.out⟩
            refine congrArg (fun z => Ending.returned (Value.string z)) ?_
            rw [(HF.out []).1, (HF.out [112]).2, HIS.out, HPP.out, ByteArray.mk_append_mk]
            simp
        · obtain ⟨j, rfl⟩ : ∃ j, k = j + 1 := ⟨k - 1, by omega⟩
          obtain rfl : iz = (j : Int) := by omega
          have hnib := NIB.out j
          by_cases hlt : j / 8 < l.length
          · have hc := HKC.out (j / 8) hlt
            have hlti : (j : Int) / 8 < (l.length : Int) := by omega
            obtain ⟨X, hX⟩ : ∃ X, X = l.getD (j / 8) 0 := ⟨_, rfl⟩
            have hX1 : X < 4294967296 := by rw [hX]; exact HK3.out.getD (j / 8)
            rw [← hX] at hc hnib
            obtain ⟨nb, hnb⟩ : ∃ nb, nb = X / 2 ^ (4 * (j % 8)) % 16 := ⟨_, rfl⟩
            rw [← hnb] at hnib
            have hnb16 : nb < 16 := by rw [hnb]; exact Nat.mod_lt _ (by omega)
            have e1 : bits BinOp.and IntKind.u32 ((X : Int) / 2 ^ (4 * (j % 8))) 15 = (nb : Int) := by
              have h1 := and15 (X / 2 ^ (4 * (j % 8))) (Nat.lt_of_le_of_lt (Nat.div_le_self _ _) hX1)
              rw [hnb, ← h1]
              congr 1
            have hch := hexd_ch nb hnb16
            obtain ⟨C, hC⟩ : ∃ C : ByteArray, C = ⟨#[hexd nb]⟩ := ⟨_, rfl⟩
            rw [← hC] at hch
            have hCz : C.size = 1 := by rw [hC]; rfl
            have HC := Lib.hid hC
            have HNIB := Lib.hid hnib
            clear hX hnb hC hnib
            go_wp2
            go_roundw
            case rel => exact ⟨by first | rfl | trivial, j, (j : Int) - 1, O ++ C, by omega, by omega, by omega, by go_num, rfl, by rw [ByteArray.size_append]; omega, Lib.hid (by
              obtain ⟨o, a1, a2⟩ := HO.out
              refine ⟨o ++ [hexd nb], by rw [a1, HC.out, ByteArray.mk_append_mk], ?_⟩
              rw [← a2, hxD, HNIB.out]; simp)⟩
            case measure => simp [intOf] <;> omega
          · have hlti : ¬ (j : Int) / 8 < (l.length : Int) := by omega
            have hg0 : l.getD (j / 8) 0 = 0 := by
              simp [List.getD, List.getElem?_eq_none (Nat.le_of_not_lt hlt)]
            rw [hg0, Nat.zero_div, Nat.zero_mod] at hnib
            have hch := hexd_ch 0 (by omega)
            obtain ⟨C, hC⟩ : ∃ C : ByteArray, C = ⟨#[hexd 0]⟩ := ⟨_, rfl⟩
            rw [← hC] at hch
            have hch0 : Utf8.encode (wrap32 48) = C := by rw [hC]; exact enc_byte 48 (by decide)
            have hch1 : Utf8.encode 48 = C := by rw [← hch0, show wrap32 48 = 48 by unfold wrap32; omega]
            have e1 : bits BinOp.and IntKind.u32 0 15 = 0 := by decide
            have hCz : C.size = 1 := by rw [hC]; rfl
            have HC := Lib.hid hC
            have HNIB := Lib.hid hnib
            clear hC hnib hg0
            go_wp2
            go_roundw
            case rel => exact ⟨by first | rfl | trivial, j, (j : Int) - 1, O ++ C, by omega, by omega, by omega, by go_num, rfl, by rw [ByteArray.size_append]; omega, Lib.hid (by
              obtain ⟨o, a1, a2⟩ := HO.out
              refine ⟨o ++ [hexd 0], by rw [a1, HC.out, ByteArray.mk_append_mk], ?_⟩
              rw [← a2, hxD, HNIB.out]; simp)⟩
            case measure => simp [intOf] <;> omega
  · obtain rfl : places = 0 := by omega
    have HP0 := Lib.hid hp0
    have hzz : ((0 : Nat) : Int) = 0 := rfl
    rw [hzz] at hp2
    rw [hzz]
    clear hp0 hzz
    rcases hsg with ⟨hs0, hh, HPX⟩ | ⟨hs0, hh, HPX⟩
    all_goals
      go_enter Tryz.func93, Tryz.ntmps93
      go_wp2_with fail
      obtain ⟨V, hV⟩ : ∃ V, V = w.alloc (.cells #[.bool d.neg, .slice sa sn sc, .int .i64 d.e] 40) := ⟨_, rfl⟩
      rw [← hV] at XC B0 H0 T0
      rw [← hV]
      clear hV
      replace XC := Lib.hid XC.out.drew
      replace B0 := Lib.hid B0.out.drew
      replace H0 := Lib.hid H0.out.drew
      replace T0 : Hid (Tab10 V.drew) := Lib.hid (T0.out.below (Below.refl _ _).drew)
      obtain ⟨p0, p1, p2, -, -, -⟩ := XC.out.cells
      go_region_held3 (fun w' => w'.cell? ⟨w.heap.size, 1, none⟩ = some (.slice sa sn sc) ∧ w'.cell? ⟨w.heap.size, 2, none⟩ = some (.int .i64 d.e))
        (first
          | exact ⟨p1, p2⟩
          | (go_keep; done))
        (first
          | (go_at_call 90; refine (LN.out _ H0.out).mono ?_; rintro e w' ⟨rfl, rfl⟩))
      try simp only [hwL, hwp]
      clear hwp hwL
      go_wp2_with fail
      try rw [hp2]
      refine (LF.out _ _ H0.out (by omega)).mono ?_
      rintro r w2 ⟨v2, rfl, hv, hb⟩
      have B2 := Lib.hid (bl_thru B0.out (Nat.le_refl _) hb)
      have T2 := Lib.hid (T0.out.below hb)
      obtain ⟨l, k1, k2, ⟨k3, ao, cap, rfl, k5, k6, k7⟩⟩ := hv
      have hl0 : 0 < l.length := by
        rcases Nat.eq_zero_or_pos l.length with h | h
        · rw [List.length_eq_zero_iff.1 h] at k2; exact absurd k2.symm hMlt
        · exact h
      obtain ⟨bm, om, rfl, kb, kc⟩ : ∃ b off, ao = some ⟨b, off, none⟩ ∧ b < w2.heap.size ∧ ∀ i, i < l.length → w2.cell? ⟨b, off + i, none⟩ = some (.int .u32 ((l.getD i 0 : Nat) : Int)) := by
        rcases k7 with h | ⟨b, off, h1, h2, h3⟩
        · omega
        · exact ⟨b, off, h1, h2, h3⟩
      have NIB : Hid (∀ k, M / 16 ^ k % 16 = (l.getD (k / 8) 0) / 2 ^ (4 * (k % 8)) % 16) := Lib.hid (fun k => by rw [← k2]; exact limb_nibble k3 k)
      have HKC := Lib.hid kc
      have HK3 := Lib.hid k3
      unfold maxLen at k6
      clear hb p0 p1 p2 k2 kc k3 k1 k7 hMlt XC H0 B0 T0
      go_wp2_with fail
      go_loopw [7, 10] (fun ov iv wr => wr = w2 ∧ ∃ (k : Nat) (iz : Int) (O : ByteArray), k ≤ 0 ∧ iz ≤ (k : Int) - 1 ∧ (k : Int) - 1 ≤ iz ∧ iv = .int .i64 iz ∧ ov = .string O ∧ O.size + k ≤ 5 + 0 ∧ Hid (∃ o : List UInt8, O = ⟨o.toArray⟩ ∧ o ++ hxD M k = hxP x ++ [49] ++ hxD M 0)) (fun _ iv _ => (intOf iv + 1).toNat)
      case atStart => exact ⟨rfl, 0, -1, _, Nat.le_refl _, by omega, by omega, rfl, rfl, by first | (show 5 + _ ≤ _; omega) | (show 4 + _ ≤ _; omega) | (show 3 + _ ≤ _; omega), Lib.hid ⟨hxP x ++ [49], by rw [HPX.out]; rfl, rfl⟩⟩
      case round =>
        obtain ⟨rfl, k, iz, O, hk, hi1, hi2, rfl, rfl, hO, HO⟩ := hrel
        obtain rfl : k = 0 := by omega
        obtain rfl : iz = -1 := by omega
        clear hi1 hi2 hk
        have HF : Hid (∀ es : List UInt8, RS = ⟨(hxP x ++ ([49] ++ hxD M 0 ++ hxE p)).toArray⟩ ∧ O ++ ⟨es.toArray⟩ = ⟨(hxP x ++ [49] ++ hxD M 0 ++ es).toArray⟩) := Lib.hid (fun es => by
          obtain ⟨o, a1, a2⟩ := HO.out
          simp only [hxD, List.append_nil] at a2
          refine ⟨by rw [HR.out, if_neg HP0.out]; rfl, ?_⟩
          rw [a1, a2, ByteArray.mk_append_mk]
          try simp [hxD])
        by_cases hpp : 0 ≤ p
        · have HPP : Hid (hxE p = [112, 43] ++ Lib.itoa p) := Lib.hid (by unfold hxE; rw [if_pos hpp])
          go_wp2_with (go_at_call 120; refine (IT.out _ T2.out).mono ?_; rintro e w3 ⟨rfl, hb3⟩; have B3 := Lib.hid (bl_thru B2.out (Nat.le_refl _) hb3); clear hb3)
          go_ret
          refine ⟨?_, B3.out⟩
          refine congrArg (fun z => Ending.returned (Value.string z)) ?_
          rw [(HF.out []).1, (HF.out [112, 43]).2, HIS.out, HPP.out, ByteArray.mk_append_mk]
          simp
        · have HPP : Hid (hxE p = [112] ++ Lib.itoa p) := Lib.hid (by unfold hxE; rw [if_neg hpp])
          go_wp2_with (go_at_call 120; refine (IT.out _ T2.out).mono ?_; rintro e w3 ⟨rfl, hb3⟩; have B3 := Lib.hid (bl_thru B2.out (Nat.le_refl _) hb3); clear hb3)
          go_ret
          refine ⟨?_, B3.out⟩
          refine congrArg (fun z => Ending.returned (Value.string z)) ?_
          rw [(HF.out []).1, (HF.out [112]).2, HIS.out, HPP.out, ByteArray.mk_append_mk]
          simp
set_option maxHeartbeats 8000000 in
theorem write_any (x : Int) (x0 : 0 ≤ x) (x1 : x ≤ 18446744073709551615) (v : Value) (d : D) (places : Nat) (w : World) (hd : DV w v d) (hm : d.m < 2 ^ 200) (e0 : -3000 ≤ d.e) (e1 : d.e ≤ 3000) (hp : places ≤ 100) (hbl : blen d.m ≤ 4 * places + 1) (hT10 : Tab10 w) :
    Calls Tryz.prog 93 #[.int .u64 x, v, .int .i64 (places : Int)] w fun e w' => e = .returned (.string ⟨(hxW x d places).toArray⟩) ∧ Below w.heap.size w w' := by
  by_cases hz0 : d.m = 0
  · obtain ⟨s, rfl, hs⟩ := hd
    obtain ⟨sa, sn, sc, rfl, hl1, hl2, hz'⟩ := nv_len hs
    obtain rfl : sn = 0 := by
      rcases hz' with ⟨-, h⟩ | ⟨h, -⟩
      · exact h
      · exact absurd hz0 h
    unfold hxW
    rw [if_pos hz0]
    obtain ⟨RS, hRS⟩ : ∃ RS : ByteArray, RS = ⟨(hxP x ++ ([48] ++ (if 0 < places then [46] ++ List.replicate places 48 else []) ++ [112, 43, 48])).toArray⟩ := ⟨_, rfl⟩
    rw [← hRS]
    have hsg : (9223372036854775808 ≤ x ∧ (x / 9223372036854775808 == 1) = true ∧ Hid (hxP x = [45, 48, 120])) ∨ (¬ 9223372036854775808 ≤ x ∧ (x / 9223372036854775808 == 1) = false ∧ Hid (hxP x = [48, 120])) := by
      by_cases h : 9223372036854775808 ≤ x
      · exact Or.inl ⟨h, by rw [beq_iff_eq]; omega, Lib.hid (by unfold hxP; rw [if_pos h])⟩
      · exact Or.inr ⟨h, by rw [beq_eq_false_iff_ne]; omega, Lib.hid (by unfold hxP; rw [if_neg h])⟩
    have HR := Lib.hid hRS
    have RP := Lib.hid (fun X w' (h : X = ((places : Nat) : Int)) => rep_any places X h (by omega) w')
    obtain ⟨Z, hZ⟩ : ∃ Z : ByteArray, Z = ⟨(List.replicate places (48 : UInt8)).toArray⟩ := ⟨_, rfl⟩
    rw [← hZ] at RP
    have zZ : Z.size ≤ 100 := by
      have : Z.size = places := by rw [hZ]; simp [ByteArray.size]
      omega
    have HZ := Lib.hid hZ
    have B0 : Hid (Below w.heap.size w (w.alloc (.cells #[.bool d.neg, .slice sa 0 sc, .int .i64 d.e] 40))) := Lib.hid ((Below.refl _ _).alloc (Nat.le_refl _) _)
    clear hRS hm hs hz' hbl hT10 hZ hz0
    by_cases hp0 : 0 < places
    · have hp0i : (0 : Int) < (places : Int) := by omega
      have HP0 := Lib.hid hp0
      clear hp0
      rcases hsg with ⟨hs0, hh, HPX⟩ | ⟨hs0, hh, HPX⟩
      all_goals
        go_enter Tryz.func93, Tryz.ntmps93
        go_wp2_with (go_at_call 28; refine (RP.out _ _ rfl).mono ?_; rintro e w3 ⟨rfl, hb3⟩; have B3 := Lib.hid (bl_thru B0.out (Nat.le_refl _) hb3); clear hb3)
        go_ret
        refine ⟨congrArg (fun z => Ending.returned (Value.string z)) ?_, B3.out⟩
        rw [HR.out, if_pos HP0.out, HPX.out, HZ.out]
        apply ByteArray.ext
        simp [ByteArray.data_append]
    · have hp0i : ¬ (0 : Int) < (places : Int) := by omega
      have HP0 := Lib.hid hp0
      clear hp0
      rcases hsg with ⟨hs0, hh, HPX⟩ | ⟨hs0, hh, HPX⟩
      all_goals
        go_enter Tryz.func93, Tryz.ntmps93
        go_wp2
        go_ret
        refine ⟨congrArg (fun z => Ending.returned (Value.string z)) ?_, B0.out⟩
        rw [HR.out, if_neg HP0.out, HPX.out]
        rfl
  · exact write_nz x x0 x1 v d places w hd hm e0 e1 hp hbl hT10 hz0
end Go.Proofs.YtjmmgffdagcflaaGreatDoor
