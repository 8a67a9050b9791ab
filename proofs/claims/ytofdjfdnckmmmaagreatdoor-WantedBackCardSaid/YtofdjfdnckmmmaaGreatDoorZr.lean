/-
  THE WALK of nat.Read: digits in tens, nine at a time.
-/
import Derived.Test.YtofdjfdnckmmmaaGreatDoorHr
import Derived.Test.YtofdjfdnckmmmaaGreatDoorHg
import Derived.Test.YtofdjfdnckmmmaaGreatDoorPsc
import Derived.Ground.MpProg
import Derived.Shelf.Pu.ParseUintPublic10
set_option linter.unusedVariables false
set_option linter.unusedSimpArgs false
namespace Go.Proofs.YtofdjfdnckmmmaaGreatDoor
open Go.Shelf Go.RowKit Nt Fm Fl

def Tryz.laysPu10_ren : Go.Shelf.Ren := ⟨fun | 14 => 106 | 16 => 140 | 17 => 133 | 19 => 185 | 20 => 186 | 21 => 178 | 22 => 179 | 23 => 180 | 24 => 181 | 25 => 219 | 27 => 73 | 26 => 220 | 28 => 112 | 29 => 144 | 30 => 187 | 31 => 188 | 32 => 189 | 33 => 190 | 35 => 223 | 34 => 222 | 36 => 224 | 37 => 225 | 38 => 226 | 39 => 105 | 40 => 240 | n => n, fun | 9 => 9 | 3 => 3 | 22 => 24 | 24 => 42 | 25 => 145 | 4 => 4 | 34 => 189 | 5 => 5 | 36 => 89 | 37 => 37 | 0 => 0 | 39 => 192 | 21 => 21 | 44 => 231 | 47 => 79 | 50 => 251 | 48 => 249 | 2 => 2 | 52 => 202 | 55 => 204 | 59 => 234 | 60 => 102 | 20 => 20 | 61 => 235 | 65 => 177 | 66 => 257 | 67 => 48 | n => n, fun | 0 => 4 | 1 => 5 | 2 => 6 | 3 => 1 | 4 => 7 | n => n⟩
theorem Tryz.laysPu10 : Go.Proofs.LaysPu.n14 Tryz.prog Tryz.laysPu10_ren := {
  mixed := by kernel_rfl
  f14 := Tryz.func106.trans (congrArg some (by kernel_rfl))
  f16 := Tryz.func140.trans (congrArg some (by kernel_rfl))
  f17 := Tryz.func133.trans (congrArg some (by kernel_rfl))
  f19 := Tryz.func185.trans (congrArg some (by kernel_rfl))
  f20 := Tryz.func186.trans (congrArg some (by kernel_rfl))
  f21 := Tryz.func178.trans (congrArg some (by kernel_rfl))
  f22 := Tryz.func179.trans (congrArg some (by kernel_rfl))
  f23 := Tryz.func180.trans (congrArg some (by kernel_rfl))
  f24 := Tryz.func181.trans (congrArg some (by kernel_rfl))
  f25 := Tryz.func219.trans (congrArg some (by kernel_rfl))
  f26 := Tryz.func220.trans (congrArg some (by kernel_rfl))
  f27 := Tryz.func73.trans (congrArg some (by kernel_rfl))
  f28 := Tryz.func112.trans (congrArg some (by kernel_rfl))
  f29 := Tryz.func144.trans (congrArg some (by kernel_rfl))
  f30 := Tryz.func187.trans (congrArg some (by kernel_rfl))
  f31 := Tryz.func188.trans (congrArg some (by kernel_rfl))
  f32 := Tryz.func189.trans (congrArg some (by kernel_rfl))
  f33 := Tryz.func190.trans (congrArg some (by kernel_rfl))
  f34 := Tryz.func222.trans (congrArg some (by kernel_rfl))
  f35 := Tryz.func223.trans (congrArg some (by kernel_rfl))
  f36 := Tryz.func224.trans (congrArg some (by kernel_rfl))
  f37 := Tryz.func225.trans (congrArg some (by kernel_rfl))
  f38 := Tryz.func226.trans (congrArg some (by kernel_rfl))
  f39 := Tryz.func105.trans (congrArg some (by kernel_rfl))
  f40 := Tryz.func240.trans (congrArg some (by kernel_rfl))
  t0 := Tryz.underlying0
  a0 := Tryz.isAgg0
  z0 := Tryz.sizeOf0
  v0 := Tryz.zeroValue0
  i0 := by kernel_rfl
  t2 := Tryz.underlying2
  a2 := Tryz.isAgg2
  z2 := Tryz.sizeOf2
  v2 := Tryz.zeroValue2
  i2 := by kernel_rfl
  t3 := Tryz.underlying3
  a3 := Tryz.isAgg3
  z3 := Tryz.sizeOf3
  v3 := Tryz.zeroValue3
  i3 := by kernel_rfl
  t4 := Tryz.underlying4
  a4 := Tryz.isAgg4
  z4 := Tryz.sizeOf4
  v4 := Tryz.zeroValue4
  i4 := by kernel_rfl
  t5 := Tryz.underlying5
  a5 := Tryz.isAgg5
  z5 := Tryz.sizeOf5
  v5 := Tryz.zeroValue5
  i5 := by kernel_rfl
  t9 := Tryz.underlying9
  a9 := Tryz.isAgg9
  z9 := Tryz.sizeOf9
  v9 := Tryz.zeroValue9
  i9 := by kernel_rfl
  t20 := Tryz.underlying20
  a20 := Tryz.isAgg20
  z20 := Tryz.sizeOf20
  v20 := Tryz.zeroValue20
  i20 := by kernel_rfl
  t21 := Tryz.underlying21
  a21 := Tryz.isAgg21
  z21 := Tryz.sizeOf21
  v21 := Tryz.zeroValue21
  i21 := by kernel_rfl
  t22 := Tryz.underlying24
  a22 := Tryz.isAgg24
  z22 := Tryz.sizeOf24
  v22 := Tryz.zeroValue24
  i22 := by kernel_rfl
  t24 := Tryz.underlying42
  a24 := Tryz.isAgg42
  z24 := Tryz.sizeOf42
  v24 := Tryz.zeroValue42
  i24 := by kernel_rfl
  t25 := Tryz.underlying145
  a25 := Tryz.isAgg145
  z25 := Tryz.sizeOf145
  v25 := Tryz.zeroValue145
  i25 := by kernel_rfl
  t34 := Tryz.underlying189
  a34 := Tryz.isAgg189
  z34 := Tryz.sizeOf189
  v34 := Tryz.zeroValue189
  i34 := by kernel_rfl
  c34 := by kernel_rfl
  t36 := Tryz.underlying89
  a36 := Tryz.isAgg89
  z36 := Tryz.sizeOf89
  v36 := Tryz.zeroValue89
  i36 := by kernel_rfl
  t37 := Tryz.underlying37
  a37 := Tryz.isAgg37
  z37 := Tryz.sizeOf37
  v37 := Tryz.zeroValue37
  i37 := by kernel_rfl
  t39 := Tryz.underlying192
  a39 := Tryz.isAgg192
  z39 := Tryz.sizeOf192
  v39 := Tryz.zeroValue192
  i39 := by kernel_rfl
  t44 := Tryz.underlying231
  a44 := Tryz.isAgg231
  z44 := Tryz.sizeOf231
  v44 := Tryz.zeroValue231
  i44 := by kernel_rfl
  t47 := Tryz.underlying79
  a47 := Tryz.isAgg79
  z47 := Tryz.sizeOf79
  v47 := Tryz.zeroValue79
  i47 := by kernel_rfl
  t48 := Tryz.underlying249
  a48 := Tryz.isAgg249
  z48 := Tryz.sizeOf249
  v48 := Tryz.zeroValue249
  i48 := by kernel_rfl
  t50 := Tryz.underlying251
  a50 := Tryz.isAgg251
  z50 := Tryz.sizeOf251
  v50 := Tryz.zeroValue251
  i50 := by kernel_rfl
  t52 := Tryz.underlying202
  a52 := Tryz.isAgg202
  z52 := Tryz.sizeOf202
  v52 := Tryz.zeroValue202
  i52 := by kernel_rfl
  t55 := Tryz.underlying204
  a55 := Tryz.isAgg204
  z55 := Tryz.sizeOf204
  v55 := Tryz.zeroValue204
  i55 := by kernel_rfl
  t59 := Tryz.underlying234
  a59 := Tryz.isAgg234
  z59 := Tryz.sizeOf234
  v59 := Tryz.zeroValue234
  i59 := by kernel_rfl
  t60 := Tryz.underlying102
  a60 := Tryz.isAgg102
  z60 := Tryz.sizeOf102
  v60 := Tryz.zeroValue102
  i60 := by kernel_rfl
  t61 := Tryz.underlying235
  a61 := Tryz.isAgg235
  z61 := Tryz.sizeOf235
  t65 := Tryz.underlying177
  a65 := Tryz.isAgg177
  z65 := Tryz.sizeOf177
  v65 := Tryz.zeroValue177
  i65 := by kernel_rfl
  t66 := Tryz.underlying257
  a66 := Tryz.isAgg257
  z66 := Tryz.sizeOf257
  v66 := Tryz.zeroValue257
  i66 := by kernel_rfl
  t67 := Tryz.underlying48
  a67 := Tryz.isAgg48
  z67 := Tryz.sizeOf48
  v67 := Tryz.zeroValue48
  i67 := by kernel_rfl
  g0 := by kernel_rfl
  m0 := by kernel_rfl
  g1 := by kernel_rfl
  m1 := by kernel_rfl
  g2 := by kernel_rfl
  m2 := by kernel_rfl
  g3 := by kernel_rfl
  m3 := by kernel_rfl
  g4 := by kernel_rfl
  m4 := by kernel_rfl }
theorem fPu10 : Tryz.laysPu10_ren.f 14 = 106 := by kernel_rfl
theorem tPu10 : Tryz.laysPu10_ren.t 5 = 5 := by kernel_rfl
theorem puM (M : Nat) (hM : M = 2 ^ 64 - 1) : ∀ (l : List UInt8) (a : Nat), (∀ c ∈ l, dgt c) → dcN a l < 10 ^ 18 → Lib.parseUintM M a l = .ok (dcN a l) := by
  intro l
  induction l with
  | nil => intro a _ _; rfl
  | cons c l ih =>
    intro a h hb
    have hc : dgt c := h c (List.mem_cons_self ..)
    have hge : ∀ (l : List UInt8) (a : Nat), a ≤ dcN a l := by
      intro l
      induction l with
      | nil => intro a; exact Nat.le_refl _
      | cons c l ih2 => intro a; exact Nat.le_trans (by omega) (ih2 (a * 10 + (c.toNat - 48)))
    have h1 := hge l (a * 10 + (c.toNat - 48))
    have h2 : dcN a (c :: l) = dcN (a * 10 + (c.toNat - 48)) l := rfl
    have h18 : (10 : Nat) ^ 18 = 1000000000000000000 := by decide
    have h64 : (2 : Nat) ^ 64 = 18446744073709551616 := by decide
    unfold dgt at hc
    unfold Lib.parseUintM
    rw [if_pos hc, if_neg (by omega), if_neg (by omega)]
    rw [h2] at hb ⊢
    exact ih _ (fun d hd => h d (List.mem_cons_of_mem _ hd)) hb
theorem pu10_any (bs : List UInt8) (t : ByteArray) (ht : t = ⟨bs.toArray⟩) (h : ∀ c ∈ bs, dgt c) (h1 : 1 ≤ bs.length) (h9 : bs.length ≤ 9) (w : World) :
    Calls Tryz.prog 106 #[.string t, .int .i64 10, .int .i64 64] w fun e w' => e = .returned (.tuple #[.int .u64 ((dcN 0 bs : Nat) : Int), .nilIface]) ∧ Below w.heap.size w w' := by
  have hz : t.size = bs.length := by rw [ht]; rfl
  have hd : t.data.toList = bs := by rw [ht]
  have hlt := dcN_lt bs 0 h
  have hle : (10 : Nat) ^ bs.length ≤ 10 ^ 9 := Nat.pow_le_pow_right (by omega) h9
  have h9' : (10 : Nat) ^ 9 = 1000000000 := by decide
  have h18 : (10 : Nat) ^ 18 = 1000000000000000000 := by decide
  have hp : Lib.parseUintB 64 t.data.toList = .ok (dcN 0 bs) := by
    rw [hd]
    unfold Lib.parseUintB
    rw [if_neg (by intro e; rw [e] at h1; simp at h1)]
    exact puM _ rfl bs 0 h (by omega)
  have hk := Any.strconv_ParseUint_10_at64_ok Tryz.laysPu10 t (by omega) _ hp w
  rw [fPu10, tPu10] at hk
  refine hk.mono ?_
  rintro e w' ⟨rfl, rfl | rfl⟩
  · exact ⟨rfl, Below.refl _ _⟩
  · exact ⟨rfl, below_bytes w _ t⟩
theorem dcN_app (a : Nat) (l m : List UInt8) : dcN a (l ++ m) = dcN (dcN a l) m := by
  induction l generalizing a with
  | nil => rfl
  | cons c l ih => exact ih _
theorem dcN_two : ∀ (l : List UInt8) (a : Nat), dcN a l = a * 10 ^ l.length + dcN 0 l := by
  intro l
  induction l with
  | nil =>
    intro a
    have e1 : dcN a [] = a := rfl
    have e2 : dcN 0 [] = 0 := rfl
    rw [e1, e2, List.length_nil, Nat.pow_zero, Nat.mul_one, Nat.add_zero]
  | cons c l ih =>
    intro a
    have e1 : dcN a (c :: l) = dcN (a * 10 + (c.toNat - 48)) l := rfl
    have e2 : dcN 0 (c :: l) = dcN (0 * 10 + (c.toNat - 48)) l := rfl
    rw [e1, e2, ih (a * 10 + (c.toNat - 48)), ih (0 * 10 + (c.toNat - 48)), Nat.zero_mul, Nat.zero_add, Nat.add_mul, List.length_cons, Nat.pow_succ, Nat.mul_assoc, Nat.mul_comm 10 (10 ^ l.length), Nat.add_assoc]
theorem tenz_two (n : Nat) : 10 ^ n < 2 ^ (4 * n + 1) := by
  have h : 10 ^ n ≤ 16 ^ n := Nat.pow_le_pow_left (by omega) n
  rw [show (16 : Nat) = 2 ^ 4 by decide, ← Nat.pow_mul] at h
  rw [Nat.pow_succ]
  have := Nat.two_pow_pos (4 * n)
  omega
theorem dcN_bd (l : List UInt8) (h : ∀ c ∈ l, dgt c) : dcN 0 l < 2 ^ (4 * l.length + 1) := by
  have h1 := dcN_lt l 0 h
  have h2 := tenz_two l.length
  omega
theorem pow10_z (n : Nat) (X : Int) (w : World) (hX : X = (n : Int)) (hn : n ≤ 20000) :
    Calls Tryz.prog 65 #[.int .u64 10, .int .i64 X] w (RetNV w (10 ^ n)) := by
  subst hX
  have := pow_any 10 n (4 * n + 1) w (by omega) (by omega) (by omega) (tenz_two n) (by omega)
  simpa using this
set_option maxHeartbeats 8000000 in
theorem nread_any (bs : List UInt8) (t : ByteArray) (ht : t = ⟨bs.toArray⟩) (h : ∀ c ∈ bs, dgt c) (hl : bs.length ≤ 2000) (w : World) :
    Calls Tryz.prog 64 #[.string t] w (RetNV w (dcN 0 bs)) := by
  have HH := Lib.hid h
  have HT := Lib.hid ht
  clear h ht
  go_enter Tryz.func64, Tryz.ntmps64
  go_wp2
  go_loopg [0, 3] bs.length (fun k sv ov wr => ∃ (l r : List UInt8) (S : ByteArray), r.length ≤ k ∧ sv = .string S ∧ S.size = r.length ∧ Hid (S = ⟨r.toArray⟩ ∧ bs = l ++ r) ∧ Hid (NV wr ov (dcN 0 l)) ∧ Hid (Below w.heap.size w wr))
  case atStart => exact ⟨[], bs, t, Nat.le_refl _, rfl, by rw [HT.out]; rfl, Lib.hid ⟨HT.out, rfl⟩, Lib.hid (NV.nil _), Lib.hid (Below.refl _ _)⟩
  case round =>
    obtain ⟨l, r, S, hrk, rfl, hz, HS, HO, HB⟩ := hrel
    have hlr : l.length + r.length = bs.length := by rw [HS.out.2, List.length_append]
    rcases Nat.eq_zero_or_pos r.length with hr0 | hr0
    · have hrn : r = [] := List.length_eq_zero_iff.1 hr0
      have hbl : bs = l := by rw [HS.out.2, hrn, List.append_nil]
      have HBL := Lib.hid hbl
      obtain ⟨a1, n1, c1, rfl⟩ := HO.out.shape
      rw [hr0] at hz
      clear hrn hbl hlr hr0
      go_wp2
      go_ret
      exact ⟨_, rfl, by rw [HBL.out]; exact HO.out, HB.out⟩
    · obtain ⟨k, hk⟩ : ∃ k, k = min r.length 9 := ⟨_, rfl⟩
      have hk1 : 1 ≤ k ∧ k ≤ 9 ∧ k ≤ r.length := by omega
      obtain ⟨k1, k8, kr⟩ := hk1
      have hmin : min ((r.length : Nat) : Int) 9 = (k : Int) := by omega
      have hA : ∀ c ∈ r.take k, dgt c := fun c hc => HH.out c (by rw [HS.out.2]; exact List.mem_append_right _ (List.mem_of_mem_take hc))
      have hla : ∀ c ∈ l, dgt c := fun c hc => HH.out c (by rw [HS.out.2]; exact List.mem_append_left _ hc)
      have hlen : (r.take k).length = k := by rw [List.length_take]; omega
      obtain ⟨T, hT⟩ : ∃ T : ByteArray, T = S.extract 0 k := ⟨_, rfl⟩
      have hT2 : T = ⟨(r.take k).toArray⟩ := by
        rw [hT, HS.out.1]
        apply ByteArray.ext
        simp [ByteArray.data_extract]
      obtain ⟨U, hU⟩ : ∃ U : ByteArray, U = S.extract k S.size := ⟨_, rfl⟩
      have hU2 : U = ⟨(r.drop k).toArray⟩ := by
        rw [hU, HS.out.1]
        apply ByteArray.ext
        simp [ByteArray.data_extract]
        rw [List.take_of_length_le]
        simp [ByteArray.size]
      have hUz : U.size = r.length - k := by rw [hU2]; show (r.drop k).toArray.size = _; simp
      have PU := Lib.hid (fun w' => pu10_any (r.take k) T hT2 hA (by omega) (by omega) w')
      have hnb := dcN_lt (r.take k) 0 hA
      have hle : (10 : Nat) ^ (r.take k).length ≤ 10 ^ 9 := Nat.pow_le_pow_right (by omega) (by omega)
      have e168 : (10 : Nat) ^ 9 = 1000000000 := by decide
      obtain ⟨n, hn⟩ : ∃ n, n = dcN 0 (r.take k) := ⟨_, rfl⟩
      rw [← hn] at PU
      have hn2 : n < 4294967296 := by rw [hn]; omega
      have OF := Lib.hid (fun w' => natOf_any (n : Int) (by omega) (by omega) w')
      simp only [Int.toNat_natCast] at OF
      obtain ⟨K0, hK0, hK1⟩ : ∃ K0, 9000 ≤ K0 ∧ K0 ≤ 9000 := ⟨9000, by omega, by omega⟩
      have hlb : dcN 0 l < 2 ^ K0 := Nat.lt_of_lt_of_le (dcN_bd l hla) (Nat.pow_le_pow_right (by omega) (by omega))
      have hpw : 10 ^ k < 2 ^ 37 := Nat.lt_of_lt_of_le (tenz_two k) (Nat.pow_le_pow_right (by omega) (by omega))
      have PW := Lib.hid (fun X w' (hX : X = ((k : Nat) : Int)) => pow10_z k X w' hX (by omega))
      have TM := Lib.hid (fun va vb w' (hv : NV w' va (dcN 0 l)) (hp : NV w' vb (10 ^ k)) => times_any va vb _ _ K0 w' hv hp hlb (Nat.lt_of_lt_of_le hpw (Nat.pow_le_pow_right (by omega) (show 37 ≤ K0 by omega))) (by omega))
      have hsum : dcN 0 l * 10 ^ k + n = dcN 0 (l ++ r.take k) := by rw [dcN_app, dcN_two _ (dcN 0 l), hlen, hn]
      have hpb : dcN 0 l * 10 ^ k < 2 ^ (K0 + 37) := by
        rw [Nat.pow_add]
        exact Nat.lt_of_le_of_lt (Nat.mul_le_mul_left _ (Nat.le_of_lt hpw)) (Nat.mul_lt_mul_of_pos_right hlb (Nat.two_pow_pos _))
      have hnk : n < 2 ^ (K0 + 37) := Nat.lt_of_lt_of_le (show n < 2 ^ 32 by omega) (Nat.pow_le_pow_right (by omega) (by omega))
      have PL := Lib.hid (fun va vb w' (ha : NV w' va (dcN 0 l * 10 ^ k)) (hb : NV w' vb n) => by have h := plus_any va vb _ n (K0 + 37) w' ha hb hpb hnk (by omega); rw [hsum] at h; exact h)
      have HREST : Hid (bs = (l ++ r.take k) ++ r.drop k) := Lib.hid (by rw [List.append_assoc, List.take_append_drop]; exact HS.out.2)
      have HU2 := Lib.hid hU2
      have hks : (k : Int) ≤ ((r.length : Nat) : Int) := by omega
      have hrp : (0 : Int) < ((r.length : Nat) : Int) := by omega
      have hud : (r.drop k).length = r.length - k := by simp
      obtain ⟨rl, hrl⟩ : ∃ rl, rl = r.length := ⟨_, rfl⟩
      rw [← hrl] at hz hmin hks hrp hUz hud kr hrk
      rw [hz] at hU
      have HT1 : Hid (S.extract 0 k = T) := Lib.hid hT.symm
      have HU1 : Hid (S.extract k rl = U) := Lib.hid hU.symm
      clear hk hA hla hlen hT hT2 hU hU2 hnb hle e168 hn hn2 hlb hsum hpb hnk hlr hr0 hrl HS hpw
      go_wp2_with fail
      rw [HT1.out]
      refine (PU.out _).mono ?_
      rintro e w1 ⟨rfl, hb⟩
      replace HO := Lib.hid (HO.out.below hb)
      replace HB := Lib.hid (bl_thru HB.out (Nat.le_refl _) hb)
      clear hb
      go_wp2_with fail
      refine (PW.out _ _ (by first | rfl | omega)).mono ?_
      rintro e w2 ⟨v2, rfl, hv, hb⟩
      have N2 := Lib.hid hv
      replace HO := Lib.hid (HO.out.below hb)
      replace HB := Lib.hid (bl_thru HB.out (Nat.le_refl _) hb)
      clear hv hb
      go_wp2_with fail
      refine (TM.out _ _ _ HO.out N2.out).mono ?_
      rintro e w2 ⟨v2, rfl, hv, hb⟩
      clear N2
      have N2 := Lib.hid hv
      replace HB := Lib.hid (bl_thru HB.out (Nat.le_refl _) hb)
      clear hv hb HO
      go_wp2_with fail
      refine (OF.out _).mono ?_
      rintro e w3 ⟨v3, rfl, hv, hb⟩
      have N3 := Lib.hid hv
      replace N2 := Lib.hid (N2.out.below hb)
      replace HB := Lib.hid (bl_thru HB.out (Nat.le_refl _) hb)
      clear hv hb
      go_wp2_with fail
      refine (PL.out _ _ _ N2.out N3.out).mono ?_
      rintro e w4 ⟨v4, rfl, hv, hb⟩
      have N4 := Lib.hid hv
      replace HB := Lib.hid (bl_thru HB.out (Nat.le_refl _) hb)
      clear hv hb
      go_wp2
      try rw [HU1.out]
      go_roundg (gk - 1)
      case measure => omega
      case rel => exact ⟨l ++ r.take k, r.drop k, U, by omega, by first | rfl | (rw [HU1.out]), by omega, Lib.hid ⟨HU2.out, HREST.out⟩, N4, HB⟩
end Go.Proofs.YtofdjfdnckmmmaaGreatDoor
