/-
  THE WALK of nat.Read: digits in tens, nine at a time.
-/
import Derived.Test.YthlocmhfjandlaaDoorHr
import Derived.Test.YthlocmhfjandlaaDoorHg
import Derived.Test.YthlocmhfjandlaaDoorPsc
import Derived.Ground.MpProg
import Derived.Shelf.Pu.ParseUintPublic10
set_option linter.unusedVariables false
set_option linter.unusedSimpArgs false
namespace Go.Proofs.YthlocmhfjandlaaDoor
open Go.Shelf Go.RowKit Nt Fm Fl

def Tryd.laysPu10_ren : Go.Shelf.Ren := ⟨fun | 14 => 121 | 16 => 141 | 17 => 136 | 19 => 153 | 20 => 154 | 21 => 147 | 22 => 148 | 23 => 149 | 24 => 150 | 25 => 159 | 27 => 100 | 26 => 160 | 28 => 127 | 29 => 142 | 30 => 155 | 31 => 156 | 32 => 157 | 33 => 158 | 35 => 162 | 34 => 161 | 36 => 163 | 37 => 164 | 38 => 165 | 39 => 126 | 40 => 166 | n => n, fun | 9 => 9 | 3 => 3 | 22 => 41 | 24 => 95 | 25 => 155 | 4 => 4 | 34 => 170 | 5 => 5 | 36 => 87 | 37 => 58 | 0 => 0 | 39 => 173 | 21 => 21 | 44 => 189 | 47 => 146 | 50 => 197 | 48 => 195 | 2 => 2 | 52 => 183 | 55 => 185 | 59 => 192 | 60 => 28 | 20 => 20 | 61 => 193 | 65 => 167 | 66 => 198 | 67 => 99 | n => n, fun | 0 => 4 | 1 => 5 | 2 => 6 | 3 => 1 | 4 => 7 | n => n⟩
theorem Tryd.laysPu10 : Go.Proofs.LaysPu.n14 Tryd.prog Tryd.laysPu10_ren := {
  mixed := by kernel_rfl
  f14 := Tryd.func121.trans (congrArg some (by kernel_rfl))
  f16 := Tryd.func141.trans (congrArg some (by kernel_rfl))
  f17 := Tryd.func136.trans (congrArg some (by kernel_rfl))
  f19 := Tryd.func153.trans (congrArg some (by kernel_rfl))
  f20 := Tryd.func154.trans (congrArg some (by kernel_rfl))
  f21 := Tryd.func147.trans (congrArg some (by kernel_rfl))
  f22 := Tryd.func148.trans (congrArg some (by kernel_rfl))
  f23 := Tryd.func149.trans (congrArg some (by kernel_rfl))
  f24 := Tryd.func150.trans (congrArg some (by kernel_rfl))
  f25 := Tryd.func159.trans (congrArg some (by kernel_rfl))
  f26 := Tryd.func160.trans (congrArg some (by kernel_rfl))
  f27 := Tryd.func100.trans (congrArg some (by kernel_rfl))
  f28 := Tryd.func127.trans (congrArg some (by kernel_rfl))
  f29 := Tryd.func142.trans (congrArg some (by kernel_rfl))
  f30 := Tryd.func155.trans (congrArg some (by kernel_rfl))
  f31 := Tryd.func156.trans (congrArg some (by kernel_rfl))
  f32 := Tryd.func157.trans (congrArg some (by kernel_rfl))
  f33 := Tryd.func158.trans (congrArg some (by kernel_rfl))
  f34 := Tryd.func161.trans (congrArg some (by kernel_rfl))
  f35 := Tryd.func162.trans (congrArg some (by kernel_rfl))
  f36 := Tryd.func163.trans (congrArg some (by kernel_rfl))
  f37 := Tryd.func164.trans (congrArg some (by kernel_rfl))
  f38 := Tryd.func165.trans (congrArg some (by kernel_rfl))
  f39 := Tryd.func126.trans (congrArg some (by kernel_rfl))
  f40 := Tryd.func166.trans (congrArg some (by kernel_rfl))
  t0 := Tryd.underlying0
  a0 := Tryd.isAgg0
  z0 := Tryd.sizeOf0
  v0 := Tryd.zeroValue0
  i0 := by kernel_rfl
  t2 := Tryd.underlying2
  a2 := Tryd.isAgg2
  z2 := Tryd.sizeOf2
  v2 := Tryd.zeroValue2
  i2 := by kernel_rfl
  t3 := Tryd.underlying3
  a3 := Tryd.isAgg3
  z3 := Tryd.sizeOf3
  v3 := Tryd.zeroValue3
  i3 := by kernel_rfl
  t4 := Tryd.underlying4
  a4 := Tryd.isAgg4
  z4 := Tryd.sizeOf4
  v4 := Tryd.zeroValue4
  i4 := by kernel_rfl
  t5 := Tryd.underlying5
  a5 := Tryd.isAgg5
  z5 := Tryd.sizeOf5
  v5 := Tryd.zeroValue5
  i5 := by kernel_rfl
  t9 := Tryd.underlying9
  a9 := Tryd.isAgg9
  z9 := Tryd.sizeOf9
  v9 := Tryd.zeroValue9
  i9 := by kernel_rfl
  t20 := Tryd.underlying20
  a20 := Tryd.isAgg20
  z20 := Tryd.sizeOf20
  v20 := Tryd.zeroValue20
  i20 := by kernel_rfl
  t21 := Tryd.underlying21
  a21 := Tryd.isAgg21
  z21 := Tryd.sizeOf21
  v21 := Tryd.zeroValue21
  i21 := by kernel_rfl
  t22 := Tryd.underlying41
  a22 := Tryd.isAgg41
  z22 := Tryd.sizeOf41
  v22 := Tryd.zeroValue41
  i22 := by kernel_rfl
  t24 := Tryd.underlying95
  a24 := Tryd.isAgg95
  z24 := Tryd.sizeOf95
  v24 := Tryd.zeroValue95
  i24 := by kernel_rfl
  t25 := Tryd.underlying155
  a25 := Tryd.isAgg155
  z25 := Tryd.sizeOf155
  v25 := Tryd.zeroValue155
  i25 := by kernel_rfl
  t34 := Tryd.underlying170
  a34 := Tryd.isAgg170
  z34 := Tryd.sizeOf170
  v34 := Tryd.zeroValue170
  i34 := by kernel_rfl
  c34 := by kernel_rfl
  t36 := Tryd.underlying87
  a36 := Tryd.isAgg87
  z36 := Tryd.sizeOf87
  v36 := Tryd.zeroValue87
  i36 := by kernel_rfl
  t37 := Tryd.underlying58
  a37 := Tryd.isAgg58
  z37 := Tryd.sizeOf58
  v37 := Tryd.zeroValue58
  i37 := by kernel_rfl
  t39 := Tryd.underlying173
  a39 := Tryd.isAgg173
  z39 := Tryd.sizeOf173
  v39 := Tryd.zeroValue173
  i39 := by kernel_rfl
  t44 := Tryd.underlying189
  a44 := Tryd.isAgg189
  z44 := Tryd.sizeOf189
  v44 := Tryd.zeroValue189
  i44 := by kernel_rfl
  t47 := Tryd.underlying146
  a47 := Tryd.isAgg146
  z47 := Tryd.sizeOf146
  v47 := Tryd.zeroValue146
  i47 := by kernel_rfl
  t48 := Tryd.underlying195
  a48 := Tryd.isAgg195
  z48 := Tryd.sizeOf195
  v48 := Tryd.zeroValue195
  i48 := by kernel_rfl
  t50 := Tryd.underlying197
  a50 := Tryd.isAgg197
  z50 := Tryd.sizeOf197
  v50 := Tryd.zeroValue197
  i50 := by kernel_rfl
  t52 := Tryd.underlying183
  a52 := Tryd.isAgg183
  z52 := Tryd.sizeOf183
  v52 := Tryd.zeroValue183
  i52 := by kernel_rfl
  t55 := Tryd.underlying185
  a55 := Tryd.isAgg185
  z55 := Tryd.sizeOf185
  v55 := Tryd.zeroValue185
  i55 := by kernel_rfl
  t59 := Tryd.underlying192
  a59 := Tryd.isAgg192
  z59 := Tryd.sizeOf192
  v59 := Tryd.zeroValue192
  i59 := by kernel_rfl
  t60 := Tryd.underlying28
  a60 := Tryd.isAgg28
  z60 := Tryd.sizeOf28
  v60 := Tryd.zeroValue28
  i60 := by kernel_rfl
  t61 := Tryd.underlying193
  a61 := Tryd.isAgg193
  z61 := Tryd.sizeOf193
  t65 := Tryd.underlying167
  a65 := Tryd.isAgg167
  z65 := Tryd.sizeOf167
  v65 := Tryd.zeroValue167
  i65 := by kernel_rfl
  t66 := Tryd.underlying198
  a66 := Tryd.isAgg198
  z66 := Tryd.sizeOf198
  v66 := Tryd.zeroValue198
  i66 := by kernel_rfl
  t67 := Tryd.underlying99
  a67 := Tryd.isAgg99
  z67 := Tryd.sizeOf99
  v67 := Tryd.zeroValue99
  i67 := by kernel_rfl
  g0 := by kernel_rfl
  m0 := by kernel_rfl
  g1 := by kernel_rfl
  m1 := by kernel_rfl
  g2 := by kernel_rfl
  m2 := by kernel_rfl
  g3 := by kernel_rfl
  m3 := by kernel_rfl
  g4 := by kernel_rfl
  m4 := by kernel_rfl }
theorem fPu10 : Tryd.laysPu10_ren.f 14 = 121 := by kernel_rfl
theorem tPu10 : Tryd.laysPu10_ren.t 5 = 5 := by kernel_rfl
theorem puM (M : Nat) (hM : M = 2 ^ 64 - 1) : ∀ (l : List UInt8) (a : Nat), (∀ c ∈ l, dgt c) → dcN a l < 10 ^ 18 → Lib.parseUintM M a l = .ok (dcN a l) := by
  intro l
  induction l with
  | nil => intro a _ _; rfl
  | cons c l ih =>
    intro a h hb
    have hc : dgt c := h c (List.mem_cons_self ..)
    have hge : ∀ (l : List UInt8) (a : Nat), a ≤ dcN a l := by
      intro l
      induction l with
      | nil => intro a; exact Nat.le_refl _
      | cons c l ih2 => intro a; exact Nat.le_trans (by omega) (ih2 (a * 10 + (c.toNat - 48)))
    have h1 := hge l (a * 10 + (c.toNat - 48))
    have h2 : dcN a (c :: l) = dcN (a * 10 + (c.toNat - 48)) l := rfl
    have h18 : (10 : Nat) ^ 18 = 1000000000000000000 := by decide
    have h64 : (2 : Nat) ^ 64 = 18446744073709551616 := by decide
    unfold dgt at hc
    unfold Lib.parseUintM
    rw [if_pos hc, if_neg (by omega), if_neg (by omega)]
    rw [h2] at hb ⊢
    exact ih _ (fun d hd => h d (List.mem_cons_of_mem _ hd)) hb
theorem pu10_any (bs : List UInt8) (t : ByteArray) (ht : t = ⟨bs.toArray⟩) (h : ∀ c ∈ bs, dgt c) (h1 : 1 ≤ bs.length) (h9 : bs.length ≤ 9) (w : World) :
    Calls Tryd.prog 121 #[.string t, .int .i64 10, .int .i64 64] w fun e w' => e = .returned (.tuple #[.int .u64 ((dcN 0 bs : Nat) : Int), .nilIface]) ∧ Below w.heap.size w w' := by
  have hz : t.size = bs.length := by rw [ht]; rfl
  have hd : t.data.toList = bs := by rw [ht]
  have hlt := dcN_lt bs 0 h
  have hle : (10 : Nat) ^ bs.length ≤ 10 ^ 9 := Nat.pow_le_pow_right (by omega) h9
  have h9' : (10 : Nat) ^ 9 = 1000000000 := by decide
  have h18 : (10 : Nat) ^ 18 = 1000000000000000000 := by decide
  have hp : Lib.parseUintB 64 t.data.toList = .ok (dcN 0 bs) := by
    rw [hd]
    unfold Lib.parseUintB
    rw [if_neg (by intro e; rw [e] at h1; simp at h1)]
    exact puM _ rfl bs 0 h (by omega)
  have hk := Any.strconv_ParseUint_10_at64_ok Tryd.laysPu10 t (by omega) _ hp w
  rw [fPu10, tPu10] at hk
  refine hk.mono ?_
  rintro e w' ⟨rfl, rfl | rfl⟩
  · exact ⟨rfl, Below.refl _ _⟩
  · exact ⟨rfl, below_bytes w _ t⟩
theorem dcN_app (a : Nat) (l m : List UInt8) : dcN a (l ++ m) = dcN (dcN a l) m := by
  induction l generalizing a with
  | nil => rfl
  | cons c l ih => exact ih _
theorem dcN_two : ∀ (l : List UInt8) (a : Nat), dcN a l = a * 10 ^ l.length + dcN 0 l := by
  intro l
  induction l with
  | nil =>
    intro a
    have e1 : dcN a [] = a := rfl
    have e2 : dcN 0 [] = 0 := rfl
    rw [e1, e2, List.length_nil, Nat.pow_zero, Nat.mul_one, Nat.add_zero]
  | cons c l ih =>
    intro a
    have e1 : dcN a (c :: l) = dcN (a * 10 + (c.toNat - 48)) l := rfl
    have e2 : dcN 0 (c :: l) = dcN (0 * 10 + (c.toNat - 48)) l := rfl
    rw [e1, e2, ih (a * 10 + (c.toNat - 48)), ih (0 * 10 + (c.toNat - 48)), Nat.zero_mul, Nat.zero_add, Nat.add_mul, List.length_cons, Nat.pow_succ, Nat.mul_assoc, Nat.mul_comm 10 (10 ^ l.length), Nat.add_assoc]
theorem tenz_two (n : Nat) : 10 ^ n < 2 ^ (4 * n + 1) := by
  have h : 10 ^ n ≤ 16 ^ n := Nat.pow_le_pow_left (by omega) n
  rw [show (16 : Nat) = 2 ^ 4 by decide, ← Nat.pow_mul] at h
  rw [Nat.pow_succ]
  have := Nat.two_pow_pos (4 * n)
  omega
theorem dcN_bd (l : List UInt8) (h : ∀ c ∈ l, dgt c) : dcN 0 l < 2 ^ (4 * l.length + 1) := by
  have h1 := dcN_lt l 0 h
  have h2 := tenz_two l.length
  omega
theorem pow10_z (n : Nat) (X : Int) (w : World) (hX : X = (n : Int)) (hn : n ≤ 20000) :
    Calls Tryd.prog 97 #[.int .u64 10, .int .i64 X] w (RetNV w (10 ^ n)) := by
  subst hX
  have := pow_any 10 n (4 * n + 1) w (by omega) (by omega) (by omega) (tenz_two n) (by omega)
  simpa using this
set_option maxHeartbeats 8000000 in
theorem nread_any (bs : List UInt8) (t : ByteArray) (ht : t = ⟨bs.toArray⟩) (h : ∀ c ∈ bs, dgt c) (hl : bs.length ≤ 2000) (w : World) :
    Calls Tryd.prog 114 #[.string t] w (RetNV w (dcN 0 bs)) := by
  have HH := Lib.hid h
  have HT := Lib.hid ht
  clear h ht
  go_enter Tryd.func114, Tryd.ntmps114
  go_wp2
  go_loopg [0, 3] bs.length (fun k sv ov wr => ∃ (l r : List UInt8) (S : ByteArray), r.length ≤ k ∧ sv = .string S ∧ S.size = r.length ∧ Hid (S = ⟨r.toArray⟩ ∧ bs = l ++ r) ∧ Hid (NV wr ov (dcN 0 l)) ∧ Hid (Below w.heap.size w wr))
  case atStart => exact ⟨[], bs, t, Nat.le_refl _, rfl, by rw [HT.out]; rfl, Lib.hid ⟨HT.out, rfl⟩, Lib.hid (NV.nil _), Lib.hid (Below.refl _ _)⟩
  case round =>
    obtain ⟨l, r, S, hrk, rfl, hz, HS, HO, HB⟩ := hrel
    have hlr : l.length + r.length = bs.length := by rw [HS.out.2, List.length_append]
    rcases Nat.eq_zero_or_pos r.length with hr0 | hr0
    · have hrn : r = [] := List.length_eq_zero_iff.1 hr0
      have hbl : bs = l := by rw [HS.out.2, hrn, List.append_nil]
      have HBL := Lib.hid hbl
      obtain ⟨a1, n1, c1, rfl⟩ := HO.out.shape
      rw [hr0] at hz
      clear hrn hbl hlr hr0
      go_wp2
      go_ret
      exact ⟨_, rfl, by rw [HBL.out]; exact HO.out, HB.out⟩
    · obtain ⟨k, hk⟩ : ∃ k, k = min r.length 9 := ⟨_, rfl⟩
      have hk1 : 1 ≤ k ∧ k ≤ 9 ∧ k ≤ r.length := by omega
      obtain ⟨k1, k8, kr⟩ := hk1
      have hmin : min ((r.length : Nat) : Int) 9 = (k : Int) := by omega
      have hA : ∀ c ∈ r.take k, dgt c := fun c hc => HH.out c (by rw [HS.out.2]; exact List.mem_append_right _ (List.mem_of_mem_take hc))
      have hla : ∀ c ∈ l, dgt c := fun c hc => HH.out c (by rw [HS.out.2]; exact List.mem_append_left _ hc)
      have hlen : (r.take k).length = k := by rw [List.length_take]; omega
      obtain ⟨T, hT⟩ : ∃ T : ByteArray, T = S.extract 0 k := ⟨_, rfl⟩
      have hT2 : T = ⟨(r.take k).toArray⟩ := by
        rw [hT, HS.out.1]
        apply ByteArray.ext
        simp [ByteArray.data_extract]
      obtain ⟨U, hU⟩ : ∃ U : ByteArray, U = S.extract k S.size := ⟨_, rfl⟩
      have hU2 : U = ⟨(r.drop k).toArray⟩ := by
        rw [hU, HS.out.1]
        apply ByteArray.ext
        simp [ByteArray.data_extract]
        rw [List.take_of_length_le]
        simp [ByteArray.size]
      have hUz : U.size = r.length - k := by rw [hU2]; show (r.drop k).toArray.size = _; simp
      have PU := Lib.hid (fun w' => pu10_any (r.take k) T hT2 hA (by omega) (by omega) w')
      have hnb := dcN_lt (r.take k) 0 hA
      have hle : (10 : Nat) ^ (r.take k).length ≤ 10 ^ 9 := Nat.pow_le_pow_right (by omega) (by omega)
      have e168 : (10 : Nat) ^ 9 = 1000000000 := by decide
      obtain ⟨n, hn⟩ : ∃ n, n = dcN 0 (r.take k) := ⟨_, rfl⟩
      rw [← hn] at PU
      have hn2 : n < 4294967296 := by rw [hn]; omega
      have OF := Lib.hid (fun w' => natOf_any (n : Int) (by omega) (by omega) w')
      simp only [Int.toNat_natCast] at OF
      obtain ⟨K0, hK0, hK1⟩ : ∃ K0, 9000 ≤ K0 ∧ K0 ≤ 9000 := ⟨9000, by omega, by omega⟩
      have hlb : dcN 0 l < 2 ^ K0 := Nat.lt_of_lt_of_le (dcN_bd l hla) (Nat.pow_le_pow_right (by omega) (by omega))
      have hpw : 10 ^ k < 2 ^ 37 := Nat.lt_of_lt_of_le (tenz_two k) (Nat.pow_le_pow_right (by omega) (by omega))
      have PW := Lib.hid (fun X w' (hX : X = ((k : Nat) : Int)) => pow10_z k X w' hX (by omega))
      have TM := Lib.hid (fun va vb w' (hv : NV w' va (dcN 0 l)) (hp : NV w' vb (10 ^ k)) => times_any va vb _ _ K0 w' hv hp hlb (Nat.lt_of_lt_of_le hpw (Nat.pow_le_pow_right (by omega) (show 37 ≤ K0 by omega))) (by omega))
      have hsum : dcN 0 l * 10 ^ k + n = dcN 0 (l ++ r.take k) := by rw [dcN_app, dcN_two _ (dcN 0 l), hlen, hn]
      have hpb : dcN 0 l * 10 ^ k < 2 ^ (K0 + 37) := by
        rw [Nat.pow_add]
        exact Nat.lt_of_le_of_lt (Nat.mul_le_mul_left _ (Nat.le_of_lt hpw)) (Nat.mul_lt_mul_of_pos_right hlb (Nat.two_pow_pos _))
      have hnk : n < 2 ^ (K0 + 37) := Nat.lt_of_lt_of_le (show n < 2 ^ 32 by omega) (Nat.pow_le_pow_right (by omega) (by omega))
      have PL := Lib.hid (fun va vb w' (ha : NV w' va (dcN 0 l * 10 ^ k)) (hb : NV w' vb n) => by have h := plus_any va vb _ n (K0 + 37) w' ha hb hpb hnk (by omega); rw [hsum] at h; exact h)
      have HREST : Hid (bs = (l ++ r.take k) ++ r.drop k) := Lib.hid (by rw [List.append_assoc, List.take_append_drop]; exact HS.out.2)
      have HU2 := Lib.hid hU2
      have hks : (k : Int) ≤ ((r.length : Nat) : Int) := by omega
      have hrp : (0 : Int) < ((r.length : Nat) : Int) := by omega
      have hud : (r.drop k).length = r.length - k := by simp
      obtain ⟨rl, hrl⟩ : ∃ rl, rl = r.length := ⟨_, rfl⟩
      rw [← hrl] at hz hmin hks hrp hUz hud kr hrk
      rw [hz] at hU
      have HT1 : Hid (S.extract 0 k = T) := Lib.hid hT.symm
      have HU1 : Hid (S.extract k rl = U) := Lib.hid hU.symm
      clear hk hA hla hlen hT hT2 hU hU2 hnb hle e168 hn hn2 hlb hsum hpb hnk hlr hr0 hrl HS hpw
      go_wp2_with fail
      rw [HT1.out]
      refine (PU.out _).mono ?_
      rintro e w1 ⟨rfl, hb⟩
      replace HO := Lib.hid (HO.out.below hb)
      replace HB := Lib.hid (bl_thru HB.out (Nat.le_refl _) hb)
      clear hb
      go_wp2_with fail
      refine (PW.out _ _ (by first | rfl | omega)).mono ?_
      rintro e w2 ⟨v2, rfl, hv, hb⟩
      have N2 := Lib.hid hv
      replace HO := Lib.hid (HO.out.below hb)
      replace HB := Lib.hid (bl_thru HB.out (Nat.le_refl _) hb)
      clear hv hb
      go_wp2_with fail
      refine (TM.out _ _ _ HO.out N2.out).mono ?_
      rintro e w2 ⟨v2, rfl, hv, hb⟩
      clear N2
      have N2 := Lib.hid hv
      replace HB := Lib.hid (bl_thru HB.out (Nat.le_refl _) hb)
      clear hv hb HO
      go_wp2_with fail
      refine (OF.out _).mono ?_
      rintro e w3 ⟨v3, rfl, hv, hb⟩
      have N3 := Lib.hid hv
      replace N2 := Lib.hid (N2.out.below hb)
      replace HB := Lib.hid (bl_thru HB.out (Nat.le_refl _) hb)
      clear hv hb
      go_wp2_with fail
      refine (PL.out _ _ _ N2.out N3.out).mono ?_
      rintro e w4 ⟨v4, rfl, hv, hb⟩
      have N4 := Lib.hid hv
      replace HB := Lib.hid (bl_thru HB.out (Nat.le_refl _) hb)
      clear hv hb
      go_wp2
      try rw [HU1.out]
      go_roundg (gk - 1)
      case measure => omega
      case rel => exact ⟨l ++ r.take k, r.drop k, U, by omega, by first | rfl | (rw [HU1.out]), by omega, Lib.hid ⟨HU2.out, HREST.out⟩, N4, HB⟩
end Go.Proofs.YthlocmhfjandlaaDoor
