/-
  SOME OF MY TEXTS in one: Yf Yg. Each says what it proves.
-/
import Derived.Test.YtofdjfdnckmmmaaGreatDoorZu
import Derived.Test.YtofdjfdnckmmmaaGreatDoorHg
import Derived.Shelf.Strings.Trim
set_option linter.unusedVariables false
set_option linter.unusedSimpArgs false
/-
  THE WALK of short.Digits.
-/
namespace Go.Proofs.YtofdjfdnckmmmaaGreatDoor
open Go.Shelf Go.RowKit Nt Fm Fl

def Tryz.laysTrimRight_ren : Go.Shelf.Ren := ⟨fun | 162 => 131 | 232 => 174 | 227 => 94 | 234 => 175 | 236 => 176 | 228 => 134 | 271 => 218 | 151 => 135 | 120 => 239 | 197 => 110 | 152 => 182 | 260 => 143 | 137 => 47 | 119 => 221 | 224 => 124 | 225 => 123 | 217 => 77 | 266 => 126 | n => n, fun | 9 => 9 | 4 => 4 | 3 => 3 | 5 => 5 | 117 => 135 | 116 => 134 | 0 => 0 | 124 => 138 | 21 => 21 | 105 => 151 | 46 => 89 | 119 => 198 | 139 => 201 | 138 => 200 | n => n, fun | 3 => 2 | 4 => 3 | n => n⟩
theorem Tryz.laysTrimRight : Go.Proofs.Lays.n162 Tryz.prog Tryz.laysTrimRight_ren := {
  mixed := by kernel_rfl
  f119 := Tryz.func221.trans (congrArg some (by kernel_rfl))
  f120 := Tryz.func239.trans (congrArg some (by kernel_rfl))
  f137 := Tryz.func47.trans (congrArg some (by kernel_rfl))
  f151 := Tryz.func135.trans (congrArg some (by kernel_rfl))
  f152 := Tryz.func182.trans (congrArg some (by kernel_rfl))
  f162 := Tryz.func131.trans (congrArg some (by kernel_rfl))
  f197 := Tryz.func110.trans (congrArg some (by kernel_rfl))
  f217 := Tryz.func77.trans (congrArg some (by kernel_rfl))
  f224 := Tryz.func124.trans (congrArg some (by kernel_rfl))
  f225 := Tryz.func123.trans (congrArg some (by kernel_rfl))
  f227 := Tryz.func94.trans (congrArg some (by kernel_rfl))
  f228 := Tryz.func134.trans (congrArg some (by kernel_rfl))
  f232 := Tryz.func174.trans (congrArg some (by kernel_rfl))
  f234 := Tryz.func175.trans (congrArg some (by kernel_rfl))
  f236 := Tryz.func176.trans (congrArg some (by kernel_rfl))
  f260 := Tryz.func143.trans (congrArg some (by kernel_rfl))
  f266 := Tryz.func126.trans (congrArg some (by kernel_rfl))
  f271 := Tryz.func218.trans (congrArg some (by kernel_rfl))
  t0 := Tryz.underlying0
  a0 := Tryz.isAgg0
  z0 := Tryz.sizeOf0
  v0 := Tryz.zeroValue0
  t3 := Tryz.underlying3
  a3 := Tryz.isAgg3
  z3 := Tryz.sizeOf3
  v3 := Tryz.zeroValue3
  t4 := Tryz.underlying4
  a4 := Tryz.isAgg4
  z4 := Tryz.sizeOf4
  v4 := Tryz.zeroValue4
  t5 := Tryz.underlying5
  a5 := Tryz.isAgg5
  z5 := Tryz.sizeOf5
  v5 := Tryz.zeroValue5
  t9 := Tryz.underlying9
  a9 := Tryz.isAgg9
  z9 := Tryz.sizeOf9
  v9 := Tryz.zeroValue9
  t21 := Tryz.underlying21
  a21 := Tryz.isAgg21
  z21 := Tryz.sizeOf21
  v21 := Tryz.zeroValue21
  t46 := Tryz.underlying89
  a46 := Tryz.isAgg89
  z46 := Tryz.sizeOf89
  v46 := Tryz.zeroValue89
  t105 := Tryz.underlying151
  a105 := Tryz.isAgg151
  z105 := Tryz.sizeOf151
  v105 := Tryz.zeroValue151
  t116 := Tryz.underlying134
  a116 := Tryz.isAgg134
  z116 := Tryz.sizeOf134
  t117 := Tryz.underlying135
  a117 := Tryz.isAgg135
  z117 := Tryz.sizeOf135
  v117 := Tryz.zeroValue135
  t119 := Tryz.underlying198
  a119 := Tryz.isAgg198
  z119 := Tryz.sizeOf198
  t124 := Tryz.underlying138
  a124 := Tryz.isAgg138
  z124 := Tryz.sizeOf138
  v124 := Tryz.zeroValue138
  t138 := Tryz.underlying200
  a138 := Tryz.isAgg200
  z138 := Tryz.sizeOf200
  v138 := Tryz.zeroValue200
  t139 := Tryz.underlying201
  a139 := Tryz.isAgg201
  z139 := Tryz.sizeOf201
  v139 := Tryz.zeroValue201
  g3 := by kernel_rfl
  g4 := by kernel_rfl }
theorem fTrimRight : Tryz.laysTrimRight_ren.f 162 = 131 := by kernel_rfl
theorem trimRight0_any (s : List UInt8) (S : ByteArray) (hS : S = ⟨s.toArray⟩) (hl : s.length ≤ 10000) (w : World) :
    Calls Tryz.prog 131 #[.string S, .string ⟨#[48]⟩] w fun e w' => e = .returned (.string ⟨(Lib.trimRightB s 48).toArray⟩) ∧ w' = w := by
  have zS : S.size = s.length := by rw [hS]; rfl
  have h := Any.strings_TrimRight_one Tryz.laysTrimRight S 48 (by decide) w (by omega)
  rw [fTrimRight, show S.data.toList = s by rw [hS]] at h
  exact h
theorem trimR_len (l : List UInt8) (c : UInt8) : (Lib.trimRightB l c).length ≤ l.length := by
  unfold Lib.trimRightB
  rw [List.length_reverse]
  have := dropW_len (p := (· == c)) l.reverse
  rw [List.length_reverse] at this
  exact this
theorem dec_len_62 {a : Nat} (h : a < 2 ^ 62) : (Lib.decDigits a).length ≤ 200 := by
  have h1 : a ≤ 10 ^ 20 := by
    have e1 : (2 : Nat) ^ 62 = 4611686018427387904 := by decide
    have e2 : (10 : Nat) ^ 20 = 100000000000000000000 := by decide
    omega
  have h2 := dec_mono h1
  have h3 : (Lib.decDigits (10 ^ 20)).length ≤ 200 := by decide +kernel
  omega
noncomputable def sdE (x : Int) : Int := if hasV x = true then 0 else 4
noncomputable def sdT (x : Int) : List UInt8 := if hasV x = true ∧ 1 ≤ fabs x then shT x else []
noncomputable def sdX (x : Int) : Int := if hasV x = true ∧ 1 ≤ fabs x then shX x else 0
def RetSIE (w : World) (s : List UInt8) (k er : Int) (e : Ending) (w' : World) : Prop := e = .returned (.tuple #[.string ⟨s.toArray⟩, .int .i64 k, .int .i64 er]) ∧ Below w.heap.size w w'
set_option maxRecDepth 100000 in
set_option maxHeartbeats 8000000 in
theorem sdigits_good (x : Int) (x0 : 0 ≤ x) (x1 : x ≤ 18446744073709551615) (hv : hasV x = true) (hx : 1 ≤ fabs x) (w : World) (hT : Tab w) (hT10 : Tab10 w) :
    Calls Tryz.prog 214 #[.int .u64 x] w (RetSIE w (shT x) (shX x) 0) := by
  have HV := Lib.hid (fun w' => hasValue_any x x0 x1 w')
  rw [hv] at HV
  have CL := Lib.hid (fun w' => class_any x x0 x1 w')
  have hm := (lm_ulp x0 x1 hx).2
  have LM := Lib.hid (fun w' => limits_any x x0 x1 hm w')
  have hc : fcls x ≠ 1 := by unfold fcls; split <;> (try split) <;> (try split) <;> (try split) <;> omega
  have hf := ffr_bd x
  have he := fexp_bd x
  have hM : lmM x < 9007199254740992 := by unfold lmM; split <;> omega
  have hE : -1076 ≤ lmE x ∧ lmE x ≤ 971 := by unfold lmE; omega
  have NM := Lib.hid (fun va w' (ht : Tab w') (ha : NV w' va (4 * lmM x)) => dnorm_any false va _ 60 (lmE x) w' ht ha (by omega) (by omega) (by omega) (by omega))
  have hsh : norm false (4 * lmM x) (lmE x) = shD x := rfl
  rw [hsh] at NM
  have hmid := (shD_mid x0 x1 hx).1
  have LG := Lib.hid (fun v w' (h : DV w' v (shD x)) => log10_any v (shD x) w' h hmid)
  have HT := Lib.hid hT
  have H10 := Lib.hid hT10
  have B : Hid (Below w.heap.size w w) := Lib.hid (Below.refl _ _)
  clear hT hT10
  generalize fcls x = c at *
  have hc1 : (c == 1) = false := by rw [beq_eq_false_iff_ne]; exact hc
  obtain ⟨TS, hTS⟩ : ∃ T : ByteArray, T = ⟨(shT x).toArray⟩ := ⟨_, rfl⟩
  obtain ⟨SX, hSX⟩ : ∃ z, z = shX x := ⟨_, rfl⟩
  unfold RetSIE
  rw [← hTS, ← hSX]
  have HTS := Lib.hid hTS
  have HSX := Lib.hid hSX
  clear hTS hSX
  go_enter Tryz.func214, Tryz.ntmps214
  go_wp2_with (first
    | (go_at_call 27; refine (HV.out _).mono ?_; rintro e w1 ⟨rfl, rfl⟩)
    | (go_at_call 8; refine (CL.out _).mono ?_; rintro e w1 ⟨rfl, rfl⟩)
    | (go_at_call 234; refine (LM.out _).mono ?_; rintro e w1 ⟨v1, rfl, ⟨va, vb, vc, rfl, n1, n2, n3⟩, hb1⟩; obtain ⟨aa, an, ac, rfl⟩ := n1.shape; obtain ⟨ba, bn, bc, rfl⟩ := n2.shape; obtain ⟨ca, cn, cc, rfl⟩ := n3.shape; have X0 := Lib.hid (Bx5.new w1 (.slice none 0 0) (.slice none 0 0) (.slice none 0 0) (.int .i64 0) (.bool false) 243); obtain ⟨s0, s1, s2, s3, s4, t0, t1, t2, t3, t4⟩ := X0.out.cells))
  clear s0 s1 s2 s3 s4 t0 t1 t2 t3 t4 X0
  replace B := Lib.hid (bl_thru B.out (Nat.le_refl _) hb1)
  replace HT := Lib.hid (HT.out.below hb1)
  replace H10 := Lib.hid (H10.out.below hb1)
  obtain ⟨V, hV⟩ : ∃ V, V = w1.alloc (.cells #[.slice aa an ac, .slice ba bn bc, .slice ca cn cc, .int .i64 (lmE x), .bool (decide (ffr x % 2 = 0))] 243) := ⟨_, rfl⟩
  have X : Hid (Bx5 V w1.heap.size 243 (.slice aa an ac) (.slice ba bn bc) (.slice ca cn cc) (.int .i64 (lmE x)) (.bool (decide (ffr x % 2 = 0)))) := Lib.hid (by rw [hV]; exact Bx5.new w1 _ _ _ _ _ _)
  replace HT : Hid (Tab V) := Lib.hid (by rw [hV]; exact HT.out.alloc _)
  replace H10 : Hid (Tab10 V) := Lib.hid (by rw [hV]; exact H10.out.below ((Below.refl _ _).alloc (Nat.le_refl _) _))
  have N1 : Hid (NV V (.slice aa an ac) (4 * lmM x)) := Lib.hid (by rw [hV]; exact n1.alloc _)
  have N2 : Hid (NV V (.slice ba bn bc) (lmL x)) := Lib.hid (by rw [hV]; exact n2.alloc _)
  have N3 : Hid (NV V (.slice ca cn cc) (4 * lmM x + 2)) := Lib.hid (by rw [hV]; exact n3.alloc _)
  replace B : Hid (Below w.heap.size w V) := Lib.hid (by rw [hV]; exact B.out.alloc B.out.size _)
  obtain ⟨b, hb⟩ : ∃ b, b = w1.heap.size := ⟨_, rfl⟩
  rw [← hV]
  rw [← hb] at X ⊢
  clear hV n1 n2 n3 hb1 hb
  refine (NM.out _ _ HT.out N1.out).mono ?_
  rintro r w2 ⟨v2, rfl, h2, hb2⟩
  obtain ⟨sv, rfl, hs2⟩ := h2
  obtain ⟨sa, sn, sc, rfl⟩ := hs2.shape
  replace X := Lib.hid (X.out.below hb2)
  replace HT := Lib.hid (HT.out.below hb2)
  replace H10 := Lib.hid (H10.out.below hb2)
  replace N1 := Lib.hid (N1.out.below hb2)
  replace N2 := Lib.hid (N2.out.below hb2)
  replace N3 := Lib.hid (N3.out.below hb2)
  replace B := Lib.hid (bl_thru B.out (Nat.le_refl _) hb2)
  have S2 := Lib.hid hs2
  clear hs2 hb2
  go_wp2_with fail
  obtain ⟨V2, hV2⟩ : ∃ V2, V2 = w2.alloc (.cells #[.bool (shD x).neg, .slice sa sn sc, .int .i64 (shD x).e] 68) := ⟨_, rfl⟩
  have Y : Hid (Box V2 w2.heap.size 68 (.bool (shD x).neg) (.slice sa sn sc) (.int .i64 (shD x).e)) := Lib.hid (by rw [hV2]; exact Box.new w2 _ _ _ _)
  replace X : Hid (Bx5 V2 b 243 (.slice aa an ac) (.slice ba bn bc) (.slice ca cn cc) (.int .i64 (lmE x)) (.bool (decide (ffr x % 2 = 0)))) := Lib.hid (by rw [hV2]; exact X.out.alloc _)
  replace HT : Hid (Tab V2) := Lib.hid (by rw [hV2]; exact HT.out.alloc _)
  replace H10 : Hid (Tab10 V2) := Lib.hid (by rw [hV2]; exact H10.out.below ((Below.refl _ _).alloc (Nat.le_refl _) _))
  replace N1 : Hid (NV V2 (.slice aa an ac) (4 * lmM x)) := Lib.hid (by rw [hV2]; exact N1.out.alloc _)
  replace N2 : Hid (NV V2 (.slice ba bn bc) (lmL x)) := Lib.hid (by rw [hV2]; exact N2.out.alloc _)
  replace N3 : Hid (NV V2 (.slice ca cn cc) (4 * lmM x + 2)) := Lib.hid (by rw [hV2]; exact N3.out.alloc _)
  replace S2 : Hid (NV V2 (.slice sa sn sc) (shD x).m) := Lib.hid (by rw [hV2]; exact S2.out.alloc _)
  replace B : Hid (Below w.heap.size w V2) := Lib.hid (by rw [hV2]; exact B.out.alloc B.out.size _)
  obtain ⟨y, hy⟩ : ∃ y, y = w2.heap.size := ⟨_, rfl⟩
  rw [← hV2]
  rw [← hy] at Y ⊢
  clear hV2 hy
  refine (LG.out _ _ ⟨_, rfl, S2.out⟩).mono ?_
  rintro r w3 ⟨rfl, hb3⟩
  replace X := Lib.hid (X.out.below hb3)
  replace Y := Lib.hid (Y.out.below hb3)
  replace HT := Lib.hid (HT.out.below hb3)
  replace H10 := Lib.hid (H10.out.below hb3)
  replace N1 := Lib.hid (N1.out.below hb3)
  replace N2 := Lib.hid (N2.out.below hb3)
  replace N3 := Lib.hid (N3.out.below hb3)
  replace S2 := Lib.hid (S2.out.below hb3)
  replace B := Lib.hid (bl_thru B.out (Nat.le_refl _) hb3)
  clear hb3
  go_wp2_with fail
  have hp := mid_bd hmid
  go_loopw [8] (fun pv wr => ∃ n : Nat, pv = .int .i64 (n : Int) ∧ 1 ≤ n ∧ n ≤ 17 ∧ Hid ((∀ i, 1 ≤ i → i < n → shSt x i = false) ∧ True) ∧ Hid (Bx5 wr b 243 (.slice aa an ac) (.slice ba bn bc) (.slice ca cn cc) (.int .i64 (lmE x)) (.bool (decide (ffr x % 2 = 0)))) ∧ Hid (Box wr y 68 (.bool (shD x).neg) (.slice sa sn sc) (.int .i64 (shD x).e)) ∧ Hid (Tab wr) ∧ Hid (Tab10 wr) ∧ Hid (NV wr (.slice aa an ac) (4 * lmM x)) ∧ Hid (NV wr (.slice ba bn bc) (lmL x)) ∧ Hid (NV wr (.slice ca cn cc) (4 * lmM x + 2)) ∧ Hid (NV wr (.slice sa sn sc) (shD x).m) ∧ Hid (Below w.heap.size w wr)) (fun pv _ => (17 - intOf pv).toNat)
  case atStart => exact ⟨1, rfl, by omega, by omega, Lib.hid ⟨fun i h1 h2 => by omega, trivial⟩, X, Y, HT, H10, N1, N2, N3, S2, B⟩
  case round =>
    obtain ⟨n, rfl, hn1, hn2, HI, X, Y, HT, H10, N1, N2, N3, S2, B⟩ := hrel
    obtain ⟨kk, hkk⟩ : ∃ kk, kk = shK x n := ⟨_, rfl⟩
    have hk : lgD (shD x) + 1 - (n : Int) = kk := by rw [hkk]; rfl
    have hkb : -420 ≤ kk ∧ kk ≤ 420 := by omega
    obtain ⟨Q, hQ⟩ : ∃ Q, Q = shQ x n := ⟨_, rfl⟩
    obtain ⟨t1, t2⟩ := shQ_ten x0 x1 hx n hn1
    rw [← hQ] at t1 t2
    have hQ0 : 1 ≤ Q := by have := Nat.pow_pos (n := n - 1) (show 0 < 10 by omega); omega
    have hQb : Q + 1 < 2 ^ 62 := by
      have h1 : 10 ^ n ≤ 10 ^ 17 := Nat.pow_le_pow_right (by omega) hn2
      have h2 : (10 : Nat) ^ 17 = 100000000000000000 := by decide
      have h3 : (2 : Nat) ^ 62 = 4611686018427387904 := by decide
      omega
    have hdg := dgT_cut x0 x1 hx hn1
    rw [← hQ] at hdg
    obtain ⟨DS, hDS⟩ : ∃ T : ByteArray, T = ⟨(Lib.decDigits Q).toArray⟩ := ⟨_, rfl⟩
    have hdl : (Lib.decDigits Q).length ≤ 100 := by
      rw [← hdg, dgT_len (Or.inr hmid) hn1]; omega
    have DG := Lib.hid (fun v w' (h : DV w' v (shD x)) (h10 : Tab10 w') => digits_any v (shD x) n 3 w' h (Or.inr hmid) hn1 (by omega) (by omega) (by omega) h10)
    unfold RetSIB at DG
    rw [hdg, ← hDS] at DG
    have RD := Lib.hid (fun w' => nread_any (Lib.decDigits Q) DS hDS (dec_dgt Q) (by omega) w')
    rw [dcN_dec] at RD
    have OF := Lib.hid (fun w' => natOf_any 1 (by omega) (by omega) w')
    have PL := Lib.hid (fun va vb w' (h : NV w' va Q) (h2 : NV w' vb 1) => plus_any va vb Q 1 62 w' h h2 (by omega) (Nat.one_lt_two_pow (by omega)) (by omega))
    have F1 := Lib.hid (fun va vb vc vn w' (h1 : NV w' vb (lmL x)) (h2 : NV w' vc (4 * lmM x + 2)) (h3 : NV w' vn Q) (h4 : ∃ S, NV w' va S) => fits_any va vb vc vn (lmL x) (4 * lmM x + 2) Q kk (lmE x) (decide (ffr x % 2 = 0)) 62 w' h1 h2 h3 h4 (by unfold lmL; split <;> omega) (by omega) (by omega) (by omega) (by omega) (by omega) (by omega) (by omega))
    have F2 := Lib.hid (fun va vb vc vn w' (h1 : NV w' vb (lmL x)) (h2 : NV w' vc (4 * lmM x + 2)) (h3 : NV w' vn (Q + 1)) (h4 : ∃ S, NV w' va S) => fits_any va vb vc vn (lmL x) (4 * lmM x + 2) (Q + 1) kk (lmE x) (decide (ffr x % 2 = 0)) 62 w' h1 h2 h3 h4 (by unfold lmL; split <;> omega) (by omega) (by omega) (by omega) (by omega) (by omega) (by omega) (by omega))
    have ea : ftB Q (lmL x) (4 * lmM x + 2) kk (lmE x) (decide (ffr x % 2 = 0)) = shFa x n := by rw [hQ, hkk]; rfl
    have ec : ftB (Q + 1) (lmL x) (4 * lmM x + 2) kk (lmE x) (decide (ffr x % 2 = 0)) = shFc x n := by rw [hQ, hkk]; rfl
    rw [ea] at F1
    rw [ec] at F2
    have HK := Lib.hid hkk
    have HQ := Lib.hid hQ
    have HDS := Lib.hid hDS
    have zDS : DS.size = (Lib.decDigits Q).length := by rw [hDS]; rfl
    clear hkk hQ t1 t2 hdg hDS ea ec NM LG LM CL HV hsh
    obtain ⟨q0, q1, q2, -, -, -⟩ := Y.out.cells
    go_wp2_with (first
      | (go_at_call 84; refine (DG.out _ _ ⟨_, rfl, S2.out⟩ H10.out).mono ?_; rintro r w4 ⟨rfl, hb4⟩; replace X := Lib.hid (X.out.below hb4); replace Y := Lib.hid (Y.out.below hb4); replace HT := Lib.hid (HT.out.below hb4); replace H10 := Lib.hid (H10.out.below hb4); replace N1 := Lib.hid (N1.out.below hb4); replace N2 := Lib.hid (N2.out.below hb4); replace N3 := Lib.hid (N3.out.below hb4); replace S2 := Lib.hid (S2.out.below hb4); replace B := Lib.hid (bl_thru B.out (Nat.le_refl _) hb4); clear hb4)
      | (go_at_call 64; refine (RD.out _).mono ?_; rintro r w5 ⟨v5, rfl, h5, hb4⟩; obtain ⟨la, ln, lc, rfl⟩ := h5.shape; have NL := Lib.hid h5; replace X := Lib.hid (X.out.below hb4); replace Y := Lib.hid (Y.out.below hb4); replace HT := Lib.hid (HT.out.below hb4); replace H10 := Lib.hid (H10.out.below hb4); replace N1 := Lib.hid (N1.out.below hb4); replace N2 := Lib.hid (N2.out.below hb4); replace N3 := Lib.hid (N3.out.below hb4); replace S2 := Lib.hid (S2.out.below hb4); replace B := Lib.hid (bl_thru B.out (Nat.le_refl _) hb4); clear hb4 h5)
      | (go_at_call 61; refine (OF.out _).mono ?_; rintro r w6 ⟨v6, rfl, h6, hb4⟩; have NO := Lib.hid h6; replace NL := Lib.hid (NL.out.below hb4); replace X := Lib.hid (X.out.below hb4); replace Y := Lib.hid (Y.out.below hb4); replace HT := Lib.hid (HT.out.below hb4); replace H10 := Lib.hid (H10.out.below hb4); replace N1 := Lib.hid (N1.out.below hb4); replace N2 := Lib.hid (N2.out.below hb4); replace N3 := Lib.hid (N3.out.below hb4); replace S2 := Lib.hid (S2.out.below hb4); replace B := Lib.hid (bl_thru B.out (Nat.le_refl _) hb4); clear hb4 h6)
      | (go_at_call 103; refine (PL.out _ _ _ NL.out NO.out).mono ?_; rintro r w7 ⟨v7, rfl, h7, hb4⟩; obtain ⟨ha, hn, hc2, rfl⟩ := h7.shape; have NH := Lib.hid h7; replace NL := Lib.hid (NL.out.below hb4); replace X := Lib.hid (X.out.below hb4); replace Y := Lib.hid (Y.out.below hb4); replace HT := Lib.hid (HT.out.below hb4); replace H10 := Lib.hid (H10.out.below hb4); replace N1 := Lib.hid (N1.out.below hb4); replace N2 := Lib.hid (N2.out.below hb4); replace N3 := Lib.hid (N3.out.below hb4); replace S2 := Lib.hid (S2.out.below hb4); replace B := Lib.hid (bl_thru B.out (Nat.le_refl _) hb4); clear hb4 h7))
    have hdr := (Below.refl w7.heap.size w7).drew
    replace X := Lib.hid (X.out.below hdr)
    replace Y := Lib.hid (Y.out.below hdr)
    replace HT := Lib.hid (HT.out.below hdr)
    replace H10 := Lib.hid (H10.out.below hdr)
    replace N1 := Lib.hid (N1.out.below hdr)
    replace N2 := Lib.hid (N2.out.below hdr)
    replace N3 := Lib.hid (N3.out.below hdr)
    replace S2 := Lib.hid (S2.out.below hdr)
    replace NL := Lib.hid (NL.out.below hdr)
    replace NH := Lib.hid (NH.out.below hdr)
    replace B := Lib.hid B.out.drew
    clear hdr q0 q1 q2 NO
    obtain ⟨p0, p1, p2, p3, p4, -, -, -, -, -⟩ := X.out.cells
    go_region_held3 (fun w' => w'.cell? ⟨b, 0, none⟩ = some (.slice aa an ac) ∧ w'.cell? ⟨b, 1, none⟩ = some (.slice ba bn bc) ∧ w'.cell? ⟨b, 2, none⟩ = some (.slice ca cn cc) ∧ w'.cell? ⟨b, 3, none⟩ = some (.int .i64 (lmE x)) ∧ w'.cell? ⟨b, 4, none⟩ = some (.bool (decide (ffr x % 2 = 0))))
      (first
        | with_reducible exact ⟨p0, p1, p2, p3, p4⟩
        | (obtain ⟨p0, p1, p2, p3, p4, -, -, -, -, -⟩ := X1.out.cells; exact ⟨p0, p1, p2, p3, p4⟩)
        | (obtain ⟨p0, p1, p2, p3, p4, -, -, -, -, -⟩ := X2.out.cells; exact ⟨p0, p1, p2, p3, p4⟩)
        | (go_keep; done))
      (first
        | (go_at_call_of 235 (Value.slice la ln lc); refine (F1.out _ _ _ _ _ N2.out N3.out NL.out ⟨_, N1.out⟩).mono ?_; rintro r w8 ⟨rfl, hb8⟩; have HB8 := Lib.hid hb8; have X1 := Lib.hid (X.out.below hb8))
        | (go_at_call_of 235 (Value.slice ha hn hc2); refine (F2.out _ _ _ _ _ (N2.out.below HB8.out) (N3.out.below HB8.out) (NH.out.below HB8.out) ⟨_, N1.out.below HB8.out⟩).mono ?_; rintro r w9 ⟨rfl, hb9⟩; have X2 := Lib.hid (X1.out.below hb9)))
    have hb10 := bl_thru HB8.out (Nat.le_refl _) hb9
    replace X := Lib.hid (X.out.below hb10)
    replace Y := Lib.hid (Y.out.below hb10)
    replace HT := Lib.hid (HT.out.below hb10)
    replace H10 := Lib.hid (H10.out.below hb10)
    replace N1 := Lib.hid (N1.out.below hb10)
    replace N2 := Lib.hid (N2.out.below hb10)
    replace N3 := Lib.hid (N3.out.below hb10)
    replace S2 := Lib.hid (S2.out.below hb10)
    replace NL := Lib.hid (NL.out.below hb10)
    replace NH := Lib.hid (NH.out.below hb10)
    replace B := Lib.hid (bl_thru B.out (Nat.le_refl _) hb10)
    clear hb8 hb9 hb10 HB8 X1 X2 p0 p1 p2 p3 p4 F1 F2 DG RD OF PL
    have hst : shSt x n = (shFa x n || shFc x n) := rfl
    cases hfa : shFa x n
    · cases hfc : shFc x n
      · have hs0 : shSt x n = false := by rw [hst, hfa, hfc]; rfl
        have hn3 : n + 1 ≤ 17 := by
          rcases Nat.lt_or_ge n 17 with g | g
          · exact g
          · exfalso
            have := stop17 x0 x1 hx
            rw [show (17 : Nat) = n by omega, hs0] at this
            exact absurd this (by decide)
        have HS0 := Lib.hid hs0
        clear hst hs0 HDS zDS
        go_wp2
        go_roundw
        case rel =>
          refine ⟨n + 1, by go_num, by omega, hn3, Lib.hid ⟨fun i h1 h2 => ?_, trivial⟩, X, Y, HT, H10, N1, N2, N3, S2, B⟩
          rcases Nat.lt_or_ge i n with g | g
          · exact HI.out.1 i h1 g
          · obtain rfl : i = n := by omega
            exact HS0.out
        case measure => simp [intOf] <;> omega
      · have hC : shC x n = true := by unfold shC; rw [hfa, hfc, if_neg (by simp)]
        clear hst
        obtain ⟨e1, e2⟩ := sh_end x0 x1 hx hn1 (by unfold shSt; rw [hfa, hfc]; rfl) HI.out.1 hC
        rw [← HQ.out, ← HK.out, if_pos rfl] at e2
        rw [← HQ.out, if_pos rfl] at e1
        have hTS := HTS.out
        obtain ⟨US, hUS⟩ : ∃ T : ByteArray, T = ⟨(Lib.decDigits (Q + 1)).toArray⟩ := ⟨_, rfl⟩
        have zTS : TS.size = (shT x).length := by rw [hTS]; rfl
        have zUS : US.size = (Lib.decDigits (Q + 1)).length := by rw [hUS]; rfl
        have hul : (Lib.decDigits (Q + 1)).length ≤ 200 := dec_len_62 hQb
        have TR := Lib.hid (fun w' => trimRight0_any (Lib.decDigits (Q + 1)) US hUS (by omega) w')
        rw [← e1, ← hTS] at TR
        have DC := Lib.hid (fun va w' (h : NV w' va (Q + 1)) (h10 : Tab10 w') => decimal_any va (Q + 1) 62 w' h hQb (by omega) h10)
        rw [← hUS] at DC
        have htl : (shT x).length ≤ (Lib.decDigits (Q + 1)).length := by rw [e1]; exact trimR_len _ _
        rw [← zUS, ← zTS] at e2
        rw [← zUS, ← zTS] at htl
        rw [← zUS] at hul
        have hw1 : kk + ((US.size : Nat) : Int) - ((TS.size : Nat) : Int) = shX x := e2.symm
        rw [← HSX.out] at hw1 e2
        clear e1 e2 hTS HTS HSX HI zTS HDS zDS hC HQ HK hUS zUS
        go_wp2_with (first
          | (go_at_call 83; refine (DC.out _ _ NH.out H10.out).mono ?_; rintro r w10 ⟨rfl, hb10⟩; replace B := Lib.hid (bl_thru B.out (Nat.le_refl _) hb10); clear hb10)
          | (go_at_call 131; refine (TR.out _).mono ?_; rintro r w11 ⟨rfl, rfl⟩))
        go_ret3
        exact ⟨rfl, B.out⟩
    · cases hfc : shFc x n
      · have hC : shC x n = false := by unfold shC; rw [hfa, hfc, if_neg (by simp)]
        clear hst
        obtain ⟨e1, e2⟩ := sh_end x0 x1 hx hn1 (by unfold shSt; rw [hfa, hfc]; rfl) HI.out.1 hC
        rw [← HQ.out, ← HK.out, if_neg (by decide)] at e2
        rw [← HQ.out, if_neg (by decide)] at e1
        have hTS := HTS.out
        have zTS : TS.size = (shT x).length := by rw [hTS]; rfl
        have TR := Lib.hid (fun w' => trimRight0_any (Lib.decDigits Q) DS HDS.out (by omega) w')
        rw [← e1, ← hTS] at TR
        have htl : (shT x).length ≤ (Lib.decDigits Q).length := by rw [e1]; exact trimR_len _ _
        rw [← zDS, ← zTS] at e2
        rw [← zDS, ← zTS] at htl
        rw [← zDS] at hdl
        have hw1 : kk + ((DS.size : Nat) : Int) - ((TS.size : Nat) : Int) = shX x := e2.symm
        rw [← HSX.out] at hw1 e2
        clear e1 e2 hTS HTS HSX HI zTS HDS zDS hC HQ HK
        go_wp2_with (first
          | (go_at_call 131; refine (TR.out _).mono ?_; rintro r w10 ⟨rfl, rfl⟩))
        go_ret3
        exact ⟨rfl, B.out⟩
      · clear hst
        have PL := Lib.hid (fun w' (h : NV w' (.slice la ln lc) Q) (h2 : NV w' (.slice ha hn hc2) (Q + 1)) => plus_any _ _ Q (Q + 1) 62 w' h h2 (by omega) (by omega) (by omega))
        have CP := Lib.hid (fun va w' (h : NV w' va (Q + (Q + 1))) (h2 : NV w' (.slice aa an ac) (4 * lmM x)) => scompare_any va _ (Q + (Q + 1)) (4 * lmM x) kk (lmE x + 1) 63 w' h h2 (by omega) (by omega) (by omega) (by omega) (by omega) (by omega) (by omega))
        obtain ⟨hf2, hhf⟩ : ∃ h, h = sgn2 (cpA (Q + (Q + 1)) kk (lmE x + 1)) (cpB (4 * lmM x) kk (lmE x + 1)) := ⟨_, rfl⟩
        rw [← hhf] at CP
        have HC0 := Lib.hid (show shC x n = (decide (hf2 < 0) || (hf2 == 0 && decide (Q % 2 = 1))) by
          unfold shC shHf
          rw [hfa, hfc, if_pos ⟨rfl, rfl⟩, ← HQ.out, ← HK.out, ← hhf])
        clear hhf
        have hwe := Lib.hid (show IntKind.i64.wrap (lmE x + 1) = lmE x + 1 from IntWalk.i64_in _ (by omega))
        go_wp2_with fail
        have hdr := (Below.refl w9.heap.size w9).drew
        replace X := Lib.hid (X.out.below hdr)
        replace H10 := Lib.hid (H10.out.below hdr)
        replace N1 := Lib.hid (N1.out.below hdr)
        replace NL := Lib.hid (NL.out.below hdr)
        replace NH := Lib.hid (NH.out.below hdr)
        replace B := Lib.hid B.out.drew
        clear hdr
        obtain ⟨p0, p1, p2, p3, p4, -, -, -, -, -⟩ := X.out.cells
        go_region_held3 (fun w' => w'.cell? ⟨b, 0, none⟩ = some (.slice aa an ac) ∧ w'.cell? ⟨b, 3, none⟩ = some (.int .i64 (lmE x)))
          (first
            | with_reducible exact ⟨p0, p3⟩
            | (obtain ⟨p0, p1, p2, p3, p4, -, -, -, -, -⟩ := X1.out.cells; exact ⟨p0, p3⟩)
            | (obtain ⟨p0, p1, p2, p3, p4, -, -, -, -, -⟩ := X2.out.cells; exact ⟨p0, p3⟩)
            | (go_keep; done))
          (first
            | (go_at_call 103; refine (PL.out _ NL.out NH.out).mono ?_; rintro r w10 ⟨v10, rfl, h10, hb10⟩; have HB10 := Lib.hid hb10; have V10 := Lib.hid h10; have X1 := Lib.hid (X.out.below hb10))
            | (go_at_call 236; (try rw [hwe.out]); (with_reducible refine (CP.out _ _ V10.out (N1.out.below HB10.out)).mono ?_); rintro r w11 ⟨rfl, hb11⟩; have X2 := Lib.hid (X1.out.below hb11)))
        have hb12 := bl_thru HB10.out (Nat.le_refl _) hb11
        replace H10 := Lib.hid (H10.out.below hb12)
        replace NL := Lib.hid (NL.out.below hb12)
        replace NH := Lib.hid (NH.out.below hb12)
        replace B := Lib.hid (bl_thru B.out (Nat.le_refl _) hb12)
        clear h10 hb10 hb11 hb12 HB10 X1 X2 p0 p1 p2 p3 p4 PL CP V10 X Y N1 N2 N3 S2 HT
        obtain ⟨ao', n', c', heq, hnc', hc', hodd⟩ := limb_odd NL.out
        obtain ⟨rfl, rfl, rfl⟩ : la = ao' ∧ ln = n' ∧ lc = c' := by cases heq; exact ⟨rfl, rfl, rfl⟩
        unfold maxLen at hc'
        obtain ⟨hl0, lb, loff, ld, rfl, hlb, hld, hcell, hpar⟩ : 0 < ln ∧ ∃ lb loff ld, la = some ⟨lb, loff, none⟩ ∧ lb < w11.heap.size ∧ ld < 4294967296 ∧ w11.cell? ⟨lb, loff, none⟩ = some (.int .u32 ((ld : Nat) : Int)) ∧ ld % 2 = Q % 2 := by
          rcases hodd with ⟨-, h⟩ | h
          · omega
          · exact h
        clear hodd heq
        by_cases g1 : hf2 < 0
        · have hC : shC x n = true := by rw [HC0.out, decide_eq_true g1]; rfl
          clear hpar
          obtain ⟨e1, e2⟩ := sh_end x0 x1 hx hn1 (by unfold shSt; rw [hfa, hfc]; rfl) HI.out.1 hC
          rw [← HQ.out, ← HK.out, if_pos rfl] at e2
          rw [← HQ.out, if_pos rfl] at e1
          have hTS := HTS.out
          obtain ⟨US, hUS⟩ : ∃ T : ByteArray, T = ⟨(Lib.decDigits (Q + 1)).toArray⟩ := ⟨_, rfl⟩
          have zTS : TS.size = (shT x).length := by rw [hTS]; rfl
          have zUS : US.size = (Lib.decDigits (Q + 1)).length := by rw [hUS]; rfl
          have hul : (Lib.decDigits (Q + 1)).length ≤ 200 := dec_len_62 hQb
          have TR := Lib.hid (fun w' => trimRight0_any (Lib.decDigits (Q + 1)) US hUS (by omega) w')
          rw [← e1, ← hTS] at TR
          have DC := Lib.hid (fun va w' (h : NV w' va (Q + 1)) (h10 : Tab10 w') => decimal_any va (Q + 1) 62 w' h hQb (by omega) h10)
          rw [← hUS] at DC
          have htl : (shT x).length ≤ (Lib.decDigits (Q + 1)).length := by rw [e1]; exact trimR_len _ _
          rw [← zUS, ← zTS] at e2
          rw [← zUS, ← zTS] at htl
          rw [← zUS] at hul
          have hw1 : kk + ((US.size : Nat) : Int) - ((TS.size : Nat) : Int) = shX x := e2.symm
          rw [← HSX.out] at hw1 e2
          clear e1 e2 hTS HTS HSX HI zTS HDS zDS hC HQ HK hUS zUS
          go_wp2_with (first
            | (go_at_call 83; refine (DC.out _ _ NH.out H10.out).mono ?_; rintro r w10 ⟨rfl, hb10⟩; replace B := Lib.hid (bl_thru B.out (Nat.le_refl _) hb10); clear hb10)
            | (go_at_call 131; refine (TR.out _).mono ?_; rintro r w11 ⟨rfl, rfl⟩))
          go_ret3
          exact ⟨rfl, B.out⟩
        · by_cases g2 : hf2 = 0
          · have g2b : (hf2 == 0) = true := by rw [beq_iff_eq]; exact g2
            by_cases g3 : Q % 2 = 1
            · have hC : shC x n = true := by rw [HC0.out, decide_eq_true g3, g2b]; simp
              have g4 : ((ld : Int) % 2 == 1) = true := by rw [beq_iff_eq]; omega
              clear hpar g2 g3
              obtain ⟨e1, e2⟩ := sh_end x0 x1 hx hn1 (by unfold shSt; rw [hfa, hfc]; rfl) HI.out.1 hC
              rw [← HQ.out, ← HK.out, if_pos rfl] at e2
              rw [← HQ.out, if_pos rfl] at e1
              have hTS := HTS.out
              obtain ⟨US, hUS⟩ : ∃ T : ByteArray, T = ⟨(Lib.decDigits (Q + 1)).toArray⟩ := ⟨_, rfl⟩
              have zTS : TS.size = (shT x).length := by rw [hTS]; rfl
              have zUS : US.size = (Lib.decDigits (Q + 1)).length := by rw [hUS]; rfl
              have hul : (Lib.decDigits (Q + 1)).length ≤ 200 := dec_len_62 hQb
              have TR := Lib.hid (fun w' => trimRight0_any (Lib.decDigits (Q + 1)) US hUS (by omega) w')
              rw [← e1, ← hTS] at TR
              have DC := Lib.hid (fun va w' (h : NV w' va (Q + 1)) (h10 : Tab10 w') => decimal_any va (Q + 1) 62 w' h hQb (by omega) h10)
              rw [← hUS] at DC
              have htl : (shT x).length ≤ (Lib.decDigits (Q + 1)).length := by rw [e1]; exact trimR_len _ _
              rw [← zUS, ← zTS] at e2
              rw [← zUS, ← zTS] at htl
              rw [← zUS] at hul
              have hw1 : kk + ((US.size : Nat) : Int) - ((TS.size : Nat) : Int) = shX x := e2.symm
              rw [← HSX.out] at hw1 e2
              clear e1 e2 hTS HTS HSX HI zTS HDS zDS hC HQ HK hUS zUS
              go_wp2_with (first
                | (go_at_call 83; refine (DC.out _ _ NH.out H10.out).mono ?_; rintro r w10 ⟨rfl, hb10⟩; replace B := Lib.hid (bl_thru B.out (Nat.le_refl _) hb10); clear hb10)
                | (go_at_call 131; refine (TR.out _).mono ?_; rintro r w11 ⟨rfl, rfl⟩))
              go_ret3
              exact ⟨rfl, B.out⟩
            · have hC : shC x n = false := by rw [HC0.out, decide_eq_false g3, decide_eq_false g1]; simp
              have g4 : ((ld : Int) % 2 == 1) = false := by rw [beq_eq_false_iff_ne]; omega
              clear hpar g2 g3
              obtain ⟨e1, e2⟩ := sh_end x0 x1 hx hn1 (by unfold shSt; rw [hfa, hfc]; rfl) HI.out.1 hC
              rw [← HQ.out, ← HK.out, if_neg (by decide)] at e2
              rw [← HQ.out, if_neg (by decide)] at e1
              have hTS := HTS.out
              have zTS : TS.size = (shT x).length := by rw [hTS]; rfl
              have TR := Lib.hid (fun w' => trimRight0_any (Lib.decDigits Q) DS HDS.out (by omega) w')
              rw [← e1, ← hTS] at TR
              have htl : (shT x).length ≤ (Lib.decDigits Q).length := by rw [e1]; exact trimR_len _ _
              rw [← zDS, ← zTS] at e2
              rw [← zDS, ← zTS] at htl
              rw [← zDS] at hdl
              have hw1 : kk + ((DS.size : Nat) : Int) - ((TS.size : Nat) : Int) = shX x := e2.symm
              rw [← HSX.out] at hw1 e2
              clear e1 e2 hTS HTS HSX HI zTS HDS zDS hC HQ HK
              go_wp2_with (first
                | (go_at_call 131; refine (TR.out _).mono ?_; rintro r w10 ⟨rfl, rfl⟩))
              go_ret3
              exact ⟨rfl, B.out⟩
          · have g2b : (hf2 == 0) = false := by rw [beq_eq_false_iff_ne]; exact g2
            have hC : shC x n = false := by rw [HC0.out, decide_eq_false g1, g2b]; rfl
            clear hpar g2
            obtain ⟨e1, e2⟩ := sh_end x0 x1 hx hn1 (by unfold shSt; rw [hfa, hfc]; rfl) HI.out.1 hC
            rw [← HQ.out, ← HK.out, if_neg (by decide)] at e2
            rw [← HQ.out, if_neg (by decide)] at e1
            have hTS := HTS.out
            have zTS : TS.size = (shT x).length := by rw [hTS]; rfl
            have TR := Lib.hid (fun w' => trimRight0_any (Lib.decDigits Q) DS HDS.out (by omega) w')
            rw [← e1, ← hTS] at TR
            have htl : (shT x).length ≤ (Lib.decDigits Q).length := by rw [e1]; exact trimR_len _ _
            rw [← zDS, ← zTS] at e2
            rw [← zDS, ← zTS] at htl
            rw [← zDS] at hdl
            have hw1 : kk + ((DS.size : Nat) : Int) - ((TS.size : Nat) : Int) = shX x := e2.symm
            rw [← HSX.out] at hw1 e2
            clear e1 e2 hTS HTS HSX HI zTS HDS zDS hC HQ HK
            go_wp2_with (first
              | (go_at_call 131; refine (TR.out _).mono ?_; rintro r w10 ⟨rfl, rfl⟩))
            go_ret3
            exact ⟨rfl, B.out⟩
end Go.Proofs.YtofdjfdnckmmmaaGreatDoor

/-
  THE WALK of short.Digits at any number.
-/
namespace Go.Proofs.YtofdjfdnckmmmaaGreatDoor
open Go.RowKit Nt Fm Fl

theorem sdigits_any (x : Int) (x0 : 0 ≤ x) (x1 : x ≤ 18446744073709551615) (w : World) (hT : Tab w) (hT10 : Tab10 w) :
    Calls Tryz.prog 214 #[.int .u64 x] w (RetSIE w (sdT x) (sdX x) (sdE x)) := by
  by_cases hv : hasV x = true
  · by_cases hx : 1 ≤ fabs x
    · have e1 : sdT x = shT x := by unfold sdT; rw [if_pos ⟨hv, hx⟩]
      have e2 : sdX x = shX x := by unfold sdX; rw [if_pos ⟨hv, hx⟩]
      have e3 : sdE x = 0 := by unfold sdE; rw [if_pos hv]
      rw [e1, e2, e3]
      exact sdigits_good x x0 x1 hv hx w hT hT10
    · have e1 : sdT x = [] := by unfold sdT; rw [if_neg (fun h => hx h.2)]
      have e2 : sdX x = 0 := by unfold sdX; rw [if_neg (fun h => hx h.2)]
      have e3 : sdE x = 0 := by unfold sdE; rw [if_pos hv]
      rw [e1, e2, e3]
      have HV := Lib.hid (fun w' => hasValue_any x x0 x1 w')
      rw [hv] at HV
      have CL := Lib.hid (fun w' => class_any x x0 x1 w')
      have hc : fcls x = 1 := by unfold fcls; rw [if_pos (by have := fabs_bd x; omega)]
      rw [hc] at CL
      clear hc hT hT10 e1 e2 e3
      unfold RetSIE
      go_enter Tryz.func214, Tryz.ntmps214
      go_wp2_with (first
        | (go_at_call 27; refine (HV.out _).mono ?_; rintro e w1 ⟨rfl, rfl⟩)
        | (go_at_call 8; refine (CL.out _).mono ?_; rintro e w1 ⟨rfl, rfl⟩))
      go_ret3
      exact ⟨rfl, Below.refl _ _⟩
  · have hv0 : hasV x = false := by cases h : hasV x; rfl; exact absurd h hv
    have e1 : sdT x = [] := by unfold sdT; rw [if_neg (fun h => hv h.1)]
    have e2 : sdX x = 0 := by unfold sdX; rw [if_neg (fun h => hv h.1)]
    have e3 : sdE x = 4 := by unfold sdE; rw [if_neg hv]
    rw [e1, e2, e3]
    have HV := Lib.hid (fun w' => hasValue_any x x0 x1 w')
    rw [hv0] at HV
    clear hT hT10 e1 e2 e3 hv hv0
    unfold RetSIE
    go_enter Tryz.func214, Tryz.ntmps214
    go_wp2_with (go_at_call 27; refine (HV.out _).mono ?_; rintro e w1 ⟨rfl, rfl⟩)
    go_ret3
    exact ⟨rfl, Below.refl _ _⟩
end Go.Proofs.YtofdjfdnckmmmaaGreatDoor
