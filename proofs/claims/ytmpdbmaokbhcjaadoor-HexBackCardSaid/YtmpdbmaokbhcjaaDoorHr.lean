/-
  THE WALK of hex.parse.
-/
import Derived.Test.YtmpdbmaokbhcjaaDoorHm
import Derived.Test.YtmpdbmaokbhcjaaDoorFx
import Derived.Shelf.Small.Wraps
import Derived.Shelf.Strings.Prefix
import Derived.Shelf.Strconv.Atoi
import Derived.Lib.AtoiBound
set_option linter.unusedVariables false
set_option linter.unusedSimpArgs false
namespace Go.Proofs.YtmpdbmaokbhcjaaDoor
open Go.Shelf Go.RowKit Go.Lib Nt

def Tryd.laysCutPrefix_ren : Go.Shelf.Ren := ⟨fun | 103 => 107 | 210 => 131 | 206 => 133 | n => n, fun | 9 => 9 | 4 => 4 | 24 => 126 | 3 => 3 | n => n, fun | n => n⟩
theorem Tryd.laysCutPrefix : Go.Proofs.Lays.n103 Tryd.prog Tryd.laysCutPrefix_ren := {
  mixed := by kernel_rfl
  f103 := Tryd.func107.trans (congrArg some (by kernel_rfl))
  f206 := Tryd.func133.trans (congrArg some (by kernel_rfl))
  f210 := Tryd.func131.trans (congrArg some (by kernel_rfl))
  t3 := Tryd.underlying3
  a3 := Tryd.isAgg3
  z3 := Tryd.sizeOf3
  v3 := Tryd.zeroValue3
  t4 := Tryd.underlying4
  a4 := Tryd.isAgg4
  z4 := Tryd.sizeOf4
  v4 := Tryd.zeroValue4
  t9 := Tryd.underlying9
  a9 := Tryd.isAgg9
  z9 := Tryd.sizeOf9
  v9 := Tryd.zeroValue9
  t24 := Tryd.underlying126
  a24 := Tryd.isAgg126
  z24 := Tryd.sizeOf126
  v24 := Tryd.zeroValue126 }
def Tryd.laysHasPrefix_ren : Go.Shelf.Ren := ⟨fun | 99 => 109 | 206 => 133 | n => n, fun | 9 => 9 | 4 => 4 | 3 => 3 | n => n, fun | n => n⟩
theorem Tryd.laysHasPrefix : Go.Proofs.Lays.n99 Tryd.prog Tryd.laysHasPrefix_ren := {
  mixed := by kernel_rfl
  f99 := Tryd.func109.trans (congrArg some (by kernel_rfl))
  f206 := Tryd.func133.trans (congrArg some (by kernel_rfl))
  t3 := Tryd.underlying3
  a3 := Tryd.isAgg3
  z3 := Tryd.sizeOf3
  v3 := Tryd.zeroValue3
  t4 := Tryd.underlying4
  a4 := Tryd.isAgg4
  z4 := Tryd.sizeOf4
  v4 := Tryd.zeroValue4
  t9 := Tryd.underlying9
  a9 := Tryd.isAgg9
  z9 := Tryd.sizeOf9
  v9 := Tryd.zeroValue9 }
def Tryd.laysAtoi_ren : Go.Shelf.Ren := ⟨fun | 172 => 110 | 244 => 134 | 245 => 135 | 247 => 153 | 279 => 154 | 280 => 155 | 281 => 156 | 282 => 157 | 287 => 136 | 316 => 168 | 171 => 115 | 205 => 169 | 321 => 158 | 322 => 159 | 243 => 144 | 246 => 164 | 283 => 172 | 284 => 173 | 285 => 174 | 286 => 175 | 129 => 148 | 317 => 178 | 318 => 179 | 319 => 180 | 320 => 181 | 337 => 82 | 338 => 186 | n => n, fun | 9 => 9 | 3 => 3 | 75 => 132 | 76 => 133 | 4 => 4 | 5 => 5 | 167 => 170 | 37 => 89 | 0 => 0 | 85 => 171 | 2 => 2 | 168 => 173 | 53 => 32 | 175 => 135 | 46 => 69 | 210 => 190 | 127 => 182 | 145 => 202 | 143 => 200 | 21 => 21 | 171 => 195 | 173 => 197 | 212 => 204 | 51 => 50 | 20 => 20 | 213 => 205 | 232 => 140 | 233 => 213 | 80 => 161 | n => n, fun | 15 => 1 | 16 => 2 | 17 => 4 | 18 => 0 | 19 => 7 | n => n⟩
theorem Tryd.laysAtoi : Go.Proofs.Lays.n172 Tryd.prog Tryd.laysAtoi_ren := {
  mixed := by kernel_rfl
  f129 := Tryd.func148.trans (congrArg some (by kernel_rfl))
  f171 := Tryd.func115.trans (congrArg some (by kernel_rfl))
  f172 := Tryd.func110.trans (congrArg some (by kernel_rfl))
  f205 := Tryd.func169.trans (congrArg some (by kernel_rfl))
  f243 := Tryd.func144.trans (congrArg some (by kernel_rfl))
  f244 := Tryd.func134.trans (congrArg some (by kernel_rfl))
  f245 := Tryd.func135.trans (congrArg some (by kernel_rfl))
  f246 := Tryd.func164.trans (congrArg some (by kernel_rfl))
  f247 := Tryd.func153.trans (congrArg some (by kernel_rfl))
  f279 := Tryd.func154.trans (congrArg some (by kernel_rfl))
  f280 := Tryd.func155.trans (congrArg some (by kernel_rfl))
  f281 := Tryd.func156.trans (congrArg some (by kernel_rfl))
  f282 := Tryd.func157.trans (congrArg some (by kernel_rfl))
  f283 := Tryd.func172.trans (congrArg some (by kernel_rfl))
  f284 := Tryd.func173.trans (congrArg some (by kernel_rfl))
  f285 := Tryd.func174.trans (congrArg some (by kernel_rfl))
  f286 := Tryd.func175.trans (congrArg some (by kernel_rfl))
  f287 := Tryd.func136.trans (congrArg some (by kernel_rfl))
  f316 := Tryd.func168.trans (congrArg some (by kernel_rfl))
  f317 := Tryd.func178.trans (congrArg some (by kernel_rfl))
  f318 := Tryd.func179.trans (congrArg some (by kernel_rfl))
  f319 := Tryd.func180.trans (congrArg some (by kernel_rfl))
  f320 := Tryd.func181.trans (congrArg some (by kernel_rfl))
  f321 := Tryd.func158.trans (congrArg some (by kernel_rfl))
  f322 := Tryd.func159.trans (congrArg some (by kernel_rfl))
  f337 := Tryd.func82.trans (congrArg some (by kernel_rfl))
  f338 := Tryd.func186.trans (congrArg some (by kernel_rfl))
  t0 := Tryd.underlying0
  a0 := Tryd.isAgg0
  z0 := Tryd.sizeOf0
  v0 := Tryd.zeroValue0
  t2 := Tryd.underlying2
  a2 := Tryd.isAgg2
  z2 := Tryd.sizeOf2
  v2 := Tryd.zeroValue2
  t3 := Tryd.underlying3
  a3 := Tryd.isAgg3
  z3 := Tryd.sizeOf3
  v3 := Tryd.zeroValue3
  t4 := Tryd.underlying4
  a4 := Tryd.isAgg4
  z4 := Tryd.sizeOf4
  v4 := Tryd.zeroValue4
  t5 := Tryd.underlying5
  a5 := Tryd.isAgg5
  z5 := Tryd.sizeOf5
  v5 := Tryd.zeroValue5
  t9 := Tryd.underlying9
  a9 := Tryd.isAgg9
  z9 := Tryd.sizeOf9
  v9 := Tryd.zeroValue9
  t20 := Tryd.underlying20
  a20 := Tryd.isAgg20
  z20 := Tryd.sizeOf20
  v20 := Tryd.zeroValue20
  t21 := Tryd.underlying21
  a21 := Tryd.isAgg21
  z21 := Tryd.sizeOf21
  v21 := Tryd.zeroValue21
  t37 := Tryd.underlying89
  a37 := Tryd.isAgg89
  z37 := Tryd.sizeOf89
  v37 := Tryd.zeroValue89
  t46 := Tryd.underlying69
  a46 := Tryd.isAgg69
  z46 := Tryd.sizeOf69
  v46 := Tryd.zeroValue69
  t51 := Tryd.underlying50
  a51 := Tryd.isAgg50
  z51 := Tryd.sizeOf50
  v51 := Tryd.zeroValue50
  t53 := Tryd.underlying32
  a53 := Tryd.isAgg32
  z53 := Tryd.sizeOf32
  v53 := Tryd.zeroValue32
  t75 := Tryd.underlying132
  a75 := Tryd.isAgg132
  z75 := Tryd.sizeOf132
  v75 := Tryd.zeroValue132
  t76 := Tryd.underlying133
  a76 := Tryd.isAgg133
  z76 := Tryd.sizeOf133
  v76 := Tryd.zeroValue133
  t85 := Tryd.underlying171
  a85 := Tryd.isAgg171
  z85 := Tryd.sizeOf171
  v85 := Tryd.zeroValue171
  t127 := Tryd.underlying182
  a127 := Tryd.isAgg182
  z127 := Tryd.sizeOf182
  v127 := Tryd.zeroValue182
  t143 := Tryd.underlying200
  a143 := Tryd.isAgg200
  z143 := Tryd.sizeOf200
  v143 := Tryd.zeroValue200
  t145 := Tryd.underlying202
  a145 := Tryd.isAgg202
  z145 := Tryd.sizeOf202
  v145 := Tryd.zeroValue202
  t167 := Tryd.underlying170
  a167 := Tryd.isAgg170
  z167 := Tryd.sizeOf170
  v167 := Tryd.zeroValue170
  t168 := Tryd.underlying173
  a168 := Tryd.isAgg173
  z168 := Tryd.sizeOf173
  v168 := Tryd.zeroValue173
  t171 := Tryd.underlying195
  a171 := Tryd.isAgg195
  z171 := Tryd.sizeOf195
  v171 := Tryd.zeroValue195
  t173 := Tryd.underlying197
  a173 := Tryd.isAgg197
  z173 := Tryd.sizeOf197
  v173 := Tryd.zeroValue197
  t175 := Tryd.underlying135
  a175 := Tryd.isAgg135
  z175 := Tryd.sizeOf135
  v175 := Tryd.zeroValue135
  t210 := Tryd.underlying190
  a210 := Tryd.isAgg190
  z210 := Tryd.sizeOf190
  v210 := Tryd.zeroValue190
  t212 := Tryd.underlying204
  a212 := Tryd.isAgg204
  z212 := Tryd.sizeOf204
  v212 := Tryd.zeroValue204
  t213 := Tryd.underlying205
  a213 := Tryd.isAgg205
  z213 := Tryd.sizeOf205
  t232 := Tryd.underlying140
  a232 := Tryd.isAgg140
  z232 := Tryd.sizeOf140
  v232 := Tryd.zeroValue140
  t233 := Tryd.underlying213
  a233 := Tryd.isAgg213
  z233 := Tryd.sizeOf213
  v233 := Tryd.zeroValue213
  g15 := by kernel_rfl
  g16 := by kernel_rfl
  g17 := by kernel_rfl
  g18 := by kernel_rfl
  g19 := by kernel_rfl }
theorem fCutPrefix : Tryd.laysCutPrefix_ren.f 103 = 107 := by kernel_rfl
theorem fHasPrefix : Tryd.laysHasPrefix_ren.f 99 = 109 := by kernel_rfl
theorem fAtoi : Tryd.laysAtoi_ren.f 172 = 110 := by kernel_rfl
theorem tAtoi : Tryd.laysAtoi_ren.t 5 = 5 := by kernel_rfl
theorem cutPrefix_any (s p : List UInt8) (S : ByteArray) (hS : S = ⟨s.toArray⟩) (w : World) :
    Calls Tryd.prog 107 #[.string S, .string ⟨p.toArray⟩] w fun e w' => e = .returned (.tuple #[.string ⟨(Lib.trimPrefix s p).toArray⟩, .bool (Lib.hasPrefix s p)]) ∧ w = w' := by
  have h := Any.strings_CutPrefix Tryd.laysCutPrefix S ⟨p.toArray⟩ w
  rw [fCutPrefix] at h
  rw [hS] at h ⊢
  exact h.mono fun e w' k => ⟨k.1, k.2.symm⟩
theorem hasPrefix_any (s p : List UInt8) (S : ByteArray) (hS : S = ⟨s.toArray⟩) (w : World) :
    Calls Tryd.prog 109 #[.string S, .string ⟨p.toArray⟩] w fun e w' => e = .returned (.bool (Lib.hasPrefix s p)) ∧ w = w' := by
  have h := Any.strings_HasPrefix Tryd.laysHasPrefix S ⟨p.toArray⟩ w
  rw [fHasPrefix] at h
  rw [hS] at h ⊢
  exact h.mono fun e w' k => ⟨k.1, k.2.symm⟩
/-- a number in tens -/
def dcN (a : Nat) : List UInt8 → Nat
  | [] => a
  | c :: l => dcN (a * 10 + (c.toNat - 48)) l
theorem dec_from : ∀ (l : List UInt8) (a : Nat), (∀ c ∈ l, dgt c) → Lib.decFrom a l = some (dcN a l)
  | [], a, _ => rfl
  | c :: l, a, h => by
    have hc := h c (by simp)
    unfold dgt at hc
    have hd : Lib.digitVal c = some (c.toNat - 48) := by unfold Lib.digitVal; simp [hc.1, hc.2]
    rw [Lib.decFrom, hd]
    exact dec_from l _ (fun d hd => h d (by simp [hd]))
theorem atoi_dg {l : List UInt8} (hl : l ≠ []) (h : ∀ c ∈ l, dgt c) : Lib.atoi l = some ((dcN 0 l : Nat) : Int) := by
  cases l with
  | nil => exact absurd rfl hl
  | cons c r =>
    have hc := h c (by simp)
    have h1 : (c == 45) = false := by rw [beq_eq_false_iff_ne]; exact (dgt_not hc).2.2
    have h2 : (c == 43) = false := by rw [beq_eq_false_iff_ne]; intro e; subst e; revert hc; unfold dgt; decide
    have h3 : Lib.decNat (c :: r) = some (dcN 0 (c :: r)) := by
      rw [show Lib.decNat (c :: r) = Lib.decFrom 0 (c :: r) from rfl, dec_from _ 0 h]
    simp [Lib.atoi, h1, h2, h3]
theorem atoi_any (l : List UInt8) (S : ByteArray) (hS : S = ⟨l.toArray⟩) (hl : l ≠ []) (h : ∀ c ∈ l, dgt c) (h18 : l.length ≤ 18) (w : World) :
    Calls Tryd.prog 110 #[.string S] w fun e w' => e = .returned (.tuple #[.int .i64 ((dcN 0 l : Nat) : Int), .nilIface]) ∧ Below w.heap.size w w' := by
  have hd : S.data.toList = l := by rw [hS]
  have hz : S.size = l.length := by rw [hS]; rfl
  have h := Any.strconv_Atoi Tryd.laysAtoi S ((dcN 0 l : Nat) : Int) (by omega) (by rw [hd]; exact atoi_dg hl h) w
  rw [fAtoi, tAtoi] at h
  refine h.mono ?_
  rintro e w' ⟨rfl, t, rfl⟩
  exact ⟨rfl, below_bytes w _ t⟩
/-- the signs of the digits -/
def hexCs : List UInt8 := [48, 49, 50, 51, 52, 53, 54, 55, 56, 57, 97, 98, 99, 100, 101, 102]
def decCs : List UInt8 := [48, 49, 50, 51, 52, 53, 54, 55, 56, 57]
/-- the pieces of a text -/
structure Prs (s t1 t2 whole t3 r part t4 t5 t6 power rest : List UInt8) (neg ok pt p down up : Bool) : Prop where
  h1 : t1 = Lib.trimPrefix s [45]
  n1 : neg = Lib.hasPrefix s [45]
  h2 : t2 = Lib.trimPrefix t1 [48, 120]
  n2 : ok = Lib.hasPrefix t1 [48, 120]
  hw : whole = t2.takeWhile (hexCs.contains ·)
  h3 : t3 = t2.dropWhile (hexCs.contains ·)
  hr : r = Lib.trimPrefix t3 [46]
  np : pt = Lib.hasPrefix t3 [46]
  hp : part = if pt = true then r.takeWhile (hexCs.contains ·) else []
  h4 : t4 = if pt = true then r.dropWhile (hexCs.contains ·) else t3
  h5 : t5 = Lib.trimPrefix t4 [112]
  n5 : p = Lib.hasPrefix t4 [112]
  nd : down = Lib.hasPrefix t5 [45]
  nu : up = Lib.hasPrefix t5 [43]
  h6 : t6 = if (down || up) = true then t5.drop 1 else t5
  hq : power = t6.takeWhile (decCs.contains ·)
  he : rest = t6.dropWhile (decCs.contains ·)
/-- a text that is not so -/
def prBad (whole part power rest : List UInt8) (ok p : Bool) : Bool := !ok || !p || (whole ++ part).isEmpty || power.isEmpty || decide (5 < power.length) || !rest.isEmpty
theorem takeW_mem {p : UInt8 → Bool} : ∀ {l : List UInt8} {c : UInt8}, c ∈ l.takeWhile p → p c = true
  | [], _, h => by simp at h
  | d :: l, c, h => by
    by_cases hd : p d = true
    · rw [List.takeWhile_cons_of_pos hd, List.mem_cons] at h
      rcases h with rfl | h
      · exact hd
      · exact takeW_mem h
    · rw [List.takeWhile_cons_of_neg hd] at h; simp at h
theorem dcN_lt : ∀ (l : List UInt8) (a : Nat), (∀ c ∈ l, dgt c) → dcN a l < (a + 1) * 10 ^ l.length := by
  intro l
  induction l with
  | nil => intro a _; show a < (a + 1) * 1; omega
  | cons c l ih =>
    intro a h
    have h1 := ih (a * 10 + (c.toNat - 48)) (fun d hd => h d (List.mem_cons_of_mem _ hd))
    have h2 := h c (List.mem_cons_self ..)
    unfold dgt at h2
    show dcN (a * 10 + (c.toNat - 48)) l < (a + 1) * 10 ^ (l.length + 1)
    have h3 : (a * 10 + (c.toNat - 48) + 1) * 10 ^ l.length ≤ ((a + 1) * 10) * 10 ^ l.length := Nat.mul_le_mul_right _ (by omega)
    have h4 : (a + 1) * 10 ^ (l.length + 1) = ((a + 1) * 10) * 10 ^ l.length := by rw [Nat.pow_succ, Nat.mul_comm (10 ^ l.length), Nat.mul_assoc]
    rw [h4]
    exact Nat.lt_of_lt_of_le h1 h3
theorem trimP_len (s p : List UInt8) : (Lib.trimPrefix s p).length ≤ s.length := by
  unfold Lib.trimPrefix; split
  · rw [List.length_drop]; omega
  · omega
theorem takeW_le {p : UInt8 → Bool} (l : List UInt8) : (l.takeWhile p).length ≤ l.length := (List.takeWhile_sublist p).length_le
theorem hasP_one {s : List UInt8} {c : UInt8} (h : Lib.hasPrefix s [c] = true) : 1 ≤ s.length := by
  cases s with
  | nil => simp [Lib.hasPrefix, List.isPrefixOf] at h
  | cons d l => simp
theorem empt (l : List UInt8) (S : ByteArray) (hS : S = ⟨l.toArray⟩) : S.toList.isEmpty = l.isEmpty := by rw [Lib.toList_data, hS]
/-- what parse tells -/
def RetPr (w : World) (bad neg : Bool) (d : List UInt8) (k : Int) (e : Ending) (w' : World) : Prop :=
  e = .returned (.tuple #[.bool (!bad && neg), .string ⟨(if bad = true then [] else d).toArray⟩, .int .i64 (if bad = true then 0 else k), .bool (!bad)]) ∧ Below w.heap.size w w'
set_option maxRecDepth 100000 in
set_option maxHeartbeats 16000000 in
theorem parse_any {s t1 t2 whole t3 r part t4 t5 t6 power rest : List UInt8} {neg ok pt p down up : Bool} (H : Prs s t1 t2 whole t3 r part t4 t5 t6 power rest neg ok pt p down up) (S : ByteArray) (hS : S = ⟨s.toArray⟩) (hsl : s.length ≤ 2000) (w : World) :
    Calls Tryd.prog 75 #[.string S] w (RetPr w (prBad whole part power rest ok p) neg (whole ++ part) ((if down = true then -((dcN 0 power : Nat) : Int) else ((dcN 0 power : Nat) : Int)) - 4 * (part.length : Int))) := by
  obtain ⟨h1, n1, h2, n2, hw, h3, hr, np, hp, h4, h5, n5, nd, nu, h6, hq, he⟩ := H
  have l1 := trimP_len s [45]
  have l2 := trimP_len t1 [48, 120]
  have l3 := dropW_len (p := (hexCs.contains ·)) t2
  have lw := takeW_le (p := (hexCs.contains ·)) t2
  have lr := trimP_len t3 [46]
  have lr1 := dropW_len (p := (hexCs.contains ·)) r
  have lr2 := takeW_le (p := (hexCs.contains ·)) r
  have l5 := trimP_len t4 [112]
  rw [← h1] at l1
  rw [← h2] at l2
  rw [← h3] at l3
  rw [← hw] at lw
  rw [← hr] at lr
  rw [← h5] at l5
  have lp : part.length ≤ r.length := by rw [hp]; split; exact lr2; simp
  have l4 : t4.length ≤ t3.length := by rw [h4]; split; omega; omega
  have hdg : ∀ c ∈ power, dgt c := by
    intro c hc
    rw [hq] at hc
    have := takeW_mem hc
    unfold decCs at this
    unfold dgt
    simp at this
    rcases this with rfl | rfl | rfl | rfl | rfl | rfl | rfl | rfl | rfl | rfl <;> decide
  obtain ⟨T1, e1⟩ : ∃ T : ByteArray, T = ⟨t1.toArray⟩ := ⟨_, rfl⟩
  obtain ⟨T2, e2⟩ : ∃ T : ByteArray, T = ⟨t2.toArray⟩ := ⟨_, rfl⟩
  obtain ⟨W, eW⟩ : ∃ T : ByteArray, T = ⟨whole.toArray⟩ := ⟨_, rfl⟩
  obtain ⟨T3, e3⟩ : ∃ T : ByteArray, T = ⟨t3.toArray⟩ := ⟨_, rfl⟩
  obtain ⟨Rr, eR⟩ : ∃ T : ByteArray, T = ⟨r.toArray⟩ := ⟨_, rfl⟩
  obtain ⟨PP, eP⟩ : ∃ T : ByteArray, T = ⟨part.toArray⟩ := ⟨_, rfl⟩
  obtain ⟨T4, e4⟩ : ∃ T : ByteArray, T = ⟨t4.toArray⟩ := ⟨_, rfl⟩
  obtain ⟨T5, e5⟩ : ∃ T : ByteArray, T = ⟨t5.toArray⟩ := ⟨_, rfl⟩
  obtain ⟨T6, e6⟩ : ∃ T : ByteArray, T = ⟨t6.toArray⟩ := ⟨_, rfl⟩
  obtain ⟨Q, eQ⟩ : ∃ T : ByteArray, T = ⟨power.toArray⟩ := ⟨_, rfl⟩
  obtain ⟨E, eE⟩ : ∃ T : ByteArray, T = ⟨rest.toArray⟩ := ⟨_, rfl⟩
  have C1 := Lib.hid (fun w' => cutPrefix_any s [45] S hS w')
  rw [← h1, ← n1, ← e1] at C1
  have C2 := Lib.hid (fun w' => cutPrefix_any t1 [48, 120] T1 e1 w')
  rw [← h2, ← n2, ← e2] at C2
  have C3 := Lib.hid (fun w' => take_any t2 T2 e2 hexCs ⟨#[48, 49, 50, 51, 52, 53, 54, 55, 56, 57, 97, 98, 99, 100, 101, 102]⟩ rfl (by decide) (by decide) (by omega) w')
  rw [← hw, ← h3, ← eW, ← e3] at C3
  have C4 := Lib.hid (fun w' => cutPrefix_any t3 [46] T3 e3 w')
  rw [← hr, ← np, ← eR] at C4
  have C5 := Lib.hid (fun w' => take_any r Rr eR hexCs ⟨#[48, 49, 50, 51, 52, 53, 54, 55, 56, 57, 97, 98, 99, 100, 101, 102]⟩ rfl (by decide) (by decide) (by omega) w')
  have C6 := Lib.hid (fun w' => cutPrefix_any t4 [112] T4 e4 w')
  rw [← h5, ← n5, ← e5] at C6
  have C7 := Lib.hid (fun w' => hasPrefix_any t5 [45] T5 e5 w')
  rw [← nd] at C7
  have C8 := Lib.hid (fun w' => hasPrefix_any t5 [43] T5 e5 w')
  rw [← nu] at C8
  have hl6 : t6.length ≤ 2000 := by rw [h6]; split; (rw [List.length_drop]; omega); omega
  have C9 := Lib.hid (fun w' => take_any t6 T6 e6 decCs ((⟨#[48, 49, 50, 51, 52, 53, 54, 55, 56, 57, 97, 98, 99, 100, 101, 102]⟩ : ByteArray).extract 0 10) (ba_left decCs [97, 98, 99, 100, 101, 102] 10 rfl) (by decide) (by decide) (by omega) w')
  rw [← hq, ← he, ← eQ, ← eE] at C9
  have CA := Lib.hid (fun w' (k1 : power ≠ []) (k2 : power.length ≤ 5) => atoi_any power Q eQ k1 hdg (by omega) w')
  have zW : W.size ≤ 2000 := by
    have : W.size = whole.length := by rw [eW]; rfl
    omega
  have zP : PP.size = part.length := by rw [eP]; rfl
  have zQ : Q.size = power.length := by rw [eQ]; rfl
  have z5 : T5.size = t5.length := by rw [e5]; rfl
  obtain ⟨WP, eWP⟩ : ∃ T : ByteArray, W ++ PP = T := ⟨_, rfl⟩
  have eWP2 : WP = ⟨(whole ++ part).toArray⟩ := by rw [← eWP]; exact ba_app _ _ eW eP
  have m1 := empt _ _ eWP2
  have m2 := empt _ _ eQ
  have m3 := empt _ _ eE
  have A5 : Hid (pt = true → ∀ w', Calls Tryd.prog 108 #[.string Rr, .string ⟨#[48, 49, 50, 51, 52, 53, 54, 55, 56, 57, 97, 98, 99, 100, 101, 102]⟩] w' fun e w2 => e = .returned (.tuple #[.string PP, .string T4]) ∧ Below w'.heap.size w' w2) := Lib.hid (fun h w' => by
    have k1 : part = r.takeWhile (hexCs.contains ·) := by rw [hp, if_pos h]
    have k2 : t4 = r.dropWhile (hexCs.contains ·) := by rw [h4, if_pos h]
    rw [eP, e4, k1, k2]; exact C5.out w')
  have A5' : Hid (pt = false → PP = ⟨#[]⟩ ∧ T4 = T3) := Lib.hid (fun h => by
    have k1 : part = [] := by rw [hp, h]; rfl
    have k2 : t4 = t3 := by rw [h4, h]; rfl
    exact ⟨by rw [eP, k1], by rw [e4, e3, k2]⟩)
  have A6 : Hid ((down || up) = true → (1 : Int) ≤ ((t5.length : Nat) : Int) ∧ T5.extract 1 t5.length = T6) := Lib.hid (fun h => by
    have k1 : 1 ≤ t5.length := by
      rcases Bool.or_eq_true _ _ ▸ h with k | k
      · exact hasP_one (nd.symm.trans k)
      · exact hasP_one (nu.symm.trans k)
    have k2 : t6 = t5.drop 1 := by rw [h6, if_pos h]
    refine ⟨by omega, ?_⟩
    rw [e6, k2, e5]
    apply ByteArray.ext
    simp [ByteArray.data_extract]
    exact List.take_of_length_le (by simp))
  have A6' : Hid ((down || up) = false → T6 = T5) := Lib.hid (fun h => by
    have k2 : t6 = t5 := by rw [h6, h]; rfl
    rw [e6, e5, k2])
  have hdn : Hid (power.length ≤ 5 → dcN 0 power ≤ 99999) := Lib.hid (fun h => by
    have k1 := dcN_lt power 0 hdg
    have k2 : (10 : Nat) ^ power.length ≤ 10 ^ 5 := Nat.pow_le_pow_right (by omega) h
    have k3 : (10 : Nat) ^ 5 = 100000 := by decide
    omega)
  have HNE : Hid (power.isEmpty = false → power ≠ []) := Lib.hid (fun h k => by rw [k] at h; simp at h)
  have HD : Hid (⟨(whole ++ part).toArray⟩ = WP) := Lib.hid eWP2.symm
  obtain ⟨bad, hbad⟩ : ∃ bad, bad = prBad whole part power rest ok p := ⟨_, rfl⟩
  unfold RetPr
  rw [← hbad]
  unfold prBad at hbad
  have B : Hid (Below w.heap.size w w) := Lib.hid (Below.refl _ _)
  generalize (whole ++ part).isEmpty = b1 at *
  generalize hb2 : power.isEmpty = b2 at *
  generalize rest.isEmpty = b4 at *
  generalize hql : power.length = ql at *
  generalize dcN 0 power = dn at *
  generalize t5.length = n5l at *
  generalize part.length = pl at *
  have hpl : pl ≤ 2000 := by omega
  clear h1 n1 h2 n2 hw h3 hr np hp h4 h5 n5 nd nu h6 hq he l1 l2 l3 lw lr lr1 lr2 l5 lp l4 hdg e1 e2 eW e3 eR eP e4 e5 e6 eQ eE hl6 hS eWP2 C5
  by_cases hgood : ok = true ∧ p = true ∧ b1 = false ∧ b2 = false ∧ ¬ 5 < ql ∧ b4 = true
  · obtain ⟨rfl, rfl, rfl, rfl, h5q, rfl⟩ := hgood
    obtain rfl : bad = false := by rw [hbad]; simp [h5q]
    replace CA := Lib.hid (fun w' => CA.out w' (HNE.out rfl) (by omega))
    have hdi := hdn.out (by omega)
    have hdi2 : (dn : Int) ≤ 99999 := by omega
    have hpi2 : (pl : Int) ≤ 2000 := by omega
    have hw1 : IntKind.i64.wrap (-(dn : Int)) = -(dn : Int) := IntWalk.i64_in _ (by omega)
    have hw2 : IntKind.i64.wrap (4 * (pl : Int)) = 4 * (pl : Int) := IntWalk.i64_in _ (by omega)
    have hw3 : IntKind.i64.wrap ((dn : Int) - 4 * (pl : Int)) = (dn : Int) - 4 * (pl : Int) := IntWalk.i64_in _ (by omega)
    have hw4 : IntKind.i64.wrap (-(dn : Int) - 4 * (pl : Int)) = -(dn : Int) - 4 * (pl : Int) := IntWalk.i64_in _ (by omega)
    clear hbad hdn hdi
    simp only [Bool.false_eq_true, if_false, Bool.not_false, Bool.true_and]
    cases pt
    all_goals first
      | (obtain ⟨rfl, rfl⟩ := A5'.out rfl; clear A5)
      | replace A5 := Lib.hid (A5.out rfl)
    all_goals
      cases down
      all_goals
        cases up
        all_goals first
          | (obtain rfl := A6'.out rfl; clear A6)
          | (obtain ⟨hx1, hx2⟩ := A6.out rfl; clear A6)
        all_goals
          go_enter Tryd.func75, Tryd.ntmps75
          go_wp2_with (first
            | (go_at_call 107; first
                | ((with_reducible refine (C1.out _).mono ?_); rintro e w1 ⟨rfl, rfl⟩)
                | ((with_reducible refine (C2.out _).mono ?_); rintro e w1 ⟨rfl, rfl⟩)
                | ((with_reducible refine (C4.out _).mono ?_); rintro e w1 ⟨rfl, rfl⟩)
                | ((with_reducible refine (C6.out _).mono ?_); rintro e w1 ⟨rfl, rfl⟩))
            | (go_at_call 108; first
                | ((with_reducible refine (C3.out _).mono ?_); rintro e w1 ⟨rfl, hb⟩; replace B : Hid (Below w.heap.size w w1) := Lib.hid (bl_thru B.out (Nat.le_refl _) hb); clear hb)
                | ((with_reducible refine (A5.out _).mono ?_); rintro e w1 ⟨rfl, hb⟩; replace B : Hid (Below w.heap.size w w1) := Lib.hid (bl_thru B.out (Nat.le_refl _) hb); clear hb)
                | ((with_reducible refine (C9.out _).mono ?_); rintro e w1 ⟨rfl, hb⟩; replace B : Hid (Below w.heap.size w w1) := Lib.hid (bl_thru B.out (Nat.le_refl _) hb); clear hb))
            | (go_at_call 109; first
                | ((with_reducible refine (C7.out _).mono ?_); rintro e w1 ⟨rfl, rfl⟩)
                | ((with_reducible refine (C8.out _).mono ?_); rintro e w1 ⟨rfl, rfl⟩))
            | (go_at_call 110; refine (CA.out _).mono ?_; rintro e w1 ⟨rfl, hb⟩; replace B : Hid (Below w.heap.size w w1) := Lib.hid (bl_thru B.out (Nat.le_refl _) hb); clear hb))
          refine bodyPost_ret (v := .tuple #[.bool neg, .string WP, .int .i64 _, .bool true]) (by simp [results, Tryd.results75, go_sem]; rfl) rfl ?_
          exact ⟨by rw [HD.out], B.out⟩
  · have hb6 : (!ok || !p || b1 || b2 || decide (5 < ql) || !b4) = true := by
      rcases Bool.eq_false_or_eq_true (!ok || !p || b1 || b2 || decide (5 < ql) || !b4) with h | h
      · exact h
      · exfalso; apply hgood; simpa [and_assoc] using h
    obtain rfl : bad = true := hbad.trans hb6
    clear hbad hdn hgood CA HNE HD
    simp only [if_true, Bool.not_true, Bool.false_and]
    cases pt
    all_goals first
      | (obtain ⟨rfl, rfl⟩ := A5'.out rfl; clear A5)
      | replace A5 := Lib.hid (A5.out rfl)
    all_goals
      cases down
      all_goals
        cases up
        all_goals first
          | (obtain rfl := A6'.out rfl; clear A6)
          | (obtain ⟨hx1, hx2⟩ := A6.out rfl; clear A6)
        all_goals
          go_enter Tryd.func75, Tryd.ntmps75
          go_wp2_with (first
            | (go_at_call 107; first
                | ((with_reducible refine (C1.out _).mono ?_); rintro e w1 ⟨rfl, rfl⟩)
                | ((with_reducible refine (C2.out _).mono ?_); rintro e w1 ⟨rfl, rfl⟩)
                | ((with_reducible refine (C4.out _).mono ?_); rintro e w1 ⟨rfl, rfl⟩)
                | ((with_reducible refine (C6.out _).mono ?_); rintro e w1 ⟨rfl, rfl⟩))
            | (go_at_call 108; first
                | ((with_reducible refine (C3.out _).mono ?_); rintro e w1 ⟨rfl, hb⟩; replace B : Hid (Below w.heap.size w w1) := Lib.hid (bl_thru B.out (Nat.le_refl _) hb); clear hb)
                | ((with_reducible refine (A5.out _).mono ?_); rintro e w1 ⟨rfl, hb⟩; replace B : Hid (Below w.heap.size w w1) := Lib.hid (bl_thru B.out (Nat.le_refl _) hb); clear hb)
                | ((with_reducible refine (C9.out _).mono ?_); rintro e w1 ⟨rfl, hb⟩; replace B : Hid (Below w.heap.size w w1) := Lib.hid (bl_thru B.out (Nat.le_refl _) hb); clear hb))
            | (go_at_call 109; first
                | ((with_reducible refine (C7.out _).mono ?_); rintro e w1 ⟨rfl, rfl⟩)
                | ((with_reducible refine (C8.out _).mono ?_); rintro e w1 ⟨rfl, rfl⟩))
            | (go_at_call 110; exfalso; have hq5 : decide (5 < ql) = false := (by rw [decide_eq_false_iff_not]; omega); rw [hq5] at hb6; clear m1 m2 m3 hb2 hql zQ zP z5 eWP hpl zW hsl; simp_all; done))
          all_goals first
            | (refine bodyPost_ret (v := .tuple #[.bool false, .string ⟨#[]⟩, .int .i64 0, .bool false]) (by simp [results, Tryd.results75, go_sem]; done) rfl ?_; exact ⟨rfl, B.out⟩)
            | (exfalso; have hq5 : decide (5 < ql) = false := (by rw [decide_eq_false_iff_not]; omega); rw [hq5] at hb6; clear m1 m2 m3 hb2 hql zQ zP z5 eWP hpl zW hsl; simp_all; done)
            | (exfalso; simp_all; done)
            | trace_state
end Go.Proofs.YtmpdbmaokbhcjaaDoor
