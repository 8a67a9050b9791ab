/-
  THE WALK of hex.parse.
-/
import Derived.Test.YtofdjfdnckmmmaaGreatDoorHm
import Derived.Test.YtofdjfdnckmmmaaGreatDoorFx
import Derived.Shelf.Small.Wraps
import Derived.Shelf.Strings.Prefix
import Derived.Shelf.Strconv.Atoi
import Derived.Lib.AtoiBound
set_option linter.unusedVariables false
set_option linter.unusedSimpArgs false
namespace Go.Proofs.YtofdjfdnckmmmaaGreatDoor
open Go.Shelf Go.RowKit Go.Lib Nt

def Tryz.laysCutPrefix_ren : Go.Shelf.Ren := ⟨fun | 103 => 45 | 210 => 76 | 206 => 91 | n => n, fun | 9 => 9 | 4 => 4 | 24 => 82 | 3 => 3 | n => n, fun | n => n⟩
theorem Tryz.laysCutPrefix : Go.Proofs.Lays.n103 Tryz.prog Tryz.laysCutPrefix_ren := {
  mixed := by kernel_rfl
  f103 := Tryz.func45.trans (congrArg some (by kernel_rfl))
  f206 := Tryz.func91.trans (congrArg some (by kernel_rfl))
  f210 := Tryz.func76.trans (congrArg some (by kernel_rfl))
  t3 := Tryz.underlying3
  a3 := Tryz.isAgg3
  z3 := Tryz.sizeOf3
  v3 := Tryz.zeroValue3
  t4 := Tryz.underlying4
  a4 := Tryz.isAgg4
  z4 := Tryz.sizeOf4
  v4 := Tryz.zeroValue4
  t9 := Tryz.underlying9
  a9 := Tryz.isAgg9
  z9 := Tryz.sizeOf9
  v9 := Tryz.zeroValue9
  t24 := Tryz.underlying82
  a24 := Tryz.isAgg82
  z24 := Tryz.sizeOf82
  v24 := Tryz.zeroValue82 }
def Tryz.laysHasPrefix_ren : Go.Shelf.Ren := ⟨fun | 99 => 55 | 206 => 91 | n => n, fun | 9 => 9 | 4 => 4 | 3 => 3 | n => n, fun | n => n⟩
theorem Tryz.laysHasPrefix : Go.Proofs.Lays.n99 Tryz.prog Tryz.laysHasPrefix_ren := {
  mixed := by kernel_rfl
  f99 := Tryz.func55.trans (congrArg some (by kernel_rfl))
  f206 := Tryz.func91.trans (congrArg some (by kernel_rfl))
  t3 := Tryz.underlying3
  a3 := Tryz.isAgg3
  z3 := Tryz.sizeOf3
  v3 := Tryz.zeroValue3
  t4 := Tryz.underlying4
  a4 := Tryz.isAgg4
  z4 := Tryz.sizeOf4
  v4 := Tryz.zeroValue4
  t9 := Tryz.underlying9
  a9 := Tryz.isAgg9
  z9 := Tryz.sizeOf9
  v9 := Tryz.zeroValue9 }
def Tryz.laysAtoi_ren : Go.Shelf.Ren := ⟨fun | 172 => 92 | 244 => 132 | 245 => 133 | 247 => 177 | 279 => 178 | 280 => 179 | 281 => 180 | 282 => 181 | 287 => 140 | 316 => 219 | 171 => 73 | 205 => 220 | 321 => 185 | 322 => 186 | 243 => 112 | 246 => 144 | 283 => 187 | 284 => 188 | 285 => 189 | 286 => 190 | 129 => 223 | 317 => 222 | 318 => 224 | 319 => 225 | 320 => 226 | 337 => 105 | 338 => 240 | n => n, fun | 9 => 9 | 3 => 3 | 75 => 42 | 76 => 43 | 4 => 4 | 5 => 5 | 167 => 189 | 37 => 37 | 0 => 0 | 85 => 190 | 2 => 2 | 168 => 192 | 53 => 24 | 175 => 145 | 46 => 89 | 210 => 231 | 127 => 79 | 145 => 251 | 143 => 249 | 21 => 21 | 171 => 202 | 173 => 204 | 212 => 234 | 51 => 102 | 20 => 20 | 213 => 235 | 232 => 177 | 233 => 257 | 80 => 48 | n => n, fun | 15 => 4 | 16 => 5 | 17 => 6 | 18 => 1 | 19 => 7 | n => n⟩
theorem Tryz.laysAtoi : Go.Proofs.Lays.n172 Tryz.prog Tryz.laysAtoi_ren := {
  mixed := by kernel_rfl
  f129 := Tryz.func223.trans (congrArg some (by kernel_rfl))
  f171 := Tryz.func73.trans (congrArg some (by kernel_rfl))
  f172 := Tryz.func92.trans (congrArg some (by kernel_rfl))
  f205 := Tryz.func220.trans (congrArg some (by kernel_rfl))
  f243 := Tryz.func112.trans (congrArg some (by kernel_rfl))
  f244 := Tryz.func132.trans (congrArg some (by kernel_rfl))
  f245 := Tryz.func133.trans (congrArg some (by kernel_rfl))
  f246 := Tryz.func144.trans (congrArg some (by kernel_rfl))
  f247 := Tryz.func177.trans (congrArg some (by kernel_rfl))
  f279 := Tryz.func178.trans (congrArg some (by kernel_rfl))
  f280 := Tryz.func179.trans (congrArg some (by kernel_rfl))
  f281 := Tryz.func180.trans (congrArg some (by kernel_rfl))
  f282 := Tryz.func181.trans (congrArg some (by kernel_rfl))
  f283 := Tryz.func187.trans (congrArg some (by kernel_rfl))
  f284 := Tryz.func188.trans (congrArg some (by kernel_rfl))
  f285 := Tryz.func189.trans (congrArg some (by kernel_rfl))
  f286 := Tryz.func190.trans (congrArg some (by kernel_rfl))
  f287 := Tryz.func140.trans (congrArg some (by kernel_rfl))
  f316 := Tryz.func219.trans (congrArg some (by kernel_rfl))
  f317 := Tryz.func222.trans (congrArg some (by kernel_rfl))
  f318 := Tryz.func224.trans (congrArg some (by kernel_rfl))
  f319 := Tryz.func225.trans (congrArg some (by kernel_rfl))
  f320 := Tryz.func226.trans (congrArg some (by kernel_rfl))
  f321 := Tryz.func185.trans (congrArg some (by kernel_rfl))
  f322 := Tryz.func186.trans (congrArg some (by kernel_rfl))
  f337 := Tryz.func105.trans (congrArg some (by kernel_rfl))
  f338 := Tryz.func240.trans (congrArg some (by kernel_rfl))
  t0 := Tryz.underlying0
  a0 := Tryz.isAgg0
  z0 := Tryz.sizeOf0
  v0 := Tryz.zeroValue0
  t2 := Tryz.underlying2
  a2 := Tryz.isAgg2
  z2 := Tryz.sizeOf2
  v2 := Tryz.zeroValue2
  t3 := Tryz.underlying3
  a3 := Tryz.isAgg3
  z3 := Tryz.sizeOf3
  v3 := Tryz.zeroValue3
  t4 := Tryz.underlying4
  a4 := Tryz.isAgg4
  z4 := Tryz.sizeOf4
  v4 := Tryz.zeroValue4
  t5 := Tryz.underlying5
  a5 := Tryz.isAgg5
  z5 := Tryz.sizeOf5
  v5 := Tryz.zeroValue5
  t9 := Tryz.underlying9
  a9 := Tryz.isAgg9
  z9 := Tryz.sizeOf9
  v9 := Tryz.zeroValue9
  t20 := Tryz.underlying20
  a20 := Tryz.isAgg20
  z20 := Tryz.sizeOf20
  v20 := Tryz.zeroValue20
  t21 := Tryz.underlying21
  a21 := Tryz.isAgg21
  z21 := Tryz.sizeOf21
  v21 := Tryz.zeroValue21
  t37 := Tryz.underlying37
  a37 := Tryz.isAgg37
  z37 := Tryz.sizeOf37
  v37 := Tryz.zeroValue37
  t46 := Tryz.underlying89
  a46 := Tryz.isAgg89
  z46 := Tryz.sizeOf89
  v46 := Tryz.zeroValue89
  t51 := Tryz.underlying102
  a51 := Tryz.isAgg102
  z51 := Tryz.sizeOf102
  v51 := Tryz.zeroValue102
  t53 := Tryz.underlying24
  a53 := Tryz.isAgg24
  z53 := Tryz.sizeOf24
  v53 := Tryz.zeroValue24
  t75 := Tryz.underlying42
  a75 := Tryz.isAgg42
  z75 := Tryz.sizeOf42
  v75 := Tryz.zeroValue42
  t76 := Tryz.underlying43
  a76 := Tryz.isAgg43
  z76 := Tryz.sizeOf43
  v76 := Tryz.zeroValue43
  t85 := Tryz.underlying190
  a85 := Tryz.isAgg190
  z85 := Tryz.sizeOf190
  v85 := Tryz.zeroValue190
  t127 := Tryz.underlying79
  a127 := Tryz.isAgg79
  z127 := Tryz.sizeOf79
  v127 := Tryz.zeroValue79
  t143 := Tryz.underlying249
  a143 := Tryz.isAgg249
  z143 := Tryz.sizeOf249
  v143 := Tryz.zeroValue249
  t145 := Tryz.underlying251
  a145 := Tryz.isAgg251
  z145 := Tryz.sizeOf251
  v145 := Tryz.zeroValue251
  t167 := Tryz.underlying189
  a167 := Tryz.isAgg189
  z167 := Tryz.sizeOf189
  v167 := Tryz.zeroValue189
  t168 := Tryz.underlying192
  a168 := Tryz.isAgg192
  z168 := Tryz.sizeOf192
  v168 := Tryz.zeroValue192
  t171 := Tryz.underlying202
  a171 := Tryz.isAgg202
  z171 := Tryz.sizeOf202
  v171 := Tryz.zeroValue202
  t173 := Tryz.underlying204
  a173 := Tryz.isAgg204
  z173 := Tryz.sizeOf204
  v173 := Tryz.zeroValue204
  t175 := Tryz.underlying145
  a175 := Tryz.isAgg145
  z175 := Tryz.sizeOf145
  v175 := Tryz.zeroValue145
  t210 := Tryz.underlying231
  a210 := Tryz.isAgg231
  z210 := Tryz.sizeOf231
  v210 := Tryz.zeroValue231
  t212 := Tryz.underlying234
  a212 := Tryz.isAgg234
  z212 := Tryz.sizeOf234
  v212 := Tryz.zeroValue234
  t213 := Tryz.underlying235
  a213 := Tryz.isAgg235
  z213 := Tryz.sizeOf235
  t232 := Tryz.underlying177
  a232 := Tryz.isAgg177
  z232 := Tryz.sizeOf177
  v232 := Tryz.zeroValue177
  t233 := Tryz.underlying257
  a233 := Tryz.isAgg257
  z233 := Tryz.sizeOf257
  v233 := Tryz.zeroValue257
  g15 := by kernel_rfl
  g16 := by kernel_rfl
  g17 := by kernel_rfl
  g18 := by kernel_rfl
  g19 := by kernel_rfl }
theorem fCutPrefix : Tryz.laysCutPrefix_ren.f 103 = 45 := by kernel_rfl
theorem fHasPrefix : Tryz.laysHasPrefix_ren.f 99 = 55 := by kernel_rfl
theorem fAtoi : Tryz.laysAtoi_ren.f 172 = 92 := by kernel_rfl
theorem tAtoi : Tryz.laysAtoi_ren.t 5 = 5 := by kernel_rfl
theorem cutPrefix_any (s p : List UInt8) (S : ByteArray) (hS : S = ⟨s.toArray⟩) (w : World) :
    Calls Tryz.prog 45 #[.string S, .string ⟨p.toArray⟩] w fun e w' => e = .returned (.tuple #[.string ⟨(Lib.trimPrefix s p).toArray⟩, .bool (Lib.hasPrefix s p)]) ∧ w = w' := by
  have h := Any.strings_CutPrefix Tryz.laysCutPrefix S ⟨p.toArray⟩ w
  rw [fCutPrefix] at h
  rw [hS] at h ⊢
  exact h.mono fun e w' k => ⟨k.1, k.2.symm⟩
theorem hasPrefix_any (s p : List UInt8) (S : ByteArray) (hS : S = ⟨s.toArray⟩) (w : World) :
    Calls Tryz.prog 55 #[.string S, .string ⟨p.toArray⟩] w fun e w' => e = .returned (.bool (Lib.hasPrefix s p)) ∧ w = w' := by
  have h := Any.strings_HasPrefix Tryz.laysHasPrefix S ⟨p.toArray⟩ w
  rw [fHasPrefix] at h
  rw [hS] at h ⊢
  exact h.mono fun e w' k => ⟨k.1, k.2.symm⟩
/-- a number in tens -/
def dcN (a : Nat) : List UInt8 → Nat
  | [] => a
  | c :: l => dcN (a * 10 + (c.toNat - 48)) l
theorem dec_from : ∀ (l : List UInt8) (a : Nat), (∀ c ∈ l, dgt c) → Lib.decFrom a l = some (dcN a l)
  | [], a, _ => rfl
  | c :: l, a, h => by
    have hc := h c (by simp)
    unfold dgt at hc
    have hd : Lib.digitVal c = some (c.toNat - 48) := by unfold Lib.digitVal; simp [hc.1, hc.2]
    rw [Lib.decFrom, hd]
    exact dec_from l _ (fun d hd => h d (by simp [hd]))
theorem atoi_dg {l : List UInt8} (hl : l ≠ []) (h : ∀ c ∈ l, dgt c) : Lib.atoi l = some ((dcN 0 l : Nat) : Int) := by
  cases l with
  | nil => exact absurd rfl hl
  | cons c r =>
    have hc := h c (by simp)
    have h1 : (c == 45) = false := by rw [beq_eq_false_iff_ne]; exact (dgt_not hc).2.2
    have h2 : (c == 43) = false := by rw [beq_eq_false_iff_ne]; intro e; subst e; revert hc; unfold dgt; decide
    have h3 : Lib.decNat (c :: r) = some (dcN 0 (c :: r)) := by
      rw [show Lib.decNat (c :: r) = Lib.decFrom 0 (c :: r) from rfl, dec_from _ 0 h]
    simp [Lib.atoi, h1, h2, h3]
theorem atoi_any (l : List UInt8) (S : ByteArray) (hS : S = ⟨l.toArray⟩) (hl : l ≠ []) (h : ∀ c ∈ l, dgt c) (h18 : l.length ≤ 18) (w : World) :
    Calls Tryz.prog 92 #[.string S] w fun e w' => e = .returned (.tuple #[.int .i64 ((dcN 0 l : Nat) : Int), .nilIface]) ∧ Below w.heap.size w w' := by
  have hd : S.data.toList = l := by rw [hS]
  have hz : S.size = l.length := by rw [hS]; rfl
  have h := Any.strconv_Atoi Tryz.laysAtoi S ((dcN 0 l : Nat) : Int) (by omega) (by rw [hd]; exact atoi_dg hl h) w
  rw [fAtoi, tAtoi] at h
  refine h.mono ?_
  rintro e w' ⟨rfl, t, rfl⟩
  exact ⟨rfl, below_bytes w _ t⟩
/-- the signs of the digits -/
def hexCs : List UInt8 := [48, 49, 50, 51, 52, 53, 54, 55, 56, 57, 97, 98, 99, 100, 101, 102]
def decCs : List UInt8 := [48, 49, 50, 51, 52, 53, 54, 55, 56, 57]
/-- the pieces of a text -/
structure Prs (s t1 t2 whole t3 r part t4 t5 t6 power rest : List UInt8) (neg ok pt p down up : Bool) : Prop where
  h1 : t1 = Lib.trimPrefix s [45]
  n1 : neg = Lib.hasPrefix s [45]
  h2 : t2 = Lib.trimPrefix t1 [48, 120]
  n2 : ok = Lib.hasPrefix t1 [48, 120]
  hw : whole = t2.takeWhile (hexCs.contains ·)
  h3 : t3 = t2.dropWhile (hexCs.contains ·)
  hr : r = Lib.trimPrefix t3 [46]
  np : pt = Lib.hasPrefix t3 [46]
  hp : part = if pt = true then r.takeWhile (hexCs.contains ·) else []
  h4 : t4 = if pt = true then r.dropWhile (hexCs.contains ·) else t3
  h5 : t5 = Lib.trimPrefix t4 [112]
  n5 : p = Lib.hasPrefix t4 [112]
  nd : down = Lib.hasPrefix t5 [45]
  nu : up = Lib.hasPrefix t5 [43]
  h6 : t6 = if (down || up) = true then t5.drop 1 else t5
  hq : power = t6.takeWhile (decCs.contains ·)
  he : rest = t6.dropWhile (decCs.contains ·)
/-- a text that is not so -/
def prBad (whole part power rest : List UInt8) (ok p : Bool) : Bool := !ok || !p || (whole ++ part).isEmpty || power.isEmpty || decide (5 < power.length) || !rest.isEmpty
theorem takeW_mem {p : UInt8 → Bool} : ∀ {l : List UInt8} {c : UInt8}, c ∈ l.takeWhile p → p c = true
  | [], _, h => by simp at h
  | d :: l, c, h => by
    by_cases hd : p d = true
    · rw [List.takeWhile_cons_of_pos hd, List.mem_cons] at h
      rcases h with rfl | h
      · exact hd
      · exact takeW_mem h
    · rw [List.takeWhile_cons_of_neg hd] at h; simp at h
theorem dcN_lt : ∀ (l : List UInt8) (a : Nat), (∀ c ∈ l, dgt c) → dcN a l < (a + 1) * 10 ^ l.length := by
  intro l
  induction l with
  | nil => intro a _; show a < (a + 1) * 1; omega
  | cons c l ih =>
    intro a h
    have h1 := ih (a * 10 + (c.toNat - 48)) (fun d hd => h d (List.mem_cons_of_mem _ hd))
    have h2 := h c (List.mem_cons_self ..)
    unfold dgt at h2
    show dcN (a * 10 + (c.toNat - 48)) l < (a + 1) * 10 ^ (l.length + 1)
    have h3 : (a * 10 + (c.toNat - 48) + 1) * 10 ^ l.length ≤ ((a + 1) * 10) * 10 ^ l.length := Nat.mul_le_mul_right _ (by omega)
    have h4 : (a + 1) * 10 ^ (l.length + 1) = ((a + 1) * 10) * 10 ^ l.length := by rw [Nat.pow_succ, Nat.mul_comm (10 ^ l.length), Nat.mul_assoc]
    rw [h4]
    exact Nat.lt_of_lt_of_le h1 h3
theorem trimP_len (s p : List UInt8) : (Lib.trimPrefix s p).length ≤ s.length := by
  unfold Lib.trimPrefix; split
  · rw [List.length_drop]; omega
  · omega
theorem takeW_le {p : UInt8 → Bool} (l : List UInt8) : (l.takeWhile p).length ≤ l.length := (List.takeWhile_sublist p).length_le
theorem hasP_one {s : List UInt8} {c : UInt8} (h : Lib.hasPrefix s [c] = true) : 1 ≤ s.length := by
  cases s with
  | nil => simp [Lib.hasPrefix, List.isPrefixOf] at h
  | cons d l => simp
theorem empt (l : List UInt8) (S : ByteArray) (hS : S = ⟨l.toArray⟩) : S.toList.isEmpty = l.isEmpty := by rw [Lib.toList_data, hS]
/-- what parse tells -/
def RetPr (w : World) (bad neg : Bool) (d : List UInt8) (k : Int) (e : Ending) (w' : World) : Prop :=
  e = .returned (.tuple #[.bool (!bad && neg), .string ⟨(if bad = true then [] else d).toArray⟩, .int .i64 (if bad = true then 0 else k), .bool (!bad)]) ∧ Below w.heap.size w w'
set_option maxRecDepth 100000 in
set_option maxHeartbeats 16000000 in
theorem parse_any {s t1 t2 whole t3 r part t4 t5 t6 power rest : List UInt8} {neg ok pt p down up : Bool} (H : Prs s t1 t2 whole t3 r part t4 t5 t6 power rest neg ok pt p down up) (S : ByteArray) (hS : S = ⟨s.toArray⟩) (hsl : s.length ≤ 2000) (w : World) :
    Calls Tryz.prog 216 #[.string S] w (RetPr w (prBad whole part power rest ok p) neg (whole ++ part) ((if down = true then -((dcN 0 power : Nat) : Int) else ((dcN 0 power : Nat) : Int)) - 4 * (part.length : Int))) := by
  obtain ⟨h1, n1, h2, n2, hw, h3, hr, np, hp, h4, h5, n5, nd, nu, h6, hq, he⟩ := H
  have l1 := trimP_len s [45]
  have l2 := trimP_len t1 [48, 120]
  have l3 := dropW_len (p := (hexCs.contains ·)) t2
  have lw := takeW_le (p := (hexCs.contains ·)) t2
  have lr := trimP_len t3 [46]
  have lr1 := dropW_len (p := (hexCs.contains ·)) r
  have lr2 := takeW_le (p := (hexCs.contains ·)) r
  have l5 := trimP_len t4 [112]
  rw [← h1] at l1
  rw [← h2] at l2
  rw [← h3] at l3
  rw [← hw] at lw
  rw [← hr] at lr
  rw [← h5] at l5
  have lp : part.length ≤ r.length := by rw [hp]; split; exact lr2; simp
  have l4 : t4.length ≤ t3.length := by rw [h4]; split; omega; omega
  have hdg : ∀ c ∈ power, dgt c := by
    intro c hc
    rw [hq] at hc
    have := takeW_mem hc
    unfold decCs at this
    unfold dgt
    simp at this
    rcases this with rfl | rfl | rfl | rfl | rfl | rfl | rfl | rfl | rfl | rfl <;> decide
  obtain ⟨T1, e1⟩ : ∃ T : ByteArray, T = ⟨t1.toArray⟩ := ⟨_, rfl⟩
  obtain ⟨T2, e2⟩ : ∃ T : ByteArray, T = ⟨t2.toArray⟩ := ⟨_, rfl⟩
  obtain ⟨W, eW⟩ : ∃ T : ByteArray, T = ⟨whole.toArray⟩ := ⟨_, rfl⟩
  obtain ⟨T3, e3⟩ : ∃ T : ByteArray, T = ⟨t3.toArray⟩ := ⟨_, rfl⟩
  obtain ⟨Rr, eR⟩ : ∃ T : ByteArray, T = ⟨r.toArray⟩ := ⟨_, rfl⟩
  obtain ⟨PP, eP⟩ : ∃ T : ByteArray, T = ⟨part.toArray⟩ := ⟨_, rfl⟩
  obtain ⟨T4, e4⟩ : ∃ T : ByteArray, T = ⟨t4.toArray⟩ := ⟨_, rfl⟩
  obtain ⟨T5, e5⟩ : ∃ T : ByteArray, T = ⟨t5.toArray⟩ := ⟨_, rfl⟩
  obtain ⟨T6, e6⟩ : ∃ T : ByteArray, T = ⟨t6.toArray⟩ := ⟨_, rfl⟩
  obtain ⟨Q, eQ⟩ : ∃ T : ByteArray, T = ⟨power.toArray⟩ := ⟨_, rfl⟩
  obtain ⟨E, eE⟩ : ∃ T : ByteArray, T = ⟨rest.toArray⟩ := ⟨_, rfl⟩
  have C1 := Lib.hid (fun w' => cutPrefix_any s [45] S hS w')
  rw [← h1, ← n1, ← e1] at C1
  have C2 := Lib.hid (fun w' => cutPrefix_any t1 [48, 120] T1 e1 w')
  rw [← h2, ← n2, ← e2] at C2
  have C3 := Lib.hid (fun w' => take_any t2 T2 e2 hexCs ⟨#[48, 49, 50, 51, 52, 53, 54, 55, 56, 57, 97, 98, 99, 100, 101, 102]⟩ rfl (by decide) (by decide) (by omega) w')
  rw [← hw, ← h3, ← eW, ← e3] at C3
  have C4 := Lib.hid (fun w' => cutPrefix_any t3 [46] T3 e3 w')
  rw [← hr, ← np, ← eR] at C4
  have C5 := Lib.hid (fun w' => take_any r Rr eR hexCs ⟨#[48, 49, 50, 51, 52, 53, 54, 55, 56, 57, 97, 98, 99, 100, 101, 102]⟩ rfl (by decide) (by decide) (by omega) w')
  have C6 := Lib.hid (fun w' => cutPrefix_any t4 [112] T4 e4 w')
  rw [← h5, ← n5, ← e5] at C6
  have C7 := Lib.hid (fun w' => hasPrefix_any t5 [45] T5 e5 w')
  rw [← nd] at C7
  have C8 := Lib.hid (fun w' => hasPrefix_any t5 [43] T5 e5 w')
  rw [← nu] at C8
  have hl6 : t6.length ≤ 2000 := by rw [h6]; split; (rw [List.length_drop]; omega); omega
  have C9 := Lib.hid (fun w' => take_any t6 T6 e6 decCs ((⟨#[48, 49, 50, 51, 52, 53, 54, 55, 56, 57, 97, 98, 99, 100, 101, 102]⟩ : ByteArray).extract 0 10) (ba_left decCs [97, 98, 99, 100, 101, 102] 10 rfl) (by decide) (by decide) (by omega) w')
  rw [← hq, ← he, ← eQ, ← eE] at C9
  have CA := Lib.hid (fun w' (k1 : power ≠ []) (k2 : power.length ≤ 5) => atoi_any power Q eQ k1 hdg (by omega) w')
  have zW : W.size ≤ 2000 := by
    have : W.size = whole.length := by rw [eW]; rfl
    omega
  have zP : PP.size = part.length := by rw [eP]; rfl
  have zQ : Q.size = power.length := by rw [eQ]; rfl
  have z5 : T5.size = t5.length := by rw [e5]; rfl
  obtain ⟨WP, eWP⟩ : ∃ T : ByteArray, W ++ PP = T := ⟨_, rfl⟩
  have eWP2 : WP = ⟨(whole ++ part).toArray⟩ := by rw [← eWP]; exact ba_app _ _ eW eP
  have m1 := empt _ _ eWP2
  have m2 := empt _ _ eQ
  have m3 := empt _ _ eE
  have A5 : Hid (pt = true → ∀ w', Calls Tryz.prog 238 #[.string Rr, .string ⟨#[48, 49, 50, 51, 52, 53, 54, 55, 56, 57, 97, 98, 99, 100, 101, 102]⟩] w' fun e w2 => e = .returned (.tuple #[.string PP, .string T4]) ∧ Below w'.heap.size w' w2) := Lib.hid (fun h w' => by
    have k1 : part = r.takeWhile (hexCs.contains ·) := by rw [hp, if_pos h]
    have k2 : t4 = r.dropWhile (hexCs.contains ·) := by rw [h4, if_pos h]
    rw [eP, e4, k1, k2]; exact C5.out w')
  have A5' : Hid (pt = false → PP = ⟨#[]⟩ ∧ T4 = T3) := Lib.hid (fun h => by
    have k1 : part = [] := by rw [hp, h]; rfl
    have k2 : t4 = t3 := by rw [h4, h]; rfl
    exact ⟨by rw [eP, k1], by rw [e4, e3, k2]⟩)
  have A6 : Hid ((down || up) = true → (1 : Int) ≤ ((t5.length : Nat) : Int) ∧ T5.extract 1 t5.length = T6) := Lib.hid (fun h => by
    have k1 : 1 ≤ t5.length := by
      rcases Bool.or_eq_true _ _ ▸ h with k | k
      · exact hasP_one (nd.symm.trans k)
      · exact hasP_one (nu.symm.trans k)
    have k2 : t6 = t5.drop 1 := by rw [h6, if_pos h]
    refine ⟨by omega, ?_⟩
    rw [e6, k2, e5]
    apply ByteArray.ext
    simp [ByteArray.data_extract]
    exact List.take_of_length_le (by simp))
  have A6' : Hid ((down || up) = false → T6 = T5) := Lib.hid (fun h => by
    have k2 : t6 = t5 := by rw [h6, h]; rfl
    rw [e6, e5, k2])
  have hdn : Hid (power.length ≤ 5 → dcN 0 power ≤ 99999) := Lib.hid (fun h => by
    have k1 := dcN_lt power 0 hdg
    have k2 : (10 : Nat) ^ power.length ≤ 10 ^ 5 := Nat.pow_le_pow_right (by omega) h
    have k3 : (10 : Nat) ^ 5 = 100000 := by decide
    omega)
  have HNE : Hid (power.isEmpty = false → power ≠ []) := Lib.hid (fun h k => by rw [k] at h; simp at h)
  have HD : Hid (⟨(whole ++ part).toArray⟩ = WP) := Lib.hid eWP2.symm
  obtain ⟨bad, hbad⟩ : ∃ bad, bad = prBad whole part power rest ok p := ⟨_, rfl⟩
  unfold RetPr
  rw [← hbad]
  unfold prBad at hbad
  have B : Hid (Below w.heap.size w w) := Lib.hid (Below.refl _ _)
  generalize (whole ++ part).isEmpty = b1 at *
  generalize hb2 : power.isEmpty = b2 at *
  generalize rest.isEmpty = b4 at *
  generalize hql : power.length = ql at *
  generalize dcN 0 power = dn at *
  generalize t5.length = n5l at *
  generalize part.length = pl at *
  have hpl : pl ≤ 2000 := by omega
  clear h1 n1 h2 n2 hw h3 hr np hp h4 h5 n5 nd nu h6 hq he l1 l2 l3 lw lr lr1 lr2 l5 lp l4 hdg e1 e2 eW e3 eR eP e4 e5 e6 eQ eE hl6 hS eWP2 C5
  by_cases hgood : ok = true ∧ p = true ∧ b1 = false ∧ b2 = false ∧ ¬ 5 < ql ∧ b4 = true
  · obtain ⟨rfl, rfl, rfl, rfl, h5q, rfl⟩ := hgood
    obtain rfl : bad = false := by rw [hbad]; simp [h5q]
    replace CA := Lib.hid (fun w' => CA.out w' (HNE.out rfl) (by omega))
    have hdi := hdn.out (by omega)
    have hdi2 : (dn : Int) ≤ 99999 := by omega
    have hpi2 : (pl : Int) ≤ 2000 := by omega
    have hw1 : IntKind.i64.wrap (-(dn : Int)) = -(dn : Int) := IntWalk.i64_in _ (by omega)
    have hw2 : IntKind.i64.wrap (4 * (pl : Int)) = 4 * (pl : Int) := IntWalk.i64_in _ (by omega)
    have hw3 : IntKind.i64.wrap ((dn : Int) - 4 * (pl : Int)) = (dn : Int) - 4 * (pl : Int) := IntWalk.i64_in _ (by omega)
    have hw4 : IntKind.i64.wrap (-(dn : Int) - 4 * (pl : Int)) = -(dn : Int) - 4 * (pl : Int) := IntWalk.i64_in _ (by omega)
    clear hbad hdn hdi
    simp only [Bool.false_eq_true, if_false, Bool.not_false, Bool.true_and]
    cases pt
    all_goals first
      | (obtain ⟨rfl, rfl⟩ := A5'.out rfl; clear A5)
      | replace A5 := Lib.hid (A5.out rfl)
    all_goals
      cases down
      all_goals
        cases up
        all_goals first
          | (obtain rfl := A6'.out rfl; clear A6)
          | (obtain ⟨hx1, hx2⟩ := A6.out rfl; clear A6)
        all_goals
          go_enter Tryz.func216, Tryz.ntmps216
          go_wp2_with (first
            | (go_at_call 45; first
                | ((with_reducible refine (C1.out _).mono ?_); rintro e w1 ⟨rfl, rfl⟩)
                | ((with_reducible refine (C2.out _).mono ?_); rintro e w1 ⟨rfl, rfl⟩)
                | ((with_reducible refine (C4.out _).mono ?_); rintro e w1 ⟨rfl, rfl⟩)
                | ((with_reducible refine (C6.out _).mono ?_); rintro e w1 ⟨rfl, rfl⟩))
            | (go_at_call 238; first
                | ((with_reducible refine (C3.out _).mono ?_); rintro e w1 ⟨rfl, hb⟩; replace B : Hid (Below w.heap.size w w1) := Lib.hid (bl_thru B.out (Nat.le_refl _) hb); clear hb)
                | ((with_reducible refine (A5.out _).mono ?_); rintro e w1 ⟨rfl, hb⟩; replace B : Hid (Below w.heap.size w w1) := Lib.hid (bl_thru B.out (Nat.le_refl _) hb); clear hb)
                | ((with_reducible refine (C9.out _).mono ?_); rintro e w1 ⟨rfl, hb⟩; replace B : Hid (Below w.heap.size w w1) := Lib.hid (bl_thru B.out (Nat.le_refl _) hb); clear hb))
            | (go_at_call 55; first
                | ((with_reducible refine (C7.out _).mono ?_); rintro e w1 ⟨rfl, rfl⟩)
                | ((with_reducible refine (C8.out _).mono ?_); rintro e w1 ⟨rfl, rfl⟩))
            | (go_at_call 92; refine (CA.out _).mono ?_; rintro e w1 ⟨rfl, hb⟩; replace B : Hid (Below w.heap.size w w1) := Lib.hid (bl_thru B.out (Nat.le_refl _) hb); clear hb))
          refine bodyPost_ret (v := .tuple #[.bool neg, .string WP, .int .i64 _, .bool true]) (by simp [results, Tryz.results216, go_sem]; rfl) rfl ?_
          exact ⟨by rw [HD.out], B.out⟩
  · have hb6 : (!ok || !p || b1 || b2 || decide (5 < ql) || !b4) = true := by
      rcases Bool.eq_false_or_eq_true (!ok || !p || b1 || b2 || decide (5 < ql) || !b4) with h | h
      · exact h
      · exfalso; apply hgood; simpa [and_assoc] using h
    obtain rfl : bad = true := hbad.trans hb6
    clear hbad hdn hgood CA HNE HD
    simp only [if_true, Bool.not_true, Bool.false_and]
    cases pt
    all_goals first
      | (obtain ⟨rfl, rfl⟩ := A5'.out rfl; clear A5)
      | replace A5 := Lib.hid (A5.out rfl)
    all_goals
      cases down
      all_goals
        cases up
        all_goals first
          | (obtain rfl := A6'.out rfl; clear A6)
          | (obtain ⟨hx1, hx2⟩ := A6.out rfl; clear A6)
        all_goals
          go_enter Tryz.func216, Tryz.ntmps216
          go_wp2_with (first
            | (go_at_call 45; first
                | ((with_reducible refine (C1.out _).mono ?_); rintro e w1 ⟨rfl, rfl⟩)
                | ((with_reducible refine (C2.out _).mono ?_); rintro e w1 ⟨rfl, rfl⟩)
                | ((with_reducible refine (C4.out _).mono ?_); rintro e w1 ⟨rfl, rfl⟩)
                | ((with_reducible refine (C6.out _).mono ?_); rintro e w1 ⟨rfl, rfl⟩))
            | (go_at_call 238; first
                | ((with_reducible refine (C3.out _).mono ?_); rintro e w1 ⟨rfl, hb⟩; replace B : Hid (Below w.heap.size w w1) := Lib.hid (bl_thru B.out (Nat.le_refl _) hb); clear hb)
                | ((with_reducible refine (A5.out _).mono ?_); rintro e w1 ⟨rfl, hb⟩; replace B : Hid (Below w.heap.size w w1) := Lib.hid (bl_thru B.out (Nat.le_refl _) hb); clear hb)
                | ((with_reducible refine (C9.out _).mono ?_); rintro e w1 ⟨rfl, hb⟩; replace B : Hid (Below w.heap.size w w1) := Lib.hid (bl_thru B.out (Nat.le_refl _) hb); clear hb))
            | (go_at_call 55; first
                | ((with_reducible refine (C7.out _).mono ?_); rintro e w1 ⟨rfl, rfl⟩)
                | ((with_reducible refine (C8.out _).mono ?_); rintro e w1 ⟨rfl, rfl⟩))
            | (go_at_call 92; exfalso; have hq5 : decide (5 < ql) = false := (by rw [decide_eq_false_iff_not]; omega); rw [hq5] at hb6; clear m1 m2 m3 hb2 hql zQ zP z5 eWP hpl zW hsl; simp_all; done))
          all_goals first
            | (refine bodyPost_ret (v := .tuple #[.bool false, .string ⟨#[]⟩, .int .i64 0, .bool false]) (by simp [results, Tryz.results216, go_sem]; done) rfl ?_; exact ⟨rfl, B.out⟩)
            | (exfalso; have hq5 : decide (5 < ql) = false := (by rw [decide_eq_false_iff_not]; omega); rw [hq5] at hb6; clear m1 m2 m3 hb2 hql zQ zP z5 eWP hpl zW hsl; simp_all; done)
            | (exfalso; simp_all; done)
            | trace_state
end Go.Proofs.YtofdjfdnckmmmaaGreatDoor
