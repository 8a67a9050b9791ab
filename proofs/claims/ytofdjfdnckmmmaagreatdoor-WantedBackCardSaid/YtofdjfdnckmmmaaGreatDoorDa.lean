/-
  THE WALKS of nat.Decimal, nat.Text.
-/
import Derived.Test.YtofdjfdnckmmmaaGreatDoorNs
import Derived.Test.YtofdjfdnckmmmaaGreatDoorBd
import Derived.Test.YtofdjfdnckmmmaaGreatDoorNa
import Derived.Test.YtofdjfdnckmmmaaGreatDoorRs
import Derived.Test.YtofdjfdnckmmmaaGreatDoorDe
import Derived.Shelf.Strconv.Itoa3
import Derived.Shelf.Strings.Repeat
import Derived.Shelf.Strings.OnBuilder
import Derived.Shelf.GgClosure.Gives
import Derived.Shelf.Lay
import Derived.Ground.NamesProg
import Derived.Lib.LaidTab
import Derived.Deep.RegionHeld3
import Derived.Deep.AppendLies
import Derived.Lib.ItoaMem
set_option linter.unusedVariables false
set_option linter.unusedSimpArgs false
namespace Go.Proofs.YtofdjfdnckmmmaaGreatDoor
open Go.Shelf Go.RowKit Go.Lib Go.Sort Nt

def Tryz.laysItoa_ren : Go.Shelf.Ren := ⟨fun | 171 => 73 | 243 => 112 | 246 => 144 | 283 => 187 | 284 => 188 | 285 => 189 | 286 => 190 | 129 => 223 | 317 => 222 | 318 => 224 | 319 => 225 | 320 => 226 | 337 => 105 | 338 => 240 | n => n, fun | 3 => 3 | 9 => 9 | 2 => 2 | 4 => 4 | 171 => 202 | 0 => 0 | 53 => 24 | 37 => 37 | 5 => 5 | 173 => 204 | 212 => 234 | 51 => 102 | 20 => 20 | 213 => 235 | 46 => 89 | 232 => 177 | 233 => 257 | n => n, fun | 17 => 6 | 18 => 1 | 19 => 7 | n => n⟩
theorem Tryz.laysItoa : Go.Proofs.LaysM.n171 Tryz.prog Tryz.laysItoa_ren := {
  mixed := by kernel_rfl
  f129 := Tryz.func223.trans (congrArg some (by kernel_rfl))
  f171 := Tryz.func73.trans (congrArg some (by kernel_rfl))
  f243 := Tryz.func112.trans (congrArg some (by kernel_rfl))
  f246 := Tryz.func144.trans (congrArg some (by kernel_rfl))
  f283 := Tryz.func187.trans (congrArg some (by kernel_rfl))
  f284 := Tryz.func188.trans (congrArg some (by kernel_rfl))
  f285 := Tryz.func189.trans (congrArg some (by kernel_rfl))
  f286 := Tryz.func190.trans (congrArg some (by kernel_rfl))
  f317 := Tryz.func222.trans (congrArg some (by kernel_rfl))
  f318 := Tryz.func224.trans (congrArg some (by kernel_rfl))
  f319 := Tryz.func225.trans (congrArg some (by kernel_rfl))
  f320 := Tryz.func226.trans (congrArg some (by kernel_rfl))
  f337 := Tryz.func105.trans (congrArg some (by kernel_rfl))
  f338 := Tryz.func240.trans (congrArg some (by kernel_rfl))
  t0 := Tryz.underlying0
  a0 := Tryz.isAgg0
  z0 := Tryz.sizeOf0
  v0 := Tryz.zeroValue0
  t2 := Tryz.underlying2
  a2 := Tryz.isAgg2
  z2 := Tryz.sizeOf2
  v2 := Tryz.zeroValue2
  t3 := Tryz.underlying3
  a3 := Tryz.isAgg3
  z3 := Tryz.sizeOf3
  v3 := Tryz.zeroValue3
  t4 := Tryz.underlying4
  a4 := Tryz.isAgg4
  z4 := Tryz.sizeOf4
  v4 := Tryz.zeroValue4
  t5 := Tryz.underlying5
  a5 := Tryz.isAgg5
  z5 := Tryz.sizeOf5
  v5 := Tryz.zeroValue5
  t9 := Tryz.underlying9
  a9 := Tryz.isAgg9
  z9 := Tryz.sizeOf9
  v9 := Tryz.zeroValue9
  t20 := Tryz.underlying20
  a20 := Tryz.isAgg20
  z20 := Tryz.sizeOf20
  v20 := Tryz.zeroValue20
  t37 := Tryz.underlying37
  a37 := Tryz.isAgg37
  z37 := Tryz.sizeOf37
  v37 := Tryz.zeroValue37
  t46 := Tryz.underlying89
  a46 := Tryz.isAgg89
  z46 := Tryz.sizeOf89
  v46 := Tryz.zeroValue89
  t51 := Tryz.underlying102
  a51 := Tryz.isAgg102
  z51 := Tryz.sizeOf102
  v51 := Tryz.zeroValue102
  t53 := Tryz.underlying24
  a53 := Tryz.isAgg24
  z53 := Tryz.sizeOf24
  v53 := Tryz.zeroValue24
  t171 := Tryz.underlying202
  a171 := Tryz.isAgg202
  z171 := Tryz.sizeOf202
  v171 := Tryz.zeroValue202
  t173 := Tryz.underlying204
  a173 := Tryz.isAgg204
  z173 := Tryz.sizeOf204
  v173 := Tryz.zeroValue204
  t212 := Tryz.underlying234
  a212 := Tryz.isAgg234
  z212 := Tryz.sizeOf234
  v212 := Tryz.zeroValue234
  t213 := Tryz.underlying235
  a213 := Tryz.isAgg235
  z213 := Tryz.sizeOf235
  t232 := Tryz.underlying177
  a232 := Tryz.isAgg177
  z232 := Tryz.sizeOf177
  v232 := Tryz.zeroValue177
  t233 := Tryz.underlying257
  a233 := Tryz.isAgg257
  z233 := Tryz.sizeOf257
  v233 := Tryz.zeroValue257
  g17 := by kernel_rfl
  g18 := by kernel_rfl
  g19 := by kernel_rfl
  i0 := by kernel_rfl
  i2 := by kernel_rfl
  i3 := by kernel_rfl
  i4 := by kernel_rfl
  i5 := by kernel_rfl
  i9 := by kernel_rfl
  i20 := by kernel_rfl
  i37 := by kernel_rfl
  i46 := by kernel_rfl
  i51 := by kernel_rfl
  i53 := by kernel_rfl
  i171 := by kernel_rfl
  i173 := by kernel_rfl
  i212 := by kernel_rfl
  i232 := by kernel_rfl
  i233 := by kernel_rfl
  m17 := by kernel_rfl
  m18 := by kernel_rfl
  m19 := by kernel_rfl }
def Tryz.laysRepeat_ren : Go.Shelf.Ren := ⟨fun | 105 => 26 | 212 => 54 | 99 => 55 | 165 => 36 | 166 => 13 | 170 => 15 | 169 => 17 | 263 => 89 | 264 => 90 | 206 => 91 | 240 => 35 | 241 => 70 | 276 => 69 | 277 => 111 | n => n, fun | 9 => 9 | 3 => 3 | 4 => 4 | 20 => 20 | 0 => 0 | 46 => 89 | 109 => 94 | 5 => 5 | 72 => 39 | 76 => 43 | 51 => 102 | 146 => 128 | 53 => 24 | 148 => 130 | 70 => 36 | 37 => 37 | 75 => 42 | 127 => 79 | 164 => 111 | 80 => 48 | n => n, fun | n => n⟩
theorem Tryz.laysRepeat : Go.Proofs.Lays.n105 Tryz.prog Tryz.laysRepeat_ren := {
  mixed := by kernel_rfl
  f99 := Tryz.func55.trans (congrArg some (by kernel_rfl))
  f105 := Tryz.func26.trans (congrArg some (by kernel_rfl))
  f165 := Tryz.func36.trans (congrArg some (by kernel_rfl))
  f166 := Tryz.func13.trans (congrArg some (by kernel_rfl))
  f169 := Tryz.func17.trans (congrArg some (by kernel_rfl))
  f170 := Tryz.func15.trans (congrArg some (by kernel_rfl))
  f206 := Tryz.func91.trans (congrArg some (by kernel_rfl))
  f212 := Tryz.func54.trans (congrArg some (by kernel_rfl))
  f240 := Tryz.func35.trans (congrArg some (by kernel_rfl))
  f241 := Tryz.func70.trans (congrArg some (by kernel_rfl))
  f263 := Tryz.func89.trans (congrArg some (by kernel_rfl))
  f264 := Tryz.func90.trans (congrArg some (by kernel_rfl))
  f276 := Tryz.func69.trans (congrArg some (by kernel_rfl))
  f277 := Tryz.func111.trans (congrArg some (by kernel_rfl))
  t0 := Tryz.underlying0
  a0 := Tryz.isAgg0
  z0 := Tryz.sizeOf0
  v0 := Tryz.zeroValue0
  t3 := Tryz.underlying3
  a3 := Tryz.isAgg3
  z3 := Tryz.sizeOf3
  v3 := Tryz.zeroValue3
  t4 := Tryz.underlying4
  a4 := Tryz.isAgg4
  z4 := Tryz.sizeOf4
  v4 := Tryz.zeroValue4
  t5 := Tryz.underlying5
  a5 := Tryz.isAgg5
  z5 := Tryz.sizeOf5
  v5 := Tryz.zeroValue5
  t9 := Tryz.underlying9
  a9 := Tryz.isAgg9
  z9 := Tryz.sizeOf9
  v9 := Tryz.zeroValue9
  t20 := Tryz.underlying20
  a20 := Tryz.isAgg20
  z20 := Tryz.sizeOf20
  v20 := Tryz.zeroValue20
  t37 := Tryz.underlying37
  a37 := Tryz.isAgg37
  z37 := Tryz.sizeOf37
  v37 := Tryz.zeroValue37
  t46 := Tryz.underlying89
  a46 := Tryz.isAgg89
  z46 := Tryz.sizeOf89
  v46 := Tryz.zeroValue89
  t51 := Tryz.underlying102
  a51 := Tryz.isAgg102
  z51 := Tryz.sizeOf102
  v51 := Tryz.zeroValue102
  t53 := Tryz.underlying24
  a53 := Tryz.isAgg24
  z53 := Tryz.sizeOf24
  v53 := Tryz.zeroValue24
  t70 := Tryz.underlying36
  a70 := Tryz.isAgg36
  z70 := Tryz.sizeOf36
  v70 := Tryz.zeroValue36
  t72 := Tryz.underlying39
  a72 := Tryz.isAgg39
  z72 := Tryz.sizeOf39
  v72 := Tryz.zeroValue39
  t75 := Tryz.underlying42
  a75 := Tryz.isAgg42
  z75 := Tryz.sizeOf42
  v75 := Tryz.zeroValue42
  t76 := Tryz.underlying43
  a76 := Tryz.isAgg43
  z76 := Tryz.sizeOf43
  v76 := Tryz.zeroValue43
  t109 := Tryz.underlying94
  a109 := Tryz.isAgg94
  z109 := Tryz.sizeOf94
  v109 := Tryz.zeroValue94
  t127 := Tryz.underlying79
  a127 := Tryz.isAgg79
  z127 := Tryz.sizeOf79
  v127 := Tryz.zeroValue79
  t146 := Tryz.underlying128
  a146 := Tryz.isAgg128
  z146 := Tryz.sizeOf128
  v146 := Tryz.zeroValue128
  t148 := Tryz.underlying130
  a148 := Tryz.isAgg130
  z148 := Tryz.sizeOf130
  v148 := Tryz.zeroValue130
  t164 := Tryz.underlying111
  a164 := Tryz.isAgg111
  z164 := Tryz.sizeOf111
  v164 := Tryz.zeroValue111 }
def Tryz.laysJoin_ren : Go.Shelf.Ren := ⟨fun | 156 => 14 | 165 => 36 | 166 => 13 | 169 => 17 | 240 => 35 | 241 => 70 | 276 => 69 | 277 => 111 | n => n, fun | 31 => 40 | 9 => 9 | 3 => 3 | 4 => 4 | 0 => 0 | 20 => 20 | 72 => 39 | 76 => 43 | 70 => 36 | 37 => 37 | 75 => 42 | 127 => 79 | 164 => 111 | 5 => 5 | 80 => 48 | n => n, fun | n => n⟩
theorem Tryz.laysJoin : Go.Proofs.Lays.n156 Tryz.prog Tryz.laysJoin_ren := {
  mixed := by kernel_rfl
  f156 := Tryz.func14.trans (congrArg some (by kernel_rfl))
  f165 := Tryz.func36.trans (congrArg some (by kernel_rfl))
  f166 := Tryz.func13.trans (congrArg some (by kernel_rfl))
  f169 := Tryz.func17.trans (congrArg some (by kernel_rfl))
  f240 := Tryz.func35.trans (congrArg some (by kernel_rfl))
  f241 := Tryz.func70.trans (congrArg some (by kernel_rfl))
  f276 := Tryz.func69.trans (congrArg some (by kernel_rfl))
  f277 := Tryz.func111.trans (congrArg some (by kernel_rfl))
  t0 := Tryz.underlying0
  a0 := Tryz.isAgg0
  z0 := Tryz.sizeOf0
  v0 := Tryz.zeroValue0
  t3 := Tryz.underlying3
  a3 := Tryz.isAgg3
  z3 := Tryz.sizeOf3
  v3 := Tryz.zeroValue3
  t4 := Tryz.underlying4
  a4 := Tryz.isAgg4
  z4 := Tryz.sizeOf4
  v4 := Tryz.zeroValue4
  t9 := Tryz.underlying9
  a9 := Tryz.isAgg9
  z9 := Tryz.sizeOf9
  v9 := Tryz.zeroValue9
  t20 := Tryz.underlying20
  a20 := Tryz.isAgg20
  z20 := Tryz.sizeOf20
  v20 := Tryz.zeroValue20
  t31 := Tryz.underlying40
  a31 := Tryz.isAgg40
  z31 := Tryz.sizeOf40
  v31 := Tryz.zeroValue40
  t37 := Tryz.underlying37
  a37 := Tryz.isAgg37
  z37 := Tryz.sizeOf37
  v37 := Tryz.zeroValue37
  t70 := Tryz.underlying36
  a70 := Tryz.isAgg36
  z70 := Tryz.sizeOf36
  v70 := Tryz.zeroValue36
  t72 := Tryz.underlying39
  a72 := Tryz.isAgg39
  z72 := Tryz.sizeOf39
  v72 := Tryz.zeroValue39
  t75 := Tryz.underlying42
  a75 := Tryz.isAgg42
  z75 := Tryz.sizeOf42
  v75 := Tryz.zeroValue42
  t76 := Tryz.underlying43
  a76 := Tryz.isAgg43
  z76 := Tryz.sizeOf43
  v76 := Tryz.zeroValue43
  t127 := Tryz.underlying79
  a127 := Tryz.isAgg79
  z127 := Tryz.sizeOf79
  v127 := Tryz.zeroValue79
  t164 := Tryz.underlying111
  a164 := Tryz.isAgg111
  z164 := Tryz.sizeOf111
  v164 := Tryz.zeroValue111 }
theorem extraRepeat : Builder.Extra Tryz.prog Tryz.laysRepeat_ren := {
  sizeBuilder := by kernel_rfl
  liesBuilder := by kernel_rfl
  t5 := Tryz.laysRepeat.t5
  a5 := Tryz.laysRepeat.a5
  z5 := Tryz.laysRepeat.z5
  v5 := Tryz.laysRepeat.v5
  infoByte := by kernel_rfl
  cellsByte := by kernel_rfl
  sizeByte := by kernel_rfl
  neB5 := by decide }
theorem extraJoin : Builder.Extra Tryz.prog Tryz.laysJoin_ren := {
  sizeBuilder := by kernel_rfl
  liesBuilder := by kernel_rfl
  t5 := Tryz.underlying5
  a5 := Tryz.isAgg5
  z5 := Tryz.sizeOf5
  v5 := Tryz.zeroValue5
  infoByte := by kernel_rfl
  cellsByte := by kernel_rfl
  sizeByte := by kernel_rfl
  neB5 := by decide }
theorem fItoa : Tryz.laysItoa_ren.f 171 = 73 := by kernel_rfl
theorem fRepeat : Tryz.laysRepeat_ren.f 105 = 26 := by kernel_rfl
theorem fJoin : Tryz.laysJoin_ren.f 156 = 14 := by kernel_rfl

/-- strconv's table of powers of ten is there -/
def Tab10 (w : World) : Prop := Lib.TabIs Tryz.prog w "internal/strconv.uint64pow10" .u64 Lib.pow10Tab
theorem gTab10 : Tryz.prog.globalNamed "internal/strconv.uint64pow10" = some 6 := by kernel_rfl
theorem Tab10.below {w w' : World} (h : Tab10 w) (hb : Below w.heap.size w w') : Tab10 w' := by
  have hs : 6 < w.heap.size := World.block_lt_of_cell? w ⟨6, 0, none⟩ (Lib.TabIs.cell h gTab10 0 (by rw [Lib.pow10Tab_length]; omega))
  unfold Tab10 Lib.TabIs World.var? at *
  rw [gTab10] at *
  simp only [Option.bind_eq_bind, Option.bind_some] at *
  rw [hb.block _ hs]
  exact h
theorem itoa_any (n : Nat) (h : n < 1000000000) (w : World) (hT : Tab10 w) :
    Calls Tryz.prog 73 #[.int .i64 (n : Int)] w fun e w' => e = .returned (.string ⟨(Lib.decDigits n).toArray⟩) ∧ Below w.heap.size w w' := by
  have h := Any.strconv_Itoa Tryz.laysItoa (n : Int) (by omega) (by omega) w hT
  rw [fItoa] at h
  refine h.mono ?_
  rintro e w' ⟨rfl, k, os, rfl⟩
  refine ⟨?_, below_grown w k os⟩
  have : Lib.itoa (n : Int) = Lib.decDigits n := by unfold Lib.itoa; rw [if_neg (by omega)]; rfl
  rw [this]
theorem repeat_any (c : Nat) (X : Int) (hX : X = (c : Int)) (h : c ≤ 9) (w : World) :
    Calls Tryz.prog 26 #[.string ⟨#[48]⟩, .int .i64 X] w fun e w' => e = .returned (.string ⟨(List.replicate c (48 : UInt8)).toArray⟩) ∧ Below w.heap.size w w' := by
  subst hX
  have h := Any.strings_Repeat Tryz.laysRepeat extraRepeat ⟨#[48]⟩ c w (by omega) (by show 1 * c ≤ _; omega)
  rw [fRepeat] at h
  refine h.mono ?_
  rintro e w' ⟨rfl, hb⟩
  exact ⟨by rw [show (ByteArray.mk #[48]).data.toList = [48] from rfl, rep_flat], hb⟩
theorem join_any {base : Nat} (v : Value) (l : List (List UInt8)) (w : World) (h : w.ownsRow base 9 1 v l.length (lst l)) (hl : l.length ≤ 10000000) (h9 : l.flatten.length ≤ 100000000) :
    Calls Tryz.prog 14 #[v, .string ⟨#[]⟩] w fun e w' => e = .returned (.string ⟨l.flatten.toArray⟩) ∧ Below w.heap.size w w' := by
  rcases h.2 with ⟨rfl, h0⟩ | ⟨g, cap, cur, rfl, hb, hg, h1, h2, h3, h4⟩
  · have hc := Any.strings_Join_none Tryz.laysJoin extraJoin none 0 ⟨#[]⟩ w
    rw [fJoin] at hc
    refine hc.mono ?_
    rintro e w' ⟨rfl, rfl⟩
    obtain rfl : l = [] := List.length_eq_zero_iff.1 h0
    exact ⟨rfl, Below.refl _ _⟩
  · have e : (l.map fun s => (ByteArray.mk s.toArray)).map (·.data.toList) = l := by
      rw [List.map_map]; simp [Function.comp_def]
    have hc := Any.strings_Join Tryz.laysJoin extraJoin g 0 cap (l.map fun s => ByteArray.mk s.toArray) ⟨#[]⟩ w ?_ (Array.getElem?_eq_some_iff.1 hg).1 (by simp; omega) (by simpa using h1)
      (by rw [e, show (ByteArray.mk #[]).data.toList = [] from rfl, join_flat]; omega)
    · rw [fJoin, e, show (ByteArray.mk #[]).data.toList = [] from rfl, join_flat, List.length_map] at hc
      exact hc
    · intro j x hj
      have := h.cells (g := g) (by simp [Value.ownBlock]) j (.string x) (by
        simp only [lst, List.getElem?_map] at hj ⊢
        cases hq : l[j]? with
        | none => rw [hq] at hj; simp at hj
        | some y => rw [hq] at hj; simp at hj; subst hj; rfl)
      rw [show (⟨g, 0, none⟩ : Addr).add j = ⟨g, 0 + j, none⟩ from by unfold Addr.add; split <;> simp_all] at this
      exact this

theorem nvc_below {B : Nat} {w w' : World} {v : Value} {n : Nat} (h : NVc B w v n) (hb : Below w.heap.size w w') : NVc B w' v n := by
  obtain ⟨l, ao, h1, h2, h3, h4, h5⟩ := h
  exact ⟨l, ao, h1, h2, h3.below hb, h4, h5⟩
theorem nvc_push {B : Nat} {w w' : World} {v : Value} {n : Nat} {row : Option Nat} (h : NVc B w v n) (hg : w.grownBy w' row) (hr : ∀ k, row = some k → k < B) : NV w' v n := by
  obtain ⟨l, ao, h1, h2, ⟨h3, ao2, cap, h4, h5, h6, h7⟩, h8, h9⟩ := h
  refine ⟨l, h1, h2, h3, ao2, cap, h4, h5, h6, ?_⟩
  rcases h7 with h7 | ⟨b, off, h10, h11, h12⟩
  · exact Or.inl h7
  · rw [h8] at h4
    simp only [Value.slice.injEq] at h4
    have hB := h9 ⟨b, off, none⟩ (by rw [h4.1, h10])
    refine Or.inr ⟨b, off, h10, Nat.lt_of_lt_of_le h11 hg.size, fun i hi => ?_⟩
    rw [hg.cell_far ⟨b, off + i, none⟩ h11 (by intro hh; have := hr b hh.symm; simp at hB; omega)]
    exact h12 i hi
/-- where the loop stands: a number n and what lies behind it -/
def DcI (a n k0 : Nat) (ps : List (List UInt8)) : Prop :=
  decN a = decN n ++ ps.reverse.flatten ∧ (∀ p ∈ ps, p.length ≤ 9) ∧ n * 2 ^ ps.length ≤ a ∧ ps.length ≤ k0 ∧ n ≤ a
theorem DcI.start (a k0 : Nat) : DcI a a k0 [] := ⟨by simp, by simp, by simp, by simp, Nat.le_refl _⟩
theorem DcI.step {a n k0 : Nat} {ps : List (List UInt8)} (h : DcI a n k0 ps) (hn : n ≠ 0) (ha : a < 2 ^ k0) : DcI a (n / 1000000000) k0 (ps ++ [pcD n]) := by
  obtain ⟨h1, h2, h3, h4, h5⟩ := h
  have hlen : ps.length < k0 := by
    have h6 : 2 ^ ps.length < 2 ^ k0 := by
      have : 1 * 2 ^ ps.length ≤ n * 2 ^ ps.length := Nat.mul_le_mul_right _ (by omega)
      omega
    exact (Nat.pow_lt_pow_iff_right (by omega)).1 h6
  refine ⟨?_, ?_, ?_, by simp; omega, by omega⟩
  · rw [h1, decN_step n hn]; simp
  · intro p hp
    simp at hp
    rcases hp with hp | rfl
    · exact h2 p hp
    · exact pcD_len n
  · rw [List.length_append, List.length_singleton, Nat.pow_succ]
    have : n / 1000000000 * 2 ≤ n := by omega
    calc n / 1000000000 * (2 ^ ps.length * 2) = (n / 1000000000 * 2) * 2 ^ ps.length := by rw [Nat.mul_comm (2 ^ ps.length), Nat.mul_assoc]
      _ ≤ n * 2 ^ ps.length := Nat.mul_le_mul_right _ this
      _ ≤ a := h3
theorem DcI.fin {a k0 : Nat} {ps : List (List UInt8)} (h : DcI a 0 k0 ps) (ha : a ≠ 0) : ps.reverse.flatten = Lib.decDigits a := by
  have := h.1
  unfold decN at this
  rw [if_neg ha, if_pos rfl, List.nil_append] at this
  exact this.symm

set_option maxRecDepth 100000 in
set_option maxHeartbeats 8000000 in
theorem decimal_any (va : Value) (a k0 : Nat) (w : World) (ha : NV w va a) (hka : a < 2 ^ k0) (hk0 : k0 ≤ 3000000) (hT : Tab10 w) :
    Calls Tryz.prog 83 #[va] w fun e w' => e = .returned (.string ⟨(Lib.decDigits a).toArray⟩) ∧ Below w.heap.size w w' := by
  obtain ⟨ao, n, c, rfl, hnc, hc, hcase⟩ := nv_len ha
  have HA := Lib.hid ha
  rcases hcase with ⟨rfl, rfl⟩ | ⟨ha0, hn1⟩
  · clear ha hka hT
    go_enter Tryz.func83, Tryz.ntmps83
    go_wp2
    go_ret
    exact ⟨by rw [dec_small (by omega)]; rfl, Below.refl _ _⟩
  · have SM := Lib.hid (fun va n w' (h : NV w' va n) (hn : n < 2 ^ k0) => small_c va n 1000000000 k0 w' h hn (by omega) (by omega) (by omega))
    simp only [Int.cast_ofNat_Int] at SM
    have HK : Hid (a < 2 ^ k0 ∧ True) := Lib.hid ⟨hka, trivial⟩
    have H0 := Lib.hid ha0
    have T0 := Lib.hid hT
    have hnz : ((n : Int) == 0) = false := by rw [beq_eq_false_iff_ne]; omega
    clear ha hka hT ha0
    go_enter Tryz.func83, Tryz.ntmps83
    go_wp2
    go_loopg [0, 3] a (fun k s0 s3 wr => ∃ (n : Nat) (ps : List (List UInt8)), n ≤ k ∧ Hid (NV wr s0 n) ∧ Hid (wr.ownsRow w.heap.size 9 1 s3 ps.length (lst ps)) ∧ Hid (DcI a n k0 ps) ∧ Hid (Below w.heap.size w wr))
    case atStart => exact ⟨a, [], Nat.le_refl _, HA, Lib.hid (ownS_nil _ _), Lib.hid (DcI.start a k0), Lib.hid (Below.refl _ _)⟩
    case round =>
      obtain ⟨n, ps, hng, HN, HO, HI, HB⟩ := hrel
      obtain ⟨ao, ln, c, rfl, hnc, hc, hcase⟩ := nv_len HN.out
      have T1 := Lib.hid (T0.out.below HB.out)
      have hbs := HB.out.size
      rcases hcase with ⟨hn0, rfl⟩ | ⟨hn0, hn1⟩
      · have hfin := HI.out
        rw [hn0] at hfin
        have hd := hfin.fin H0.out
        have hpl : ps.length ≤ k0 := hfin.2.2.2.1
        have hfl := flat_len ps hfin.2.1
        have RV := Lib.hid (revS_own u3 ps wr HO.out)
        have HL : Hid (ps.length ≤ 10000000 ∧ True) := Lib.hid ⟨by omega, trivial⟩
        have hrl : ps.reverse.flatten.length ≤ 100000000 := by
          have := flat_len ps.reverse (fun p hp => hfin.2.1 p (by simpa using hp))
          rw [List.length_reverse] at this
          omega
        have JN := Lib.hid (fun v w' (h : w'.ownsRow w.heap.size 9 1 v ps.length (lst ps.reverse)) => join_any v ps.reverse w' (by rw [List.length_reverse]; exact h) (by rw [List.length_reverse]; omega) hrl)
        rw [hd] at JN
        clear hfin hfl hd hrl hng HN HI hn0 hpl
        go_wp2_with (first
          | (go_at_call 128; refine RV.out.mono ?_; rintro e w2 ⟨rfl, ho2, hb2⟩; have O2 := Lib.hid ho2; have B2 : Hid (Below w.heap.size w w2) := Lib.hid (HB.out.trans hb2); clear ho2 hb2)
          | (go_at_call 14; go_loud (refine (JN.out _ _ O2.out).mono ?_; rintro e w3 ⟨rfl, hb3⟩; have B3 : Hid (Below w.heap.size w w3) := Lib.hid (bl_thru B2.out (Nat.le_refl _) hb3); clear hb3)))
        go_ret
        exact ⟨rfl, B3.out⟩
      · have HLn : Hid (n < 2 ^ k0 ∧ True) := Lib.hid ⟨Nat.lt_of_le_of_lt HI.out.2.2.2.2 HK.out.1, trivial⟩
        have hrlt : n % 1000000000 < 1000000000 := Nat.mod_lt _ (by omega)
        obtain ⟨q, hq⟩ : ∃ q, q = n / 1000000000 := ⟨_, rfl⟩
        obtain ⟨r, hr⟩ : ∃ r, r = n % 1000000000 := ⟨_, rfl⟩
        have hstep := HI.out.step hn0 HK.out.1
        have hpl : ps.length ≤ k0 := HI.out.2.2.2.1
        have hpc : pcD n = if q = 0 then Lib.decDigits r else padK 9 r := by rw [hq, hr]; rfl
        rw [hpc, ← hq] at hstep
        rw [← hr] at hrlt
        have hdl := dec_len_le 9 r (by omega) (by simpa using hrlt)
        have hdp := dec_len_pos r
        obtain ⟨dl, hdl2⟩ : ∃ dl, dl = Lib.decDigits r := ⟨_, rfl⟩
        rw [← hdl2] at hdl hdp
        obtain ⟨td, htd⟩ : ∃ td : ByteArray, td = ⟨dl.toArray⟩ := ⟨_, rfl⟩
        have htz : (td.size : Int) = (dl.length : Int) := by rw [htd]; rfl
        obtain ⟨zs, hzs⟩ : ∃ zs : ByteArray, zs = ⟨(List.replicate (9 - dl.length) (48 : UInt8)).toArray⟩ := ⟨_, rfl⟩
        have hzz : zs.size = 9 - dl.length := by rw [hzs]; simp [ByteArray.size]
        have SMn := Lib.hid (SM.out _ _ _ HN.out HLn.out.1)
        rw [← hq, ← hr] at SMn
        have IT := Lib.hid (fun w' (h : Tab10 w') => itoa_any r hrlt w' h)
        rw [← hdl2, ← htd] at IT
        have RP := Lib.hid (fun X w' (h : X = ((9 - dl.length : Nat) : Int)) => repeat_any (9 - dl.length) X h (by omega) w')
        rw [← hzs] at RP
        have hqn : q < n := by rw [hq]; omega
        have ST := Lib.hid hstep
        have HTD := Lib.hid htd
        have HZS := Lib.hid hzs
        have HDL := Lib.hid hdl2
        have HQN : Hid (q ≤ gk - 1 ∧ gk - 1 < gk) := Lib.hid ⟨by omega, by omega⟩
        obtain ⟨N9, hN9⟩ : ∃ N9, N9 = dl.length := ⟨_, rfl⟩
        rw [← hN9] at hdl hdp htz hzz RP
        have HN9 := Lib.hid hN9
        clear hstep htd hzs hdl2 hq hr hpc hqn hng HN HI hn0 hN9
        have PC0 : Hid (q = 0 → (if q = 0 then Lib.decDigits r else padK 9 r) = dl) := Lib.hid (fun h => by rw [if_pos h]; exact HDL.out.symm)
        have PC1 : Hid (q ≠ 0 → ∀ zt : ByteArray, zt = zs ++ td → zt = ⟨(if q = 0 then Lib.decDigits r else padK 9 r).toArray⟩) := Lib.hid (fun h zt hzt => by
          rw [if_neg h, hzt, HZS.out, HTD.out, ByteArray.mk_append_mk]
          unfold padK
          rw [← HDL.out])
        obtain ⟨zt, hzt⟩ : ∃ zt, zs ++ td = zt := ⟨_, rfl⟩
        have HRB : Hid (∀ k, u3.ownBlock = some k → k < wr.heap.size) := Lib.hid (fun k hk => (HO.out.lt k hk).2)
        have HO10 : Hid (ps.length ≤ 10000000 ∧ True) := Lib.hid ⟨by omega, trivial⟩
        obtain ⟨pc, hpc⟩ : ∃ pc, pc = (if q = 0 then Lib.decDigits r else padK 9 r) := ⟨_, rfl⟩
        rw [← hpc] at ST PC0 PC1
        clear hpc hpl
        obtain ⟨i0, hi, hz0, hz1, hz2⟩ := info_parts infoStr
        have HI0 := Lib.hid hi
        have HZ0 := Lib.hid hz0
        have HZ1 := Lib.hid hz1
        have HZ2 := Lib.hid hz2
        clear hi hz0 hz1 hz2
        by_cases hq0 : q = 0
        · have HZT : Hid (td = ⟨pc.toArray⟩) := Lib.hid (by rw [PC0.out hq0]; exact HTD.out)
          have HQ0 := Lib.hid hq0
          clear hq0
          go_wp2_with (first
            | (go_at_call 127; refine SMn.out.mono ?_; rintro e w2 ⟨v2, rfl, hn2, hb2⟩; obtain ⟨ao2, ln2, c2, rfl, hnc2, hc2, hcase2⟩ := nv_len hn2.nv; have N2 := Lib.hid hn2; obtain rfl : ln2 = 0 := (by rcases hcase2 with ⟨_, h⟩ | ⟨h, _⟩; exact h; exact absurd HQ0.out h); have B2 : Hid (Below w.heap.size w w2) := Lib.hid (bl_thru HB.out (Nat.le_refl _) hb2); have T2 := Lib.hid (T1.out.below hb2); have O2 := Lib.hid (ownS_below HO.out hb2); clear hn2 hb2 hcase2)
            | (go_at_call 73; refine (IT.out _ T2.out).mono ?_; rintro e w3 ⟨rfl, hb3⟩; have N3 := Lib.hid (nvc_below N2.out hb3); have B3 : Hid (Below w.heap.size w w3) := Lib.hid (bl_thru B2.out (Nat.le_refl _) hb3); have O3 := Lib.hid (ownS_below O2.out hb3); have hz3 := B3.out.size; clear hb3)
            | (at_builtin; refine wpList_pushS rfl _ _ rfl w.heap.size hz3 _ ps rfl O3.out pc rfl HZT.out HO10.out.1 ?_; intro v5 w5 ho5 hb5 hg5; have O5 := Lib.hid ho5; have N5 := Lib.hid (nvc_push (nvc_below N3.out ((Below.refl _ _).alloc (Nat.le_refl _) _)) hg5 HRB.out); have B5 : Hid (Below w.heap.size w w5) := Lib.hid (B3.out.trans hb5); clear ho5 hb5 hg5))
          go_roundg (gk - 1)
          case measure => exact HQN.out.2
          case rel => exact ⟨q, ps ++ [pc], HQN.out.1, N5, O5, ST, B5⟩
        · have HZT : Hid (zt = ⟨pc.toArray⟩) := Lib.hid (PC1.out hq0 zt hzt.symm)
          have HQ0 := Lib.hid hq0
          clear hq0
          go_wp2_with (first
            | (go_at_call 127; refine SMn.out.mono ?_; rintro e w2 ⟨v2, rfl, hn2, hb2⟩; obtain ⟨ao2, ln2, c2, rfl, hnc2, hc2, hcase2⟩ := nv_len hn2.nv; have N2 := Lib.hid hn2; have hln2 : 1 ≤ ln2 := (by rcases hcase2 with ⟨h, _⟩ | ⟨_, h⟩; exact absurd h HQ0.out; exact h); have B2 : Hid (Below w.heap.size w w2) := Lib.hid (bl_thru HB.out (Nat.le_refl _) hb2); have T2 := Lib.hid (T1.out.below hb2); have O2 := Lib.hid (ownS_below HO.out hb2); clear hn2 hb2 hcase2)
            | (go_at_call 73; refine (IT.out _ T2.out).mono ?_; rintro e w3 ⟨rfl, hb3⟩; have N3 := Lib.hid (nvc_below N2.out hb3); have B3 : Hid (Below w.heap.size w w3) := Lib.hid (bl_thru B2.out (Nat.le_refl _) hb3); have O3 := Lib.hid (ownS_below O2.out hb3); have hz3 := B3.out.size; clear hb3)
            | (go_at_call 26; refine (RP.out _ _ (by omega)).mono ?_; rintro e w4 ⟨rfl, hb4⟩; have N4 := Lib.hid (nvc_below N3.out hb4); have B4 : Hid (Below w.heap.size w w4) := Lib.hid (bl_thru B3.out (Nat.le_refl _) hb4); have O4 := Lib.hid (ownS_below O3.out hb4); have hz4 := B4.out.size; clear hb4)
            | (at_builtin; refine wpList_pushS rfl _ _ rfl w.heap.size hz4 _ ps rfl O4.out pc rfl HZT.out HO10.out.1 ?_; intro v5 w5 ho5 hb5 hg5; have O5 := Lib.hid ho5; have N5 := Lib.hid (nvc_push (nvc_below N4.out ((Below.refl _ _).alloc (Nat.le_refl _) _)) hg5 HRB.out); have B5 : Hid (Below w.heap.size w w5) := Lib.hid (B4.out.trans hb5); clear ho5 hb5 hg5))
          go_roundg (gk - 1)
          case measure => exact HQN.out.2
          case rel => exact ⟨q, ps ++ [pc], HQN.out.1, N5, O5, ST, B5⟩
set_option maxHeartbeats 2000000 in
/-- what nat.Text tells -/
theorem text_any (va : Value) (a k0 : Nat) (w : World) (ha : NV w va a) (hka : a < 2 ^ k0) (hk0 : k0 ≤ 12800) (hT : Tab10 w) :
    Calls Tryz.prog 83 #[va] w fun e w' => e = .returned (.string ⟨(Lib.decDigits a).toArray⟩) ∧ Below w.heap.size w w' := decimal_any va a k0 w ha hka (by omega) hT
end Go.Proofs.YtofdjfdnckmmmaaGreatDoor
