/-
  THE WALKS of nat.Decimal, nat.Text.
-/
import Derived.Test.YtmpdbmaokbhcjaaDoorNs
import Derived.Test.YtmpdbmaokbhcjaaDoorBd
import Derived.Test.YtmpdbmaokbhcjaaDoorNa
import Derived.Test.YtmpdbmaokbhcjaaDoorRs
import Derived.Test.YtmpdbmaokbhcjaaDoorDe
import Derived.Shelf.Strconv.Itoa3
import Derived.Shelf.Strings.Repeat
import Derived.Shelf.Strings.OnBuilder
import Derived.Shelf.GgClosure.Gives
import Derived.Shelf.Lay
import Derived.Ground.NamesProg
import Derived.Lib.LaidTab
import Derived.Deep.RegionHeld3
import Derived.Deep.AppendLies
import Derived.Lib.ItoaMem
set_option linter.unusedVariables false
set_option linter.unusedSimpArgs false
namespace Go.Proofs.YtmpdbmaokbhcjaaDoor
open Go.Shelf Go.RowKit Go.Lib Go.Sort Nt

def Tryd.laysItoa_ren : Go.Shelf.Ren := ⟨fun | 171 => 115 | 243 => 144 | 246 => 164 | 283 => 172 | 284 => 173 | 285 => 174 | 286 => 175 | 129 => 148 | 317 => 178 | 318 => 179 | 319 => 180 | 320 => 181 | 337 => 82 | 338 => 186 | n => n, fun | 3 => 3 | 9 => 9 | 2 => 2 | 4 => 4 | 171 => 195 | 0 => 0 | 53 => 32 | 37 => 89 | 5 => 5 | 173 => 197 | 212 => 204 | 51 => 50 | 20 => 20 | 213 => 205 | 46 => 69 | 232 => 140 | 233 => 213 | n => n, fun | 17 => 4 | 18 => 0 | 19 => 7 | n => n⟩
theorem Tryd.laysItoa : Go.Proofs.LaysM.n171 Tryd.prog Tryd.laysItoa_ren := {
  mixed := by kernel_rfl
  f129 := Tryd.func148.trans (congrArg some (by kernel_rfl))
  f171 := Tryd.func115.trans (congrArg some (by kernel_rfl))
  f243 := Tryd.func144.trans (congrArg some (by kernel_rfl))
  f246 := Tryd.func164.trans (congrArg some (by kernel_rfl))
  f283 := Tryd.func172.trans (congrArg some (by kernel_rfl))
  f284 := Tryd.func173.trans (congrArg some (by kernel_rfl))
  f285 := Tryd.func174.trans (congrArg some (by kernel_rfl))
  f286 := Tryd.func175.trans (congrArg some (by kernel_rfl))
  f317 := Tryd.func178.trans (congrArg some (by kernel_rfl))
  f318 := Tryd.func179.trans (congrArg some (by kernel_rfl))
  f319 := Tryd.func180.trans (congrArg some (by kernel_rfl))
  f320 := Tryd.func181.trans (congrArg some (by kernel_rfl))
  f337 := Tryd.func82.trans (congrArg some (by kernel_rfl))
  f338 := Tryd.func186.trans (congrArg some (by kernel_rfl))
  t0 := Tryd.underlying0
  a0 := Tryd.isAgg0
  z0 := Tryd.sizeOf0
  v0 := Tryd.zeroValue0
  t2 := Tryd.underlying2
  a2 := Tryd.isAgg2
  z2 := Tryd.sizeOf2
  v2 := Tryd.zeroValue2
  t3 := Tryd.underlying3
  a3 := Tryd.isAgg3
  z3 := Tryd.sizeOf3
  v3 := Tryd.zeroValue3
  t4 := Tryd.underlying4
  a4 := Tryd.isAgg4
  z4 := Tryd.sizeOf4
  v4 := Tryd.zeroValue4
  t5 := Tryd.underlying5
  a5 := Tryd.isAgg5
  z5 := Tryd.sizeOf5
  v5 := Tryd.zeroValue5
  t9 := Tryd.underlying9
  a9 := Tryd.isAgg9
  z9 := Tryd.sizeOf9
  v9 := Tryd.zeroValue9
  t20 := Tryd.underlying20
  a20 := Tryd.isAgg20
  z20 := Tryd.sizeOf20
  v20 := Tryd.zeroValue20
  t37 := Tryd.underlying89
  a37 := Tryd.isAgg89
  z37 := Tryd.sizeOf89
  v37 := Tryd.zeroValue89
  t46 := Tryd.underlying69
  a46 := Tryd.isAgg69
  z46 := Tryd.sizeOf69
  v46 := Tryd.zeroValue69
  t51 := Tryd.underlying50
  a51 := Tryd.isAgg50
  z51 := Tryd.sizeOf50
  v51 := Tryd.zeroValue50
  t53 := Tryd.underlying32
  a53 := Tryd.isAgg32
  z53 := Tryd.sizeOf32
  v53 := Tryd.zeroValue32
  t171 := Tryd.underlying195
  a171 := Tryd.isAgg195
  z171 := Tryd.sizeOf195
  v171 := Tryd.zeroValue195
  t173 := Tryd.underlying197
  a173 := Tryd.isAgg197
  z173 := Tryd.sizeOf197
  v173 := Tryd.zeroValue197
  t212 := Tryd.underlying204
  a212 := Tryd.isAgg204
  z212 := Tryd.sizeOf204
  v212 := Tryd.zeroValue204
  t213 := Tryd.underlying205
  a213 := Tryd.isAgg205
  z213 := Tryd.sizeOf205
  t232 := Tryd.underlying140
  a232 := Tryd.isAgg140
  z232 := Tryd.sizeOf140
  v232 := Tryd.zeroValue140
  t233 := Tryd.underlying213
  a233 := Tryd.isAgg213
  z233 := Tryd.sizeOf213
  v233 := Tryd.zeroValue213
  g17 := by kernel_rfl
  g18 := by kernel_rfl
  g19 := by kernel_rfl
  i0 := by kernel_rfl
  i2 := by kernel_rfl
  i3 := by kernel_rfl
  i4 := by kernel_rfl
  i5 := by kernel_rfl
  i9 := by kernel_rfl
  i20 := by kernel_rfl
  i37 := by kernel_rfl
  i46 := by kernel_rfl
  i51 := by kernel_rfl
  i53 := by kernel_rfl
  i171 := by kernel_rfl
  i173 := by kernel_rfl
  i212 := by kernel_rfl
  i232 := by kernel_rfl
  i233 := by kernel_rfl
  m17 := by kernel_rfl
  m18 := by kernel_rfl
  m19 := by kernel_rfl }
def Tryd.laysRepeat_ren : Go.Shelf.Ren := ⟨fun | 105 => 114 | 212 => 139 | 99 => 109 | 165 => 140 | 166 => 141 | 170 => 142 | 169 => 143 | 263 => 160 | 264 => 161 | 206 => 133 | 240 => 162 | 241 => 163 | 276 => 170 | 277 => 171 | n => n, fun | 9 => 9 | 3 => 3 | 4 => 4 | 20 => 20 | 0 => 0 | 46 => 69 | 109 => 155 | 5 => 5 | 72 => 159 | 76 => 133 | 51 => 50 | 146 => 178 | 53 => 32 | 148 => 180 | 70 => 157 | 37 => 89 | 75 => 132 | 127 => 182 | 164 => 192 | 80 => 161 | n => n, fun | n => n⟩
theorem Tryd.laysRepeat : Go.Proofs.Lays.n105 Tryd.prog Tryd.laysRepeat_ren := {
  mixed := by kernel_rfl
  f99 := Tryd.func109.trans (congrArg some (by kernel_rfl))
  f105 := Tryd.func114.trans (congrArg some (by kernel_rfl))
  f165 := Tryd.func140.trans (congrArg some (by kernel_rfl))
  f166 := Tryd.func141.trans (congrArg some (by kernel_rfl))
  f169 := Tryd.func143.trans (congrArg some (by kernel_rfl))
  f170 := Tryd.func142.trans (congrArg some (by kernel_rfl))
  f206 := Tryd.func133.trans (congrArg some (by kernel_rfl))
  f212 := Tryd.func139.trans (congrArg some (by kernel_rfl))
  f240 := Tryd.func162.trans (congrArg some (by kernel_rfl))
  f241 := Tryd.func163.trans (congrArg some (by kernel_rfl))
  f263 := Tryd.func160.trans (congrArg some (by kernel_rfl))
  f264 := Tryd.func161.trans (congrArg some (by kernel_rfl))
  f276 := Tryd.func170.trans (congrArg some (by kernel_rfl))
  f277 := Tryd.func171.trans (congrArg some (by kernel_rfl))
  t0 := Tryd.underlying0
  a0 := Tryd.isAgg0
  z0 := Tryd.sizeOf0
  v0 := Tryd.zeroValue0
  t3 := Tryd.underlying3
  a3 := Tryd.isAgg3
  z3 := Tryd.sizeOf3
  v3 := Tryd.zeroValue3
  t4 := Tryd.underlying4
  a4 := Tryd.isAgg4
  z4 := Tryd.sizeOf4
  v4 := Tryd.zeroValue4
  t5 := Tryd.underlying5
  a5 := Tryd.isAgg5
  z5 := Tryd.sizeOf5
  v5 := Tryd.zeroValue5
  t9 := Tryd.underlying9
  a9 := Tryd.isAgg9
  z9 := Tryd.sizeOf9
  v9 := Tryd.zeroValue9
  t20 := Tryd.underlying20
  a20 := Tryd.isAgg20
  z20 := Tryd.sizeOf20
  v20 := Tryd.zeroValue20
  t37 := Tryd.underlying89
  a37 := Tryd.isAgg89
  z37 := Tryd.sizeOf89
  v37 := Tryd.zeroValue89
  t46 := Tryd.underlying69
  a46 := Tryd.isAgg69
  z46 := Tryd.sizeOf69
  v46 := Tryd.zeroValue69
  t51 := Tryd.underlying50
  a51 := Tryd.isAgg50
  z51 := Tryd.sizeOf50
  v51 := Tryd.zeroValue50
  t53 := Tryd.underlying32
  a53 := Tryd.isAgg32
  z53 := Tryd.sizeOf32
  v53 := Tryd.zeroValue32
  t70 := Tryd.underlying157
  a70 := Tryd.isAgg157
  z70 := Tryd.sizeOf157
  v70 := Tryd.zeroValue157
  t72 := Tryd.underlying159
  a72 := Tryd.isAgg159
  z72 := Tryd.sizeOf159
  v72 := Tryd.zeroValue159
  t75 := Tryd.underlying132
  a75 := Tryd.isAgg132
  z75 := Tryd.sizeOf132
  v75 := Tryd.zeroValue132
  t76 := Tryd.underlying133
  a76 := Tryd.isAgg133
  z76 := Tryd.sizeOf133
  v76 := Tryd.zeroValue133
  t109 := Tryd.underlying155
  a109 := Tryd.isAgg155
  z109 := Tryd.sizeOf155
  v109 := Tryd.zeroValue155
  t127 := Tryd.underlying182
  a127 := Tryd.isAgg182
  z127 := Tryd.sizeOf182
  v127 := Tryd.zeroValue182
  t146 := Tryd.underlying178
  a146 := Tryd.isAgg178
  z146 := Tryd.sizeOf178
  v146 := Tryd.zeroValue178
  t148 := Tryd.underlying180
  a148 := Tryd.isAgg180
  z148 := Tryd.sizeOf180
  v148 := Tryd.zeroValue180
  t164 := Tryd.underlying192
  a164 := Tryd.isAgg192
  z164 := Tryd.sizeOf192
  v164 := Tryd.zeroValue192 }
theorem extraRepeat : Builder.Extra Tryd.prog Tryd.laysRepeat_ren := {
  sizeBuilder := by kernel_rfl
  liesBuilder := by kernel_rfl
  t5 := Tryd.laysRepeat.t5
  a5 := Tryd.laysRepeat.a5
  z5 := Tryd.laysRepeat.z5
  v5 := Tryd.laysRepeat.v5
  infoByte := by kernel_rfl
  cellsByte := by kernel_rfl
  sizeByte := by kernel_rfl
  neB5 := by decide }
theorem fItoa : Tryd.laysItoa_ren.f 171 = 115 := by kernel_rfl
theorem fRepeat : Tryd.laysRepeat_ren.f 105 = 114 := by kernel_rfl

/-- strconv's table of powers of ten is there -/
def Tab10 (w : World) : Prop := Lib.TabIs Tryd.prog w "internal/strconv.uint64pow10" .u64 Lib.pow10Tab
theorem gTab10 : Tryd.prog.globalNamed "internal/strconv.uint64pow10" = some 4 := by kernel_rfl
theorem Tab10.below {w w' : World} (h : Tab10 w) (hb : Below w.heap.size w w') : Tab10 w' := by
  have hs : 4 < w.heap.size := World.block_lt_of_cell? w ⟨4, 0, none⟩ (Lib.TabIs.cell h gTab10 0 (by rw [Lib.pow10Tab_length]; omega))
  unfold Tab10 Lib.TabIs World.var? at *
  rw [gTab10] at *
  simp only [Option.bind_eq_bind, Option.bind_some] at *
  rw [hb.block _ hs]
  exact h
theorem itoa_any (n : Nat) (h : n < 1000000000) (w : World) (hT : Tab10 w) :
    Calls Tryd.prog 115 #[.int .i64 (n : Int)] w fun e w' => e = .returned (.string ⟨(Lib.decDigits n).toArray⟩) ∧ Below w.heap.size w w' := by
  have h := Any.strconv_Itoa Tryd.laysItoa (n : Int) (by omega) (by omega) w hT
  rw [fItoa] at h
  refine h.mono ?_
  rintro e w' ⟨rfl, k, os, rfl⟩
  refine ⟨?_, below_grown w k os⟩
  have : Lib.itoa (n : Int) = Lib.decDigits n := by unfold Lib.itoa; rw [if_neg (by omega)]; rfl
  rw [this]
theorem repeat_any (c : Nat) (X : Int) (hX : X = (c : Int)) (h : c ≤ 9) (w : World) :
    Calls Tryd.prog 114 #[.string ⟨#[48]⟩, .int .i64 X] w fun e w' => e = .returned (.string ⟨(List.replicate c (48 : UInt8)).toArray⟩) ∧ Below w.heap.size w w' := by
  subst hX
  have h := Any.strings_Repeat Tryd.laysRepeat extraRepeat ⟨#[48]⟩ c w (by omega) (by show 1 * c ≤ _; omega)
  rw [fRepeat] at h
  refine h.mono ?_
  rintro e w' ⟨rfl, hb⟩
  exact ⟨by rw [show (ByteArray.mk #[48]).data.toList = [48] from rfl, rep_flat], hb⟩

theorem nvc_below {B : Nat} {w w' : World} {v : Value} {n : Nat} (h : NVc B w v n) (hb : Below w.heap.size w w') : NVc B w' v n := by
  obtain ⟨l, ao, h1, h2, h3, h4, h5⟩ := h
  exact ⟨l, ao, h1, h2, h3.below hb, h4, h5⟩
theorem nvc_push {B : Nat} {w w' : World} {v : Value} {n : Nat} {row : Option Nat} (h : NVc B w v n) (hg : w.grownBy w' row) (hr : ∀ k, row = some k → k < B) : NV w' v n := by
  obtain ⟨l, ao, h1, h2, ⟨h3, ao2, cap, h4, h5, h6, h7⟩, h8, h9⟩ := h
  refine ⟨l, h1, h2, h3, ao2, cap, h4, h5, h6, ?_⟩
  rcases h7 with h7 | ⟨b, off, h10, h11, h12⟩
  · exact Or.inl h7
  · rw [h8] at h4
    simp only [Value.slice.injEq] at h4
    have hB := h9 ⟨b, off, none⟩ (by rw [h4.1, h10])
    refine Or.inr ⟨b, off, h10, Nat.lt_of_lt_of_le h11 hg.size, fun i hi => ?_⟩
    rw [hg.cell_far ⟨b, off + i, none⟩ h11 (by intro hh; have := hr b hh.symm; simp at hB; omega)]
    exact h12 i hi
/-- where the loop stands: a number n and what lies behind it -/
def DcI (a n k0 : Nat) (ps : List (List UInt8)) : Prop :=
  decN a = decN n ++ ps.reverse.flatten ∧ (∀ p ∈ ps, p.length ≤ 9) ∧ n * 2 ^ ps.length ≤ a ∧ ps.length ≤ k0 ∧ n ≤ a
theorem DcI.start (a k0 : Nat) : DcI a a k0 [] := ⟨by simp, by simp, by simp, by simp, Nat.le_refl _⟩
theorem DcI.step {a n k0 : Nat} {ps : List (List UInt8)} (h : DcI a n k0 ps) (hn : n ≠ 0) (ha : a < 2 ^ k0) : DcI a (n / 1000000000) k0 (ps ++ [pcD n]) := by
  obtain ⟨h1, h2, h3, h4, h5⟩ := h
  have hlen : ps.length < k0 := by
    have h6 : 2 ^ ps.length < 2 ^ k0 := by
      have : 1 * 2 ^ ps.length ≤ n * 2 ^ ps.length := Nat.mul_le_mul_right _ (by omega)
      omega
    exact (Nat.pow_lt_pow_iff_right (by omega)).1 h6
  refine ⟨?_, ?_, ?_, by simp; omega, by omega⟩
  · rw [h1, decN_step n hn]; simp
  · intro p hp
    simp at hp
    rcases hp with hp | rfl
    · exact h2 p hp
    · exact pcD_len n
  · rw [List.length_append, List.length_singleton, Nat.pow_succ]
    have : n / 1000000000 * 2 ≤ n := by omega
    calc n / 1000000000 * (2 ^ ps.length * 2) = (n / 1000000000 * 2) * 2 ^ ps.length := by rw [Nat.mul_comm (2 ^ ps.length), Nat.mul_assoc]
      _ ≤ n * 2 ^ ps.length := Nat.mul_le_mul_right _ this
      _ ≤ a := h3
theorem DcI.fin {a k0 : Nat} {ps : List (List UInt8)} (h : DcI a 0 k0 ps) (ha : a ≠ 0) : ps.reverse.flatten = Lib.decDigits a := by
  have := h.1
  unfold decN at this
  rw [if_neg ha, if_pos rfl, List.nil_append] at this
  exact this.symm

end Go.Proofs.YtmpdbmaokbhcjaaDoor
