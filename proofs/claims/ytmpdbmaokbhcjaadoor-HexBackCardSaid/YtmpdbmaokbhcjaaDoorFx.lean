/-
  THE WALKS of decimal.sign, point, Fixed, Exact.
-/
import Derived.Test.YtmpdbmaokbhcjaaDoorRo
import Derived.Test.YtmpdbmaokbhcjaaDoorBh
import Derived.BigQuiet
import Derived.Deep.QuietTactic
set_option linter.unusedVariables false
set_option linter.unusedSimpArgs false
namespace Go.Proofs.YtmpdbmaokbhcjaaDoor
open Go.Shelf Go.RowKit Go.Lib Nt Fm Fl

theorem rep_any (c : Nat) (X : Int) (hX : X = (c : Int)) (h : c ≤ 1000000) (w : World) :
    Calls Tryd.prog 114 #[.string ⟨#[48]⟩, .int .i64 X] w fun e w' => e = .returned (.string ⟨(List.replicate c (48 : UInt8)).toArray⟩) ∧ Below w.heap.size w w' := by
  subst hX
  have h := Any.strings_Repeat Tryd.laysRepeat extraRepeat ⟨#[48]⟩ c w (by omega) (by show 1 * c ≤ _; omega)
  rw [fRepeat] at h
  refine h.mono ?_
  rintro e w' ⟨rfl, hb⟩
  exact ⟨by rw [show (ByteArray.mk #[48]).data.toList = [48] from rfl, rep_flat], hb⟩
theorem pt_cut {T : ByteArray} {l : List UInt8} (hT : T = ⟨l.toArray⟩) (a k : Nat) (ha : a = k) (n : Nat) (hn : n = l.length) (hk : k ≤ l.length) : T.extract 0 a ++ ⟨#[46]⟩ ++ T.extract a n = ⟨(l.take k ++ 46 :: l.drop k).toArray⟩ := by
  subst hT ha hn
  apply ByteArray.ext
  simp [ByteArray.data_append, ByteArray.data_extract]
  exact List.take_of_length_le (by simp)
theorem dD_lt (d : D) (t : Int) : dD d t < 2 ^ (4 * (-t).toNat + 1 + (-d.e).toNat) := by
  unfold dD
  rw [Nat.pow_add]
  exact Nat.mul_lt_mul_of_pos_right (ten_lt _) (Nat.two_pow_pos _)
theorem dQ_lt (d : D) (t mode : Int) {k : Nat} (h : dN d t < 2 ^ k) : dQ d t mode < 2 ^ (k + 1) := by
  have h1 := rq_le d.neg (dN d t) (dD d t) mode
  have h2 := Nat.div_le_self (dN d t) (dD d t)
  have := Nat.two_pow_pos k
  unfold dQ
  rw [Nat.pow_succ]; omega
theorem dec_len_two {q k : Nat} (hk : 1 ≤ k) (h : q < 2 ^ k) : (Lib.decDigits q).length ≤ k :=
  dec_len_le k q hk (Nat.lt_of_lt_of_le h (Nat.pow_le_pow_left (by omega) k))
theorem pt_len_le (q p k : Nat) (h : (Lib.decDigits q).length ≤ k) : (pt (Lib.decDigits q) p).length ≤ p + k + 3 := by
  rw [pt_len]; split <;> omega
theorem sgS_len (x : Int) : (sgS x).length ≤ 1 := by unfold sgS; split <;> simp
theorem ba_app (a b : List UInt8) {A B : ByteArray} (hA : A = ⟨a.toArray⟩) (hB : B = ⟨b.toArray⟩) : A ++ B = ⟨(a ++ b).toArray⟩ := by
  subst hA hB; rw [ByteArray.mk_append_mk]
/-- a number with a value, as a quotient, is in its bounds -/
theorem vd_bd {x : Int} (x0 : 0 ≤ x) (x1 : x ≤ 18446744073709551615) {t : Int} (t0 : -1500 ≤ t) (t1 : t ≤ 1500) {K : Nat} (hK : 9000 ≤ K) : dN (valD x) t < 2 ^ K ∧ dD (valD x) t < 2 ^ K := by
  obtain ⟨f1, f2, f3, f4, f5⟩ := valD_facts x x0 x1
  constructor
  · refine Nat.lt_of_lt_of_le (dN_lt (valD x) t (kd := 53) f2).2 (Nat.pow_le_pow_right (by omega) (by omega))
  · exact Nat.lt_of_lt_of_le (dD_lt _ _) (Nat.pow_le_pow_right (by omega) (by omega))
/-- a call that tells a text, a mark and an error -/
def RetSBE (w : World) (s : List UInt8) (b : Bool) (x : Int) (e : Ending) (w' : World) : Prop := e = .returned (.tuple #[.string ⟨s.toArray⟩, .bool b, .int .i64 x]) ∧ Below w.heap.size w w'
def RetSE (w : World) (s : List UInt8) (x : Int) (e : Ending) (w' : World) : Prop := e = .returned (.tuple #[.string ⟨s.toArray⟩, .int .i64 x]) ∧ Below w.heap.size w w'
end Go.Proofs.YtmpdbmaokbhcjaaDoor
