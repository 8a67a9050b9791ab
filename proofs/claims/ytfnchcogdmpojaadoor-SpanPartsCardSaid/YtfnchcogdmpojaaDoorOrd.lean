/-
  PLAIN: the comparisons of package order as functions on integers.
-/
import Derived.Test.YtfnchcogdmpojaaDoorBa
set_option linter.unusedVariables false
set_option linter.unusedSimpArgs false
namespace Go.Proofs.YtfnchcogdmpojaaDoor.Fl

def sgnc (a b : Int) : Int := if a < b then -1 else if b < a then 1 else 0
def okey (x : Int) : Int := if 9223372036854775808 ≤ x then 18446744073709551615 - x else x + 9223372036854775808
def otot (x y : Int) : Int := sgnc (okey x) (okey y)
def ois (x y : Int) : Bool := frerr x == 0 && frerr y == 0
def ocmp (x y : Int) : Int := if ois x y then sgnc (frank x) (frank y) else 0
def onan (x y : Int) : Bool := fcls x == 5 || fcls y == 5
def oleast (x y s : Int) : Int := if onan x y then 9221120237041090560 else if otot x y * s ≤ 0 then x else y
theorem sgnc_bd (a b : Int) : -1 ≤ sgnc a b ∧ sgnc a b ≤ 1 := by unfold sgnc; omega
theorem okey_bd {x : Int} (h0 : 0 ≤ x) (h1 : x ≤ 18446744073709551615) : 0 ≤ okey x ∧ okey x ≤ 18446744073709551615 := by unfold okey; omega
theorem oleast_bd {x y s : Int} (h0 : 0 ≤ x) (h1 : x ≤ 18446744073709551615) (y0 : 0 ≤ y) (y1 : y ≤ 18446744073709551615) : 0 ≤ oleast x y s ∧ oleast x y s ≤ 18446744073709551615 := by
  unfold oleast; omega
theorem okey_inj {x y : Int} (h0 : 0 ≤ x) (h1 : x ≤ 18446744073709551615) (y0 : 0 ≤ y) (y1 : y ≤ 18446744073709551615) (h : okey x = okey y) : x = y := by
  unfold okey at h; omega
end Go.Proofs.YtfnchcogdmpojaaDoor.Fl
