/-
  SOME OF MY TEXTS in one: Ya Yb Yc Yd Ye. Each says what it proves.
-/
import Derived.Test.YtjmmgffdagcflaaGreatDoorPsc
import Derived.Test.YtjmmgffdagcflaaGreatDoorNa
import Derived.Test.YtjmmgffdagcflaaGreatDoorZr
import Derived.Test.YtjmmgffdagcflaaGreatDoorBh
import Derived.Test.YtjmmgffdagcflaaGreatDoorZu
import Derived.Test.YtjmmgffdagcflaaGreatDoorLk
set_option linter.unusedVariables false
set_option linter.unusedSimpArgs false
/-
  THE WALK of short.compare.
-/
namespace Go.Proofs.YtjmmgffdagcflaaGreatDoor
open Go.RowKit Nt Fm Fl

def cpA (a : Nat) (k e : Int) : Nat := a * 10 ^ k.toNat * 2 ^ (-e).toNat
def cpB (b : Nat) (k e : Int) : Nat := b * 2 ^ e.toNat * 10 ^ (-k).toNat
set_option maxRecDepth 100000 in
set_option maxHeartbeats 8000000 in
theorem scompare_any (va vb : Value) (a b : Nat) (k e : Int) (kd : Nat) (w : World) (ha : NV w va a) (hb : NV w vb b) (ham : a < 2 ^ kd) (hbm : b < 2 ^ kd) (hkd : kd ≤ 12800) (k0 : -3000 ≤ k) (k1 : k ≤ 3000) (e0 : -3000 ≤ e) (e1 : e ≤ 3000) :
    Calls Tryz.prog 135 #[va, .int .i64 k, vb, .int .i64 e] w fun r w' => r = .returned (.int .i64 (sgn2 (cpA a k e) (cpB b k e))) ∧ Below w.heap.size w w' := by
  obtain ⟨aa, an, ac, rfl⟩ := ha.shape
  obtain ⟨ba, bn, bc, rfl⟩ := hb.shape
  have hAm : a * 10 ^ k.toNat < 2 ^ (kd + (4 * k.toNat + 1)) := by
    rw [Nat.pow_add]
    exact Nat.mul_lt_mul_of_lt_of_le ham (Nat.le_of_lt (tenz_two _)) (Nat.two_pow_pos _)
  have hBm : b * 2 ^ e.toNat < 2 ^ (kd + e.toNat) := by
    rw [Nat.pow_add]
    exact Nat.mul_lt_mul_of_pos_right hbm (Nat.two_pow_pos _)
  have PW := Lib.hid (fun X w' (hX : X = ((k.toNat : Nat) : Int)) => pow10_z k.toNat X w' hX (by omega))
  have TM := Lib.hid (fun vb w' (h : NV w' (.slice aa an ac) a) (h2 : NV w' vb (10 ^ k.toNat)) => times_any _ vb a (10 ^ k.toNat) (kd + (4 * k.toNat + 1)) w' h h2 (Nat.lt_of_lt_of_le ham (Nat.pow_le_pow_right (by omega) (by omega))) (Nat.lt_of_lt_of_le (tenz_two _) (Nat.pow_le_pow_right (by omega) (by omega))) (by omega))
  have LF := Lib.hid (fun va X w' (h : NV w' va (a * 10 ^ k.toNat)) (hX : X = (((-e).toNat : Nat) : Int)) => left_any va _ (-e).toNat (kd + (4 * k.toNat + 1)) X w' h hX hAm (by omega) (by omega))
  have LG := Lib.hid (fun X w' (h : NV w' (.slice ba bn bc) b) (hX : X = ((e.toNat : Nat) : Int)) => left_any _ b e.toNat kd X w' h hX hbm (by omega) (by omega))
  have PX := Lib.hid (fun X w' (hX : X = (((-k).toNat : Nat) : Int)) => pow10_z (-k).toNat X w' hX (by omega))
  have TN := Lib.hid (fun va vb w' (h : NV w' va (b * 2 ^ e.toNat)) (h2 : NV w' vb (10 ^ (-k).toNat)) => times_any va vb _ (10 ^ (-k).toNat) (kd + e.toNat + (4 * (-k).toNat + 1)) w' h h2 (Nat.lt_of_lt_of_le hBm (Nat.pow_le_pow_right (by omega) (by omega))) (Nat.lt_of_lt_of_le (tenz_two _) (Nat.pow_le_pow_right (by omega) (by omega))) (by omega))
  have CP := Lib.hid (fun va vb w' (h : NV w' va (cpA a k e)) (h2 : NV w' vb (cpB b k e)) => compare_any va vb _ _ w' h h2)
  have m1 := Lib.hid (show max k 0 = ((k.toNat : Nat) : Int) by omega)
  have m2 := Lib.hid (show max (IntKind.i64.wrap (-e)) 0 = (((-e).toNat : Nat) : Int) by rw [IntWalk.i64_in _ (by omega)]; omega)
  have m3 := Lib.hid (show max e 0 = ((e.toNat : Nat) : Int) by omega)
  have m4 := Lib.hid (show max (IntKind.i64.wrap (-k)) 0 = (((-k).toNat : Nat) : Int) by rw [IntWalk.i64_in _ (by omega)]; omega)
  have m5 := Lib.hid (show max (-e) 0 = (((-e).toNat : Nat) : Int) by omega)
  have m6 := Lib.hid (show max (-k) 0 = (((-k).toNat : Nat) : Int) by omega)
  have HA := Lib.hid ha
  have HB := Lib.hid hb
  have B : Hid (Below w.heap.size w w) := Lib.hid (Below.refl _ _)
  clear ha hb ham hbm hAm hBm
  go_enter Tryz.func135, Tryz.ntmps135
  go_wp2_with fail
  refine (PW.out _ _ m1.out).mono ?_
  rintro r w1 ⟨v1, rfl, h1, hb1⟩
  replace B := Lib.hid (bl_thru B.out (Nat.le_refl _) hb1)
  replace HA := Lib.hid (HA.out.below hb1)
  replace HB := Lib.hid (HB.out.below hb1)
  have V1 := Lib.hid h1
  clear h1 hb1
  go_wp2_with fail
  refine (TM.out _ _ HA.out V1.out).mono ?_
  rintro r w2 ⟨v2, rfl, h2, hb2⟩
  replace B := Lib.hid (bl_thru B.out (Nat.le_refl _) hb2)
  replace HB := Lib.hid (HB.out.below hb2)
  have V2 := Lib.hid h2
  clear h2 hb2 V1 HA
  go_wp2_with fail
  refine (LF.out _ _ _ V2.out (by first | exact m2.out | exact m5.out)).mono ?_
  rintro r w3 ⟨v3, rfl, h3, hb3⟩
  replace B := Lib.hid (bl_thru B.out (Nat.le_refl _) hb3)
  replace HB := Lib.hid (HB.out.below hb3)
  have V3 : Hid (NV w3 v3 (cpA a k e)) := Lib.hid h3
  clear h3 hb3 V2
  go_wp2_with fail
  refine (LG.out _ _ HB.out m3.out).mono ?_
  rintro r w4 ⟨v4, rfl, h4, hb4⟩
  replace B := Lib.hid (bl_thru B.out (Nat.le_refl _) hb4)
  replace V3 := Lib.hid (V3.out.below hb4)
  have V4 := Lib.hid h4
  clear h4 hb4 HB
  go_wp2_with fail
  refine (PX.out _ _ (by first | exact m4.out | exact m6.out)).mono ?_
  rintro r w5 ⟨v5, rfl, h5, hb5⟩
  replace B := Lib.hid (bl_thru B.out (Nat.le_refl _) hb5)
  replace V3 := Lib.hid (V3.out.below hb5)
  replace V4 := Lib.hid (V4.out.below hb5)
  have V5 := Lib.hid h5
  clear h5 hb5
  go_wp2_with fail
  refine (TN.out _ _ _ V4.out V5.out).mono ?_
  rintro r w6 ⟨v6, rfl, h6, hb6⟩
  replace B := Lib.hid (bl_thru B.out (Nat.le_refl _) hb6)
  replace V3 := Lib.hid (V3.out.below hb6)
  have V6 : Hid (NV w6 v6 (cpB b k e)) := Lib.hid h6
  clear h6 hb6 V4 V5
  go_wp2_with fail
  refine (CP.out _ _ _ V3.out V6.out).mono ?_
  rintro r w7 ⟨rfl, n, rfl⟩
  go_wp2
  go_ret
  exact ⟨rfl, below_to_drewN B.out⟩
end Go.Proofs.YtjmmgffdagcflaaGreatDoor

/-
  THE WALK of short.limits.
-/
namespace Go.Proofs.YtjmmgffdagcflaaGreatDoor
open Go.RowKit Nt Fm Fl

/-- a struct of five fields in block b -/
def Bx5 (w : World) (b : Nat) (T : TypeId) (c0 c1 c2 c3 c4 : Value) : Prop := w.heap[b]? = some (.cells #[c0, c1, c2, c3, c4] T (0, 0))
section
variable {w w' : World} {b : Nat} {T : TypeId} {c0 c1 c2 c3 c4 : Value}
theorem Bx5.new (w : World) (c0 c1 c2 c3 c4 : Value) (T : TypeId) : Bx5 (w.alloc (.cells #[c0, c1, c2, c3, c4] T)) w.heap.size T c0 c1 c2 c3 c4 := heap_alloc_new w _
theorem Bx5.lt (h : Bx5 w b T c0 c1 c2 c3 c4) : b < w.heap.size := (Array.getElem?_eq_some_iff.1 h).1
theorem Bx5.below (h : Bx5 w b T c0 c1 c2 c3 c4) (hb : Below w.heap.size w w') : Bx5 w' b T c0 c1 c2 c3 c4 := (hb.block b h.lt).trans h
theorem Bx5.alloc (h : Bx5 w b T c0 c1 c2 c3 c4) (o : Obj) : Bx5 (w.alloc o) b T c0 c1 c2 c3 c4 := h.below ((Below.refl _ _).alloc (Nat.le_refl _) o)
theorem Bx5.cells (h : Bx5 w b T c0 c1 c2 c3 c4) :
    w.cell? ⟨b, 0, none⟩ = some c0 ∧ w.cell? ⟨b, 1, none⟩ = some c1 ∧ w.cell? ⟨b, 2, none⟩ = some c2 ∧ w.cell? ⟨b, 3, none⟩ = some c3 ∧ w.cell? ⟨b, 4, none⟩ = some c4 ∧
    w.frozen? ⟨b, 0, none⟩ = false ∧ w.frozen? ⟨b, 1, none⟩ = false ∧ w.frozen? ⟨b, 2, none⟩ = false ∧ w.frozen? ⟨b, 3, none⟩ = false ∧ w.frozen? ⟨b, 4, none⟩ = false := by
  unfold Bx5 at h
  refine ⟨?_, ?_, ?_, ?_, ?_, ?_, ?_, ?_, ?_, ?_⟩ <;> simp [World.cell?, World.frozen?, h]
theorem Bx5.set0 (h : Bx5 w b T c0 c1 c2 c3 c4) (v : Value) : Bx5 (w.setCell ⟨b, 0, none⟩ v) b T v c1 c2 c3 c4 := heap_set h
theorem Bx5.set1 (h : Bx5 w b T c0 c1 c2 c3 c4) (v : Value) : Bx5 (w.setCell ⟨b, 1, none⟩ v) b T c0 v c2 c3 c4 := heap_set h
theorem Bx5.set2 (h : Bx5 w b T c0 c1 c2 c3 c4) (v : Value) : Bx5 (w.setCell ⟨b, 2, none⟩ v) b T c0 c1 v c3 c4 := heap_set h
theorem Bx5.set3 (h : Bx5 w b T c0 c1 c2 c3 c4) (v : Value) : Bx5 (w.setCell ⟨b, 3, none⟩ v) b T c0 c1 c2 v c4 := heap_set h
theorem Bx5.set4 (h : Bx5 w b T c0 c1 c2 c3 c4) (v : Value) : Bx5 (w.setCell ⟨b, 4, none⟩ v) b T c0 c1 c2 c3 v := heap_set h
/-- the world with all five written -/
def set5 (w : World) (b : Nat) (d0 d1 d2 d3 d4 : Value) : World := ((((w.setCell ⟨b, 0, none⟩ d0).setCell ⟨b, 1, none⟩ d1).setCell ⟨b, 2, none⟩ d2).setCell ⟨b, 3, none⟩ d3).setCell ⟨b, 4, none⟩ d4
theorem Bx5.set5 (h : Bx5 w b T c0 c1 c2 c3 c4) (d0 d1 d2 d3 d4 : Value) : Bx5 (set5 w b d0 d1 d2 d3 d4) b T d0 d1 d2 d3 d4 := ((((h.set0 d0).set1 d1).set2 d2).set3 d3).set4 d4
theorem Bx5.set {b' o : Nat} (h : Bx5 w b T c0 c1 c2 c3 c4) (hb : b ≠ b') (v : Value) : Bx5 (w.setCell ⟨b', o, none⟩ v) b T c0 c1 c2 c3 c4 := (Below.heap_setCell _ _ _ _ hb).trans h
theorem NV.setBx {v : Value} {n : Nat} (h : NV w v n) (hb : Bx5 w b T c0 c1 c2 c3 c4) (h0 : NoLimb c0) (h1 : NoLimb c1) (h2 : NoLimb c2) (h3 : NoLimb c3) (h4 : NoLimb c4) (o : Nat) (u : Value) : NV (w.setCell ⟨b, o, none⟩ u) v n := by
  refine h.other (B := b) ?_ (by simp [World.setCell]) (fun k hk => Below.heap_setCell _ _ _ _ hk)
  intro o
  unfold Bx5 at hb
  simp only [World.cell?, hb]
  match o with
  | 0 => simpa using h0
  | 1 => simpa using h1
  | 2 => simpa using h2
  | 3 => simpa using h3
  | 4 => simpa using h4
  | o + 5 => simp
theorem NV.setB5 {v : Value} {n : Nat} {d0 d1 d2 d3 d4 : Value} (h : NV w v n) (hb : Bx5 w b T c0 c1 c2 c3 c4) (h0 : NoLimb c0) (h1 : NoLimb c1) (h2 : NoLimb c2) (h3 : NoLimb c3) (h4 : NoLimb c4) (k0 : NoLimb d0) (k1 : NoLimb d1) (k2 : NoLimb d2) (k3 : NoLimb d3) : NV (set5 w b d0 d1 d2 d3 d4) v n :=
  ((((h.setBx hb h0 h1 h2 h3 h4 0 d0).setBx (hb.set0 d0) k0 h1 h2 h3 h4 1 d1).setBx ((hb.set0 d0).set1 d1) k0 k1 h2 h3 h4 2 d2).setBx (((hb.set0 d0).set1 d1).set2 d2) k0 k1 k2 h3 h4 3 d3).setBx ((((hb.set0 d0).set1 d1).set2 d2).set3 d3) k0 k1 k2 k3 h4 4 d4
theorem bl_set5 {B : Nat} {w1 : World} (h : Below B w w1) (hb : B ≤ b) (d0 d1 d2 d3 d4 : Value) : Below B w (set5 w1 b d0 d1 d2 d3 d4) := ((((h.setCell hb _).setCell hb _).setCell hb _).setCell hb _).setCell hb _
end
def lmM (x : Int) : Nat := if 0 < fexp x then (ffr x + 4503599627370496).toNat else (ffr x).toNat
def lmE (x : Int) : Int := max (fexp x) 1 - 1077
def lmL (x : Int) : Nat := if ffr x = 0 ∧ 1 < fexp x then 4 * lmM x - 1 else 4 * lmM x - 2
/-- the limits of a number -/
def Lim5 (w : World) (x : Int) (v : Value) : Prop := ∃ a b c, v = .agg #[a, b, c, .int .i64 (lmE x), .bool (decide (ffr x % 2 = 0))] ∧ NV w a (4 * lmM x) ∧ NV w b (lmL x) ∧ NV w c (4 * lmM x + 2)
-- printed by gen_lim.py
set_option maxRecDepth 100000 in
set_option maxHeartbeats 8000000 in
theorem limits_a1 (x : Int) (e f : Int) (he : 0 ≤ e ∧ e ≤ 2047) (hf : 0 ≤ f ∧ f ≤ 4503599627370495) (h1 : f = 0) (h2 : 1 < e) (w : World)
    (HP : Hid (∀ w' : World, Calls Tryz.prog 46 #[.int .u64 x] w' fun e1 w2 => e1 = .returned (.tuple #[.bool (fng x), .int .i64 e, .int .u64 f]) ∧ w' = w2)) :
    Calls Tryz.prog 133 #[.int .u64 x] w fun r w' => ∃ v, r = .returned v ∧ (∃ a b c, v = .agg #[a, b, c, .int .i64 (max e 1 - 1077), .bool (decide (f % 2 = 0))] ∧ NV w' a (4 * (f + 4503599627370496).toNat) ∧ NV w' b (4 * (f + 4503599627370496).toNat - 1) ∧ NV w' c (4 * (f + 4503599627370496).toNat + 2)) ∧ Below w.heap.size w w' := by
  subst h1
  have hor := or_hidden 0 (by omega) (by omega)
  obtain ⟨M, hM⟩ : ∃ M : Int, (0 : Int) + 4503599627370496 = M := ⟨_, rfl⟩
  rw [hM] at hor ⊢
  have h0 : 0 < e := by omega
  have hd : decide ((0 : Int) % 2 = 0) = true := by decide
  rw [hd]
  have w1 : IntKind.u64.wrap (4 * M) = 4 * M := IntWalk.u64_in _ (by omega)
  have w2 : IntKind.u64.wrap (4 * M - 2) = 4 * M - 2 := IntWalk.u64_in _ (by omega)
  have w3 : IntKind.u64.wrap (4 * M + 2) = 4 * M + 2 := IntWalk.u64_in _ (by omega)
  have w4 : IntKind.u64.wrap (4 * M - 1) = 4 * M - 1 := IntWalk.u64_in _ (by omega)
  have OF := Lib.hid (fun y w' (h0 : 0 ≤ y) (h1 : y ≤ 18446744073709551615) => natOf_any y h0 h1 w')
  have hq := Lib.hid (show max e 1 - 1077 = max e 1 - 1075 - 2 by omega)
  rw [hq.out]
  go_enter Tryz.func133, Tryz.ntmps133
  go_wp2_with (go_at_call 46; refine (HP.out _).mono ?_; rintro e1 w' ⟨rfl, rfl⟩)
  refine (OF.out _ _ (by omega) (by omega)).mono ?_
  rintro r w1 ⟨v1, rfl, h1, hb1⟩
  obtain ⟨a1, n1, c1, rfl⟩ := h1.shape
  have Z1 := Lib.hid ((Bx5.new w (.slice none 0 0) (.slice none 0 0) (.slice none 0 0) (.int .i64 0) (.bool false) 167).below hb1)
  have B1 := Lib.hid (bl_thru ((Below.refl w.heap.size w).alloc (Nat.le_refl _) _) (Nat.le_refl _) hb1)
  have V1 := Lib.hid h1
  clear h1 hb1
  go_wp2_with fail
  refine (OF.out _ _ (by omega) (by omega)).mono ?_
  rintro r w2 ⟨v2, rfl, h2, hb2⟩
  obtain ⟨a2, n2, c2, rfl⟩ := h2.shape
  have Z2 := Lib.hid (Z1.out.below hb2)
  have B2 := Lib.hid (bl_thru B1.out (Nat.le_refl _) hb2)
  replace V1 := Lib.hid (V1.out.below hb2)
  have V2 := Lib.hid h2
  clear h2 hb2
  go_wp2_with fail
  refine (OF.out _ _ (by omega) (by omega)).mono ?_
  rintro r w3 ⟨v3, rfl, h3, hb3⟩
  obtain ⟨a3, n3, c3, rfl⟩ := h3.shape
  have Z3 := Lib.hid (Z2.out.below hb3)
  have B3 := Lib.hid (bl_thru B2.out (Nat.le_refl _) hb3)
  replace V1 := Lib.hid (V1.out.below hb3)
  replace V2 := Lib.hid (V2.out.below hb3)
  have V3 := Lib.hid h3
  clear h3 hb3
  have hB : w.heap.size < w3.heap.size := Z3.out.lt
  obtain ⟨V, hV⟩ : ∃ V, V = w3.alloc (.cells #[.slice a1 n1 c1, .slice a2 n2 c2, .slice a3 n3 c3, .int .i64 (max e 1 - 1075 - 2), .bool true] 167) := ⟨_, rfl⟩
  have X4 : Hid (Bx5 V w3.heap.size 167 (.slice a1 n1 c1) (.slice a2 n2 c2) (.slice a3 n3 c3) (.int .i64 (max e 1 - 1075 - 2)) (.bool true)) := Lib.hid (by rw [hV]; exact Bx5.new w3 (.slice a1 n1 c1) (.slice a2 n2 c2) (.slice a3 n3 c3) (.int .i64 (max e 1 - 1075 - 2)) (.bool true) 167)
  have Z4 : Hid (Bx5 V w.heap.size 167 (.slice none 0 0) (.slice none 0 0) (.slice none 0 0) (.int .i64 0) (.bool false)) := Lib.hid (by rw [hV]; exact Z3.out.alloc _)
  have B4 : Hid (Below w.heap.size w V) := Lib.hid (by rw [hV]; exact B3.out.alloc B3.out.size _)
  replace V1 : Hid (NV V (.slice a1 n1 c1) _) := Lib.hid (by rw [hV]; exact V1.out.alloc _)
  replace V2 : Hid (NV V (.slice a2 n2 c2) _) := Lib.hid (by rw [hV]; exact V2.out.alloc _)
  replace V3 : Hid (NV V (.slice a3 n3 c3) _) := Lib.hid (by rw [hV]; exact V3.out.alloc _)
  obtain ⟨bx, hbx⟩ : ∃ bx, bx = w3.heap.size := ⟨_, rfl⟩
  rw [← hbx] at X4 hB
  go_wp2_with fail
  rw [← hV]
  refine (OF.out _ _ (by omega) (by omega)).mono ?_
  rintro r w4 ⟨v4, rfl, h4, hb4⟩
  obtain ⟨a4, n4, c4, rfl⟩ := h4.shape
  have X5 := Lib.hid (X4.out.below hb4)
  have Z5 := Lib.hid (Z4.out.below hb4)
  have B5 := Lib.hid (bl_thru B4.out (Nat.le_refl _) hb4)
  replace V1 := Lib.hid (V1.out.below hb4)
  replace V3 := Lib.hid (V3.out.below hb4)
  have V4 := Lib.hid h4
  clear h4 hb4 hV V2
  rw [← hbx]
  clear hbx
  have X6 := Lib.hid (X5.out.set1 (.slice a4 n4 c4))
  have Z6 := Lib.hid (Z5.out.set (b' := bx) (o := 1) (by omega) (.slice a4 n4 c4))
  obtain ⟨p0, p1, p2, p3, p4, r0, r1, r2, r3, r4⟩ := X5.out.cells
  obtain ⟨u0, u1, u2, u3, u4, g0, g1, g2, g3, g4⟩ := X6.out.cells
  obtain ⟨s0, s1, s2, s3, s4, t0, t1, t2, t3, t4⟩ := Z6.out.cells
  go_wp2
  have Z7 := Lib.hid (Z6.out.set5 (.slice a1 n1 c1) (.slice a4 n4 c4) (.slice a3 n3 c3) (.int .i64 (max e 1 - 1075 - 2)) (.bool true))
  clear s0 s1 s2 s3 s4 t0 t1 t2 t3 t4 u0 u1 u2 u3 u4 g0 g1 g2 g3 g4 p0 p1 p2 p3 p4 r0 r1 r2 r3 r4
  obtain ⟨s0, s1, s2, s3, s4, t0, t1, t2, t3, t4⟩ := Z7.out.cells
  unfold set5 at s0 s1 s2 s3 s4
  refine bodyPost_ret (v := .agg #[.slice a1 n1 c1, .slice a4 n4 c4, .slice a3 n3 c3, .int .i64 (max e 1 - 1075 - 2), .bool true]) (by simp [results, Tryz.results133, go_sem, s0, s1, s2, s3, s4]) rfl ?_
  have st : ∀ {v : Value} {n : Nat}, NV w4 v n → NV (set5 (w4.setCell ⟨bx, 1, none⟩ (.slice a4 n4 c4)) w.heap.size (.slice a1 n1 c1) (.slice a4 n4 c4) (.slice a3 n3 c3) (.int .i64 (max e 1 - 1075 - 2)) (.bool true)) v n := fun h =>
    (h.setBx X5.out (noLimb_slice _ _ _) (noLimb_slice _ _ _) (noLimb_slice _ _ _) (noLimb_i64 _) (noLimb_bool _) 1 _).setB5 Z6.out (noLimb_slice _ _ _) (noLimb_slice _ _ _) (noLimb_slice _ _ _) (noLimb_i64 _) (noLimb_bool _) (noLimb_slice a1 n1 c1) (noLimb_slice a4 n4 c4) (noLimb_slice a3 n3 c3) (noLimb_i64 (max e 1 - 1075 - 2)) (d4 := .bool true)
  refine ⟨_, rfl, ⟨_, _, _, rfl, ?_, ?_, ?_⟩, bl_set5 (B5.out.setCell (p := ⟨bx, 1, none⟩) (by show _ ≤ bx; omega) _) (Nat.le_refl _) _ _ _ _ _⟩
  · rw [show 4 * M.toNat = (4 * M).toNat by omega]; exact st V1.out
  · rw [show 4 * M.toNat - 1 = (4 * M - 1).toNat by omega]; exact st V4.out
  · rw [show 4 * M.toNat + 2 = (4 * M + 2).toNat by omega]; exact st V3.out
set_option maxRecDepth 100000 in
set_option maxHeartbeats 8000000 in
theorem limits_a2 (x : Int) (e f : Int) (he : 0 ≤ e ∧ e ≤ 2047) (hf : 0 ≤ f ∧ f ≤ 4503599627370495) (h1 : f ≠ 0) (h0 : 0 < e) (w : World)
    (HP : Hid (∀ w' : World, Calls Tryz.prog 46 #[.int .u64 x] w' fun e1 w2 => e1 = .returned (.tuple #[.bool (fng x), .int .i64 e, .int .u64 f]) ∧ w' = w2)) :
    Calls Tryz.prog 133 #[.int .u64 x] w fun r w' => ∃ v, r = .returned v ∧ (∃ a b c, v = .agg #[a, b, c, .int .i64 (max e 1 - 1077), .bool (decide (f % 2 = 0))] ∧ NV w' a (4 * (f + 4503599627370496).toNat) ∧ NV w' b (4 * (f + 4503599627370496).toNat - 2) ∧ NV w' c (4 * (f + 4503599627370496).toNat + 2)) ∧ Below w.heap.size w w' := by
  have hor := or_hidden f (by omega) (by omega)
  obtain ⟨M, hM⟩ : ∃ M : Int, f + 4503599627370496 = M := ⟨_, rfl⟩
  rw [hM] at hor ⊢
  have hev : (f % 2 == 0) = decide (f % 2 = 0) := by rw [Bool.eq_iff_iff]; simp
  obtain ⟨ev, hev2⟩ : ∃ ev, ev = decide (f % 2 = 0) := ⟨_, rfl⟩
  rw [← hev2] at hev ⊢
  clear hev2
  have hf0 : (f == 0) = false := by rw [beq_eq_false_iff_ne]; exact h1
  have w1 : IntKind.u64.wrap (4 * M) = 4 * M := IntWalk.u64_in _ (by omega)
  have w2 : IntKind.u64.wrap (4 * M - 2) = 4 * M - 2 := IntWalk.u64_in _ (by omega)
  have w3 : IntKind.u64.wrap (4 * M + 2) = 4 * M + 2 := IntWalk.u64_in _ (by omega)
  have w4 : IntKind.u64.wrap (4 * M - 1) = 4 * M - 1 := IntWalk.u64_in _ (by omega)
  have OF := Lib.hid (fun y w' (h0 : 0 ≤ y) (h1 : y ≤ 18446744073709551615) => natOf_any y h0 h1 w')
  have hq := Lib.hid (show max e 1 - 1077 = max e 1 - 1075 - 2 by omega)
  rw [hq.out]
  go_enter Tryz.func133, Tryz.ntmps133
  go_wp2_with (go_at_call 46; refine (HP.out _).mono ?_; rintro e1 w' ⟨rfl, rfl⟩)
  refine (OF.out _ _ (by omega) (by omega)).mono ?_
  rintro r w1 ⟨v1, rfl, h1, hb1⟩
  obtain ⟨a1, n1, c1, rfl⟩ := h1.shape
  have Z1 := Lib.hid ((Bx5.new w (.slice none 0 0) (.slice none 0 0) (.slice none 0 0) (.int .i64 0) (.bool false) 167).below hb1)
  have B1 := Lib.hid (bl_thru ((Below.refl w.heap.size w).alloc (Nat.le_refl _) _) (Nat.le_refl _) hb1)
  have V1 := Lib.hid h1
  clear h1 hb1
  go_wp2_with fail
  refine (OF.out _ _ (by omega) (by omega)).mono ?_
  rintro r w2 ⟨v2, rfl, h2, hb2⟩
  obtain ⟨a2, n2, c2, rfl⟩ := h2.shape
  have Z2 := Lib.hid (Z1.out.below hb2)
  have B2 := Lib.hid (bl_thru B1.out (Nat.le_refl _) hb2)
  replace V1 := Lib.hid (V1.out.below hb2)
  have V2 := Lib.hid h2
  clear h2 hb2
  go_wp2_with fail
  refine (OF.out _ _ (by omega) (by omega)).mono ?_
  rintro r w3 ⟨v3, rfl, h3, hb3⟩
  obtain ⟨a3, n3, c3, rfl⟩ := h3.shape
  have Z3 := Lib.hid (Z2.out.below hb3)
  have B3 := Lib.hid (bl_thru B2.out (Nat.le_refl _) hb3)
  replace V1 := Lib.hid (V1.out.below hb3)
  replace V2 := Lib.hid (V2.out.below hb3)
  have V3 := Lib.hid h3
  clear h3 hb3
  have hB : w.heap.size < w3.heap.size := Z3.out.lt
  obtain ⟨V, hV⟩ : ∃ V, V = w3.alloc (.cells #[.slice a1 n1 c1, .slice a2 n2 c2, .slice a3 n3 c3, .int .i64 (max e 1 - 1075 - 2), .bool ev] 167) := ⟨_, rfl⟩
  have X4 : Hid (Bx5 V w3.heap.size 167 (.slice a1 n1 c1) (.slice a2 n2 c2) (.slice a3 n3 c3) (.int .i64 (max e 1 - 1075 - 2)) (.bool ev)) := Lib.hid (by rw [hV]; exact Bx5.new w3 (.slice a1 n1 c1) (.slice a2 n2 c2) (.slice a3 n3 c3) (.int .i64 (max e 1 - 1075 - 2)) (.bool ev) 167)
  have Z4 : Hid (Bx5 V w.heap.size 167 (.slice none 0 0) (.slice none 0 0) (.slice none 0 0) (.int .i64 0) (.bool false)) := Lib.hid (by rw [hV]; exact Z3.out.alloc _)
  have B4 : Hid (Below w.heap.size w V) := Lib.hid (by rw [hV]; exact B3.out.alloc B3.out.size _)
  replace V1 : Hid (NV V (.slice a1 n1 c1) _) := Lib.hid (by rw [hV]; exact V1.out.alloc _)
  replace V2 : Hid (NV V (.slice a2 n2 c2) _) := Lib.hid (by rw [hV]; exact V2.out.alloc _)
  replace V3 : Hid (NV V (.slice a3 n3 c3) _) := Lib.hid (by rw [hV]; exact V3.out.alloc _)
  obtain ⟨bx, hbx⟩ : ∃ bx, bx = w3.heap.size := ⟨_, rfl⟩
  rw [← hbx] at X4 hB
  obtain ⟨s0, s1, s2, s3, s4, t0, t1, t2, t3, t4⟩ := Z4.out.cells
  obtain ⟨u0, u1, u2, u3, u4, g0, g1, g2, g3, g4⟩ := X4.out.cells
  rw [hV] at s0 s1 s2 s3 s4 t0 t1 t2 t3 t4 u0 u1 u2 u3 u4 g0 g1 g2 g3 g4
  rw [hbx] at u0 u1 u2 u3 u4 g0 g1 g2 g3 g4
  go_wp2
  rw [← hV]
  have Z5 := Lib.hid (Z4.out.set5 (.slice a1 n1 c1) (.slice a2 n2 c2) (.slice a3 n3 c3) (.int .i64 (max e 1 - 1075 - 2)) (.bool ev))
  clear s0 s1 s2 s3 s4 t0 t1 t2 t3 t4 u0 u1 u2 u3 u4 g0 g1 g2 g3 g4
  obtain ⟨s0, s1, s2, s3, s4, t0, t1, t2, t3, t4⟩ := Z5.out.cells
  unfold set5 at s0 s1 s2 s3 s4
  refine bodyPost_ret (v := .agg #[.slice a1 n1 c1, .slice a2 n2 c2, .slice a3 n3 c3, .int .i64 (max e 1 - 1075 - 2), .bool ev]) (by simp [results, Tryz.results133, go_sem, s0, s1, s2, s3, s4]) rfl ?_
  have m1 := V1.out.setB5 Z4.out (noLimb_slice _ _ _) (noLimb_slice _ _ _) (noLimb_slice _ _ _) (noLimb_i64 _) (noLimb_bool _) (noLimb_slice a1 n1 c1) (noLimb_slice a2 n2 c2) (noLimb_slice a3 n3 c3) (noLimb_i64 (max e 1 - 1075 - 2)) (d4 := .bool ev)
  have m2 := V2.out.setB5 Z4.out (noLimb_slice _ _ _) (noLimb_slice _ _ _) (noLimb_slice _ _ _) (noLimb_i64 _) (noLimb_bool _) (noLimb_slice a1 n1 c1) (noLimb_slice a2 n2 c2) (noLimb_slice a3 n3 c3) (noLimb_i64 (max e 1 - 1075 - 2)) (d4 := .bool ev)
  have m3 := V3.out.setB5 Z4.out (noLimb_slice _ _ _) (noLimb_slice _ _ _) (noLimb_slice _ _ _) (noLimb_i64 _) (noLimb_bool _) (noLimb_slice a1 n1 c1) (noLimb_slice a2 n2 c2) (noLimb_slice a3 n3 c3) (noLimb_i64 (max e 1 - 1075 - 2)) (d4 := .bool ev)
  refine ⟨_, rfl, ⟨_, _, _, rfl, ?_, ?_, ?_⟩, bl_set5 B4.out (Nat.le_refl _) _ _ _ _ _⟩
  · rw [show 4 * M.toNat = (4 * M).toNat by omega]; exact m1
  · rw [show 4 * M.toNat - 2 = (4 * M - 2).toNat by omega]; exact m2
  · rw [show 4 * M.toNat + 2 = (4 * M + 2).toNat by omega]; exact m3
set_option maxRecDepth 100000 in
set_option maxHeartbeats 8000000 in
theorem limits_a3 (x : Int) (e f : Int) (he : 0 ≤ e ∧ e ≤ 2047) (hf : 0 ≤ f ∧ f ≤ 4503599627370495) (h1 : f = 0) (h2 : e = 1) (w : World)
    (HP : Hid (∀ w' : World, Calls Tryz.prog 46 #[.int .u64 x] w' fun e1 w2 => e1 = .returned (.tuple #[.bool (fng x), .int .i64 e, .int .u64 f]) ∧ w' = w2)) :
    Calls Tryz.prog 133 #[.int .u64 x] w fun r w' => ∃ v, r = .returned v ∧ (∃ a b c, v = .agg #[a, b, c, .int .i64 (max e 1 - 1077), .bool (decide (f % 2 = 0))] ∧ NV w' a (4 * (f + 4503599627370496).toNat) ∧ NV w' b (4 * (f + 4503599627370496).toNat - 2) ∧ NV w' c (4 * (f + 4503599627370496).toNat + 2)) ∧ Below w.heap.size w w' := by
  subst h1
  have h0 : 0 < e := by omega
  have h3 : ¬ 1 < e := by omega
  clear h2
  have hor := or_hidden 0 (by omega) (by omega)
  obtain ⟨M, hM⟩ : ∃ M : Int, (0 : Int) + 4503599627370496 = M := ⟨_, rfl⟩
  rw [hM] at hor ⊢
  have hd : decide ((0 : Int) % 2 = 0) = true := by decide
  rw [hd]
  have w1 : IntKind.u64.wrap (4 * M) = 4 * M := IntWalk.u64_in _ (by omega)
  have w2 : IntKind.u64.wrap (4 * M - 2) = 4 * M - 2 := IntWalk.u64_in _ (by omega)
  have w3 : IntKind.u64.wrap (4 * M + 2) = 4 * M + 2 := IntWalk.u64_in _ (by omega)
  have w4 : IntKind.u64.wrap (4 * M - 1) = 4 * M - 1 := IntWalk.u64_in _ (by omega)
  have OF := Lib.hid (fun y w' (h0 : 0 ≤ y) (h1 : y ≤ 18446744073709551615) => natOf_any y h0 h1 w')
  have hq := Lib.hid (show max e 1 - 1077 = max e 1 - 1075 - 2 by omega)
  rw [hq.out]
  go_enter Tryz.func133, Tryz.ntmps133
  go_wp2_with (go_at_call 46; refine (HP.out _).mono ?_; rintro e1 w' ⟨rfl, rfl⟩)
  refine (OF.out _ _ (by omega) (by omega)).mono ?_
  rintro r w1 ⟨v1, rfl, h1, hb1⟩
  obtain ⟨a1, n1, c1, rfl⟩ := h1.shape
  have Z1 := Lib.hid ((Bx5.new w (.slice none 0 0) (.slice none 0 0) (.slice none 0 0) (.int .i64 0) (.bool false) 167).below hb1)
  have B1 := Lib.hid (bl_thru ((Below.refl w.heap.size w).alloc (Nat.le_refl _) _) (Nat.le_refl _) hb1)
  have V1 := Lib.hid h1
  clear h1 hb1
  go_wp2_with fail
  refine (OF.out _ _ (by omega) (by omega)).mono ?_
  rintro r w2 ⟨v2, rfl, h2, hb2⟩
  obtain ⟨a2, n2, c2, rfl⟩ := h2.shape
  have Z2 := Lib.hid (Z1.out.below hb2)
  have B2 := Lib.hid (bl_thru B1.out (Nat.le_refl _) hb2)
  replace V1 := Lib.hid (V1.out.below hb2)
  have V2 := Lib.hid h2
  clear h2 hb2
  go_wp2_with fail
  refine (OF.out _ _ (by omega) (by omega)).mono ?_
  rintro r w3 ⟨v3, rfl, h3, hb3⟩
  obtain ⟨a3, n3, c3, rfl⟩ := h3.shape
  have Z3 := Lib.hid (Z2.out.below hb3)
  have B3 := Lib.hid (bl_thru B2.out (Nat.le_refl _) hb3)
  replace V1 := Lib.hid (V1.out.below hb3)
  replace V2 := Lib.hid (V2.out.below hb3)
  have V3 := Lib.hid h3
  clear h3 hb3
  have hB : w.heap.size < w3.heap.size := Z3.out.lt
  obtain ⟨V, hV⟩ : ∃ V, V = w3.alloc (.cells #[.slice a1 n1 c1, .slice a2 n2 c2, .slice a3 n3 c3, .int .i64 (max e 1 - 1075 - 2), .bool true] 167) := ⟨_, rfl⟩
  have X4 : Hid (Bx5 V w3.heap.size 167 (.slice a1 n1 c1) (.slice a2 n2 c2) (.slice a3 n3 c3) (.int .i64 (max e 1 - 1075 - 2)) (.bool true)) := Lib.hid (by rw [hV]; exact Bx5.new w3 (.slice a1 n1 c1) (.slice a2 n2 c2) (.slice a3 n3 c3) (.int .i64 (max e 1 - 1075 - 2)) (.bool true) 167)
  have Z4 : Hid (Bx5 V w.heap.size 167 (.slice none 0 0) (.slice none 0 0) (.slice none 0 0) (.int .i64 0) (.bool false)) := Lib.hid (by rw [hV]; exact Z3.out.alloc _)
  have B4 : Hid (Below w.heap.size w V) := Lib.hid (by rw [hV]; exact B3.out.alloc B3.out.size _)
  replace V1 : Hid (NV V (.slice a1 n1 c1) _) := Lib.hid (by rw [hV]; exact V1.out.alloc _)
  replace V2 : Hid (NV V (.slice a2 n2 c2) _) := Lib.hid (by rw [hV]; exact V2.out.alloc _)
  replace V3 : Hid (NV V (.slice a3 n3 c3) _) := Lib.hid (by rw [hV]; exact V3.out.alloc _)
  obtain ⟨bx, hbx⟩ : ∃ bx, bx = w3.heap.size := ⟨_, rfl⟩
  rw [← hbx] at X4 hB
  obtain ⟨s0, s1, s2, s3, s4, t0, t1, t2, t3, t4⟩ := Z4.out.cells
  obtain ⟨u0, u1, u2, u3, u4, g0, g1, g2, g3, g4⟩ := X4.out.cells
  rw [hV] at s0 s1 s2 s3 s4 t0 t1 t2 t3 t4 u0 u1 u2 u3 u4 g0 g1 g2 g3 g4
  rw [hbx] at u0 u1 u2 u3 u4 g0 g1 g2 g3 g4
  go_wp2
  rw [← hV]
  have Z5 := Lib.hid (Z4.out.set5 (.slice a1 n1 c1) (.slice a2 n2 c2) (.slice a3 n3 c3) (.int .i64 (max e 1 - 1075 - 2)) (.bool true))
  clear s0 s1 s2 s3 s4 t0 t1 t2 t3 t4 u0 u1 u2 u3 u4 g0 g1 g2 g3 g4
  obtain ⟨s0, s1, s2, s3, s4, t0, t1, t2, t3, t4⟩ := Z5.out.cells
  unfold set5 at s0 s1 s2 s3 s4
  refine bodyPost_ret (v := .agg #[.slice a1 n1 c1, .slice a2 n2 c2, .slice a3 n3 c3, .int .i64 (max e 1 - 1075 - 2), .bool true]) (by simp [results, Tryz.results133, go_sem, s0, s1, s2, s3, s4]) rfl ?_
  have m1 := V1.out.setB5 Z4.out (noLimb_slice _ _ _) (noLimb_slice _ _ _) (noLimb_slice _ _ _) (noLimb_i64 _) (noLimb_bool _) (noLimb_slice a1 n1 c1) (noLimb_slice a2 n2 c2) (noLimb_slice a3 n3 c3) (noLimb_i64 (max e 1 - 1075 - 2)) (d4 := .bool true)
  have m2 := V2.out.setB5 Z4.out (noLimb_slice _ _ _) (noLimb_slice _ _ _) (noLimb_slice _ _ _) (noLimb_i64 _) (noLimb_bool _) (noLimb_slice a1 n1 c1) (noLimb_slice a2 n2 c2) (noLimb_slice a3 n3 c3) (noLimb_i64 (max e 1 - 1075 - 2)) (d4 := .bool true)
  have m3 := V3.out.setB5 Z4.out (noLimb_slice _ _ _) (noLimb_slice _ _ _) (noLimb_slice _ _ _) (noLimb_i64 _) (noLimb_bool _) (noLimb_slice a1 n1 c1) (noLimb_slice a2 n2 c2) (noLimb_slice a3 n3 c3) (noLimb_i64 (max e 1 - 1075 - 2)) (d4 := .bool true)
  refine ⟨_, rfl, ⟨_, _, _, rfl, ?_, ?_, ?_⟩, bl_set5 B4.out (Nat.le_refl _) _ _ _ _ _⟩
  · rw [show 4 * M.toNat = (4 * M).toNat by omega]; exact m1
  · rw [show 4 * M.toNat - 2 = (4 * M - 2).toNat by omega]; exact m2
  · rw [show 4 * M.toNat + 2 = (4 * M + 2).toNat by omega]; exact m3
set_option maxRecDepth 100000 in
set_option maxHeartbeats 8000000 in
theorem limits_b (x : Int) (e f : Int) (he : 0 ≤ e ∧ e ≤ 2047) (hf : 0 ≤ f ∧ f ≤ 4503599627370495) (h1 : f ≠ 0) (h2 : e = 0) (w : World)
    (HP : Hid (∀ w' : World, Calls Tryz.prog 46 #[.int .u64 x] w' fun e1 w2 => e1 = .returned (.tuple #[.bool (fng x), .int .i64 e, .int .u64 f]) ∧ w' = w2)) :
    Calls Tryz.prog 133 #[.int .u64 x] w fun r w' => ∃ v, r = .returned v ∧ (∃ a b c, v = .agg #[a, b, c, .int .i64 (max e 1 - 1077), .bool (decide (f % 2 = 0))] ∧ NV w' a (4 * (f).toNat) ∧ NV w' b (4 * (f).toNat - 2) ∧ NV w' c (4 * (f).toNat + 2)) ∧ Below w.heap.size w w' := by
  have h3 : ¬ 0 < e := by omega
  clear h2
  have hf0 : (f == 0) = false := by rw [beq_eq_false_iff_ne]; exact h1
  have hev : (f % 2 == 0) = decide (f % 2 = 0) := by rw [Bool.eq_iff_iff]; simp
  obtain ⟨ev, hev2⟩ : ∃ ev, ev = decide (f % 2 = 0) := ⟨_, rfl⟩
  rw [← hev2] at hev ⊢
  clear hev2
  have w1 : IntKind.u64.wrap (4 * f) = 4 * f := IntWalk.u64_in _ (by omega)
  have w2 : IntKind.u64.wrap (4 * f - 2) = 4 * f - 2 := IntWalk.u64_in _ (by omega)
  have w3 : IntKind.u64.wrap (4 * f + 2) = 4 * f + 2 := IntWalk.u64_in _ (by omega)
  have w4 : IntKind.u64.wrap (4 * f - 1) = 4 * f - 1 := IntWalk.u64_in _ (by omega)
  have OF := Lib.hid (fun y w' (h0 : 0 ≤ y) (h1 : y ≤ 18446744073709551615) => natOf_any y h0 h1 w')
  have hq := Lib.hid (show max e 1 - 1077 = max e 1 - 1075 - 2 by omega)
  rw [hq.out]
  go_enter Tryz.func133, Tryz.ntmps133
  go_wp2_with (go_at_call 46; refine (HP.out _).mono ?_; rintro e1 w' ⟨rfl, rfl⟩)
  refine (OF.out _ _ (by omega) (by omega)).mono ?_
  rintro r w1 ⟨v1, rfl, h1, hb1⟩
  obtain ⟨a1, n1, c1, rfl⟩ := h1.shape
  have Z1 := Lib.hid ((Bx5.new w (.slice none 0 0) (.slice none 0 0) (.slice none 0 0) (.int .i64 0) (.bool false) 167).below hb1)
  have B1 := Lib.hid (bl_thru ((Below.refl w.heap.size w).alloc (Nat.le_refl _) _) (Nat.le_refl _) hb1)
  have V1 := Lib.hid h1
  clear h1 hb1
  go_wp2_with fail
  refine (OF.out _ _ (by omega) (by omega)).mono ?_
  rintro r w2 ⟨v2, rfl, h2, hb2⟩
  obtain ⟨a2, n2, c2, rfl⟩ := h2.shape
  have Z2 := Lib.hid (Z1.out.below hb2)
  have B2 := Lib.hid (bl_thru B1.out (Nat.le_refl _) hb2)
  replace V1 := Lib.hid (V1.out.below hb2)
  have V2 := Lib.hid h2
  clear h2 hb2
  go_wp2_with fail
  refine (OF.out _ _ (by omega) (by omega)).mono ?_
  rintro r w3 ⟨v3, rfl, h3, hb3⟩
  obtain ⟨a3, n3, c3, rfl⟩ := h3.shape
  have Z3 := Lib.hid (Z2.out.below hb3)
  have B3 := Lib.hid (bl_thru B2.out (Nat.le_refl _) hb3)
  replace V1 := Lib.hid (V1.out.below hb3)
  replace V2 := Lib.hid (V2.out.below hb3)
  have V3 := Lib.hid h3
  clear h3 hb3
  have hB : w.heap.size < w3.heap.size := Z3.out.lt
  obtain ⟨V, hV⟩ : ∃ V, V = w3.alloc (.cells #[.slice a1 n1 c1, .slice a2 n2 c2, .slice a3 n3 c3, .int .i64 (max e 1 - 1075 - 2), .bool ev] 167) := ⟨_, rfl⟩
  have X4 : Hid (Bx5 V w3.heap.size 167 (.slice a1 n1 c1) (.slice a2 n2 c2) (.slice a3 n3 c3) (.int .i64 (max e 1 - 1075 - 2)) (.bool ev)) := Lib.hid (by rw [hV]; exact Bx5.new w3 (.slice a1 n1 c1) (.slice a2 n2 c2) (.slice a3 n3 c3) (.int .i64 (max e 1 - 1075 - 2)) (.bool ev) 167)
  have Z4 : Hid (Bx5 V w.heap.size 167 (.slice none 0 0) (.slice none 0 0) (.slice none 0 0) (.int .i64 0) (.bool false)) := Lib.hid (by rw [hV]; exact Z3.out.alloc _)
  have B4 : Hid (Below w.heap.size w V) := Lib.hid (by rw [hV]; exact B3.out.alloc B3.out.size _)
  replace V1 : Hid (NV V (.slice a1 n1 c1) _) := Lib.hid (by rw [hV]; exact V1.out.alloc _)
  replace V2 : Hid (NV V (.slice a2 n2 c2) _) := Lib.hid (by rw [hV]; exact V2.out.alloc _)
  replace V3 : Hid (NV V (.slice a3 n3 c3) _) := Lib.hid (by rw [hV]; exact V3.out.alloc _)
  obtain ⟨bx, hbx⟩ : ∃ bx, bx = w3.heap.size := ⟨_, rfl⟩
  rw [← hbx] at X4 hB
  obtain ⟨s0, s1, s2, s3, s4, t0, t1, t2, t3, t4⟩ := Z4.out.cells
  obtain ⟨u0, u1, u2, u3, u4, g0, g1, g2, g3, g4⟩ := X4.out.cells
  rw [hV] at s0 s1 s2 s3 s4 t0 t1 t2 t3 t4 u0 u1 u2 u3 u4 g0 g1 g2 g3 g4
  rw [hbx] at u0 u1 u2 u3 u4 g0 g1 g2 g3 g4
  go_wp2
  rw [← hV]
  have Z5 := Lib.hid (Z4.out.set5 (.slice a1 n1 c1) (.slice a2 n2 c2) (.slice a3 n3 c3) (.int .i64 (max e 1 - 1075 - 2)) (.bool ev))
  clear s0 s1 s2 s3 s4 t0 t1 t2 t3 t4 u0 u1 u2 u3 u4 g0 g1 g2 g3 g4
  obtain ⟨s0, s1, s2, s3, s4, t0, t1, t2, t3, t4⟩ := Z5.out.cells
  unfold set5 at s0 s1 s2 s3 s4
  refine bodyPost_ret (v := .agg #[.slice a1 n1 c1, .slice a2 n2 c2, .slice a3 n3 c3, .int .i64 (max e 1 - 1075 - 2), .bool ev]) (by simp [results, Tryz.results133, go_sem, s0, s1, s2, s3, s4]) rfl ?_
  have m1 := V1.out.setB5 Z4.out (noLimb_slice _ _ _) (noLimb_slice _ _ _) (noLimb_slice _ _ _) (noLimb_i64 _) (noLimb_bool _) (noLimb_slice a1 n1 c1) (noLimb_slice a2 n2 c2) (noLimb_slice a3 n3 c3) (noLimb_i64 (max e 1 - 1075 - 2)) (d4 := .bool ev)
  have m2 := V2.out.setB5 Z4.out (noLimb_slice _ _ _) (noLimb_slice _ _ _) (noLimb_slice _ _ _) (noLimb_i64 _) (noLimb_bool _) (noLimb_slice a1 n1 c1) (noLimb_slice a2 n2 c2) (noLimb_slice a3 n3 c3) (noLimb_i64 (max e 1 - 1075 - 2)) (d4 := .bool ev)
  have m3 := V3.out.setB5 Z4.out (noLimb_slice _ _ _) (noLimb_slice _ _ _) (noLimb_slice _ _ _) (noLimb_i64 _) (noLimb_bool _) (noLimb_slice a1 n1 c1) (noLimb_slice a2 n2 c2) (noLimb_slice a3 n3 c3) (noLimb_i64 (max e 1 - 1075 - 2)) (d4 := .bool ev)
  refine ⟨_, rfl, ⟨_, _, _, rfl, ?_, ?_, ?_⟩, bl_set5 B4.out (Nat.le_refl _) _ _ _ _ _⟩
  · rw [show 4 * f.toNat = (4 * f).toNat by omega]; exact m1
  · rw [show 4 * f.toNat - 2 = (4 * f - 2).toNat by omega]; exact m2
  · rw [show 4 * f.toNat + 2 = (4 * f + 2).toNat by omega]; exact m3
theorem limits_any (x : Int) (x0 : 0 ≤ x) (x1 : x ≤ 18446744073709551615) (hm : 1 ≤ lmM x) (w : World) :
    Calls Tryz.prog 133 #[.int .u64 x] w fun r w' => ∃ v, r = .returned v ∧ Lim5 w' x v ∧ Below w.heap.size w w' := by
  have HP := Lib.hid (fun w' => parts_any x x0 x1 w')
  unfold Lim5 lmL lmE lmM
  unfold lmM at hm
  have hf := ffr_bd x
  have he := fexp_bd x
  generalize fexp x = e at *
  generalize ffr x = f at *
  by_cases h0 : 0 < e
  · rw [if_pos h0] at hm ⊢
    by_cases h1 : f = 0
    · by_cases h2 : 1 < e
      · rw [if_pos ⟨h1, h2⟩]
        exact limits_a1 x e f he hf h1 h2 w HP
      · rw [if_neg (fun h => h2 h.2)]
        exact limits_a3 x e f he hf h1 (by omega) w HP
    · rw [if_neg (fun h => h1 h.1)]
      exact limits_a2 x e f he hf h1 h0 w HP
  · rw [if_neg h0] at hm ⊢
    rw [if_neg (fun h => h0 (by omega))]
    exact limits_b x e f he hf (by omega) (by omega) w HP
end Go.Proofs.YtjmmgffdagcflaaGreatDoor

/-
  THE WALK of (short.bounds).fits.
-/
namespace Go.Proofs.YtjmmgffdagcflaaGreatDoor
open Go.RowKit Nt Fm Fl

def ftLo (n L : Nat) (k e : Int) : Int := sgn2 (cpA n k e) (cpB L k e)
def ftB (n L H : Nat) (k e : Int) (ev : Bool) : Bool := (decide (0 < ftLo n L k e) && decide (ftLo n H k e < 0)) || (ev && (ftLo n L k e == 0 || ftLo n H k e == 0))
set_option maxRecDepth 100000 in
set_option maxHeartbeats 8000000 in
theorem fits_any (va vb vc vn : Value) (L H n : Nat) (k e : Int) (ev : Bool) (kd : Nat) (w : World) (hb : NV w vb L) (hc : NV w vc H) (hn : NV w vn n) (hA : ∃ S, NV w va S) (hLm : L < 2 ^ kd) (hHm : H < 2 ^ kd) (hnm : n < 2 ^ kd) (hkd : kd ≤ 12800) (k0 : -3000 ≤ k) (k1 : k ≤ 3000) (e0 : -3000 ≤ e) (e1 : e ≤ 3000) :
    Calls Tryz.prog 134 #[.agg #[va, vb, vc, .int .i64 e, .bool ev], vn, .int .i64 k] w fun r w' => r = .returned (.bool (ftB n L H k e ev)) ∧ Below w.heap.size w w' := by
  obtain ⟨S, hA⟩ := hA
  obtain ⟨aa, an, ac, rfl⟩ := hA.shape
  obtain ⟨ba, bn, bc, rfl⟩ := hb.shape
  obtain ⟨ca, cn, cc, rfl⟩ := hc.shape
  obtain ⟨na, nn, nc, rfl⟩ := hn.shape
  have C1 := Lib.hid (fun w' (h : NV w' (.slice na nn nc) n) (h2 : NV w' (.slice ba bn bc) L) => scompare_any _ _ n L k e kd w' h h2 hnm hLm hkd k0 k1 e0 e1)
  have C2 := Lib.hid (fun w' (h : NV w' (.slice na nn nc) n) (h2 : NV w' (.slice ca cn cc) H) => scompare_any _ _ n H k e kd w' h h2 hnm hHm hkd k0 k1 e0 e1)
  unfold ftB ftLo
  generalize sgn2 (cpA n k e) (cpB L k e) = lo at *
  generalize sgn2 (cpA n k e) (cpB H k e) = hi at *
  have HB := Lib.hid hb
  have HC := Lib.hid hc
  have HN := Lib.hid hn
  clear hb hc hn hA hLm hHm hnm
  go_enter Tryz.func134, Tryz.ntmps134
  go_wp2_with fail
  obtain ⟨V, hV⟩ : ∃ V, V = w.alloc (.cells #[.slice aa an ac, .slice ba bn bc, .slice ca cn cc, .int .i64 e, .bool ev] 167) := ⟨_, rfl⟩
  have X : Hid (Bx5 V w.heap.size 167 (.slice aa an ac) (.slice ba bn bc) (.slice ca cn cc) (.int .i64 e) (.bool ev)) := Lib.hid (by rw [hV]; exact Bx5.new w _ _ _ _ _ _)
  have B : Hid (Below w.heap.size w V) := Lib.hid (by rw [hV]; exact (Below.refl _ _).alloc (Nat.le_refl _) _)
  replace HB : Hid (NV V (.slice ba bn bc) L) := Lib.hid (by rw [hV]; exact HB.out.alloc _)
  replace HC : Hid (NV V (.slice ca cn cc) H) := Lib.hid (by rw [hV]; exact HC.out.alloc _)
  replace HN : Hid (NV V (.slice na nn nc) n) := Lib.hid (by rw [hV]; exact HN.out.alloc _)
  rw [← hV]
  clear hV
  have X0 : Hid (Bx5 V.drew w.heap.size 167 (.slice aa an ac) (.slice ba bn bc) (.slice ca cn cc) (.int .i64 e) (.bool ev)) := Lib.hid X.out
  obtain ⟨p0, p1, p2, p3, p4, -, -, -, -, -⟩ := X0.out.cells
  go_region_held3 (fun w' => w'.cell? ⟨w.heap.size, 1, none⟩ = some (.slice ba bn bc) ∧ w'.cell? ⟨w.heap.size, 2, none⟩ = some (.slice ca cn cc) ∧ w'.cell? ⟨w.heap.size, 3, none⟩ = some (.int .i64 e) ∧ w'.cell? ⟨w.heap.size, 4, none⟩ = some (.bool ev))
    (first
      | with_reducible exact ⟨p1, p2, p3, p4⟩
      | (obtain ⟨p0, p1, p2, p3, p4, -, -, -, -, -⟩ := X1.out.cells; exact ⟨p1, p2, p3, p4⟩)
      | (obtain ⟨p0, p1, p2, p3, p4, -, -, -, -, -⟩ := X2.out.cells; exact ⟨p1, p2, p3, p4⟩)
      | (go_keep; done))
    (first
      | (go_at_call_of 135 (Value.slice ba bn bc); refine (C1.out _ (HN.out.below (Below.refl _ _).drew) (HB.out.below (Below.refl _ _).drew)).mono ?_; rintro r w1 ⟨rfl, hb1⟩; have X1 := Lib.hid (X0.out.below hb1); have B1 := Lib.hid (bl_thru B.out.drew (Nat.le_refl _) hb1); have HN1 := Lib.hid ((HN.out.below (Below.refl _ _).drew).below hb1); have HC1 := Lib.hid ((HC.out.below (Below.refl _ _).drew).below hb1))
      | (go_at_call_of 135 (Value.slice ca cn cc); refine (C2.out _ HN1.out HC1.out).mono ?_; rintro r w2 ⟨rfl, hb2⟩; have X2 := Lib.hid (X1.out.below hb2); have B2 := Lib.hid (bl_thru B1.out (Nat.le_refl _) hb2)))
  clear p0 p1 p2 p3 p4 hb1 hb2
  obtain ⟨p0, p1, p2, p3, p4, -, -, -, -, -⟩ := X2.out.cells
  go_wp2
  all_goals first
    | (go_ret; refine ⟨congrArg (fun b => Ending.returned (Value.bool b)) ?_, B2.out⟩; rw [Bool.eq_iff_iff]; clear X X0 X1 X2 B B1 B2 HB HC HN HN1 HC1 C1 C2 p0 p1 p2 p3 p4; simp_all; done)
    | (go_ret; refine ⟨congrArg (fun b => Ending.returned (Value.bool b)) ?_, B2.out⟩; rw [Bool.eq_iff_iff]; clear X X0 X1 X2 B B1 B2 HB HC HN HN1 HC1 C1 C2 p0 p1 p2 p3 p4; simp_all; omega)
    | (go_ret; refine ⟨congrArg (fun b => Ending.returned (Value.bool b)) ?_, B2.out⟩; clear X X0 X1 X2 B B1 B2 HB HC HN HN1 HC1 C1 C2 p0 p1 p2 p3 p4; grind)
    | trace_state
end Go.Proofs.YtjmmgffdagcflaaGreatDoor

/-
  PLAIN: the fewest digits (STEELE, WHITE): what short.Digits tells.
-/
namespace Go.Proofs.YtjmmgffdagcflaaGreatDoor
open Nt Fm Fl

theorem sg_pos (a b : Nat) : 0 < sgn2 (a : Int) (b : Int) ↔ b < a := by unfold sgn2; split <;> (try split) <;> omega
theorem sg_neg (a b : Nat) : sgn2 (a : Int) (b : Int) < 0 ↔ a < b := by unfold sgn2; split <;> (try split) <;> omega
theorem sg_nul (a b : Nat) : sgn2 (a : Int) (b : Int) = 0 ↔ a = b := by unfold sgn2; split <;> (try split) <;> omega
/-- both sides' factors -/
def shA (k e : Int) : Nat := 10 ^ k.toNat * 2 ^ (-e).toNat
def shB (k e : Int) : Nat := 2 ^ e.toNat * 10 ^ (-k).toNat
theorem shA_pos (k e : Int) : 0 < shA k e := Nat.mul_pos (Nat.pow_pos (by omega)) (Nat.two_pow_pos _)
theorem shB_pos (k e : Int) : 0 < shB k e := Nat.mul_pos (Nat.two_pow_pos _) (Nat.pow_pos (by omega))
theorem cpA_eq (a : Nat) (k e : Int) : cpA a k e = a * shA k e := by unfold cpA shA; rw [Nat.mul_assoc]
theorem cpB_eq (b : Nat) (k e : Int) : cpB b k e = b * shB k e := by unfold cpB shB; rw [Nat.mul_assoc]
theorem ft_iff (n L H : Nat) (k e : Int) (ev : Bool) : ftB n L H k e ev = true ↔ (L * shB k e < n * shA k e ∧ n * shA k e < H * shB k e) ∨ (ev = true ∧ (n * shA k e = L * shB k e ∨ n * shA k e = H * shB k e)) := by
  unfold ftB ftLo
  rw [cpA_eq, cpB_eq, cpB_eq, Bool.or_eq_true, Bool.and_eq_true, Bool.and_eq_true, Bool.or_eq_true, decide_eq_true_eq, decide_eq_true_eq, beq_iff_eq, beq_iff_eq, sg_pos, sg_neg, sg_nul, sg_nul]
/-- a number and its parts -/
theorem parts_eq {x : Int} (x0 : 0 ≤ x) (x1 : x ≤ 18446744073709551615) : fabs x = fexp x * 4503599627370496 + ffr x := by unfold fabs fexp ffr; omega
theorem lm_mag {x : Int} (x0 : 0 ≤ x) (x1 : x ≤ 18446744073709551615) : mag (fabs x).toNat = lmM x * 2 ^ ((fexp x).toNat - 1) ∧ ulp (fabs x).toNat = 2 ^ ((fexp x).toNat - 1) ∧ lmE x + 1076 = (((fexp x).toNat - 1 : Nat) : Int) := by
  have hp := parts_eq x0 x1
  have hf := ffr_bd x
  have he := fexp_bd x
  unfold lmM lmE
  generalize fexp x = e at *
  generalize ffr x = f at *
  generalize fabs x = a at *
  subst hp
  refine ⟨?_, ?_, by omega⟩
  · by_cases h : 0 < e
    · rw [if_pos h]
      have := mag_of (f + 4503599627370496).toNat (e.toNat - 1) (Or.inl (by omega)) (by omega)
      rw [← this]
      congr 1
      omega
    · rw [if_neg h]
      have := mag_of f.toNat 0 (Or.inr rfl) (by omega)
      rw [show e.toNat - 1 = 0 by omega, ← this]
      congr 1
      omega
  · unfold ulp
    congr 2
    omega
theorem lm_ulp {x : Int} (x0 : 0 ≤ x) (x1 : x ≤ 18446744073709551615) (hx : 1 ≤ fabs x) :
    4 * ulp ((fabs x).toNat - 1) * 2 = 4 * (4 * lmM x - lmL x) * 2 ^ ((fexp x).toNat - 1) ∧ 1 ≤ lmM x := by
  have hp := parts_eq x0 x1
  have hf := ffr_bd x
  have he := fexp_bd x
  have hm1 : 1 ≤ lmM x := by unfold lmM; split <;> omega
  refine ⟨?_, hm1⟩
  unfold lmL
  have hM : (4 * lmM x - (if ffr x = 0 ∧ 1 < fexp x then 4 * lmM x - 1 else 4 * lmM x - 2)) = if ffr x = 0 ∧ 1 < fexp x then 1 else 2 := by split <;> omega
  rw [hM]
  clear hM hm1
  generalize fexp x = e at *
  generalize ffr x = f at *
  generalize fabs x = a at *
  subst hp
  unfold ulp
  by_cases h : f = 0 ∧ 1 < e
  · obtain ⟨rfl, h2⟩ := h
    rw [if_pos ⟨rfl, h2⟩, show ((e * 4503599627370496 + 0).toNat - 1) / 4503599627370496 - 1 = e.toNat - 2 by omega, show e.toNat - 1 = (e.toNat - 2) + 1 by omega, Nat.pow_succ]
    omega
  · rw [if_neg h, show ((e * 4503599627370496 + f).toNat - 1) / 4503599627370496 - 1 = e.toNat - 1 by omega]
    omega
/-- what fits is read as it -/
theorem fits_rat {x : Int} (x0 : 0 ≤ x) (x1 : x ≤ 18446744073709551615) (hv : hasV x = true) (hx : 1 ≤ fabs x) (N : Nat) (K : Int) :
    ftB N (lmL x) (4 * lmM x + 2) K (lmE x) (decide (ffr x % 2 = 0)) = true ↔ rat 2 (rdA N K) (rdB K) = (fabs x).toNat := by
  have hMR : MR = 9218868437227405312 := rfl
  have hlt : (fabs x).toNat < MR := by unfold hasV at hv; rw [decide_eq_true_eq] at hv; omega
  obtain ⟨m1, m2, m3⟩ := lm_mag x0 x1
  obtain ⟨m4, m5⟩ := lm_ulp x0 x1 hx
  have s1 := mag_succ (fabs x).toNat
  have s2 := mag_succ ((fabs x).toNat - 1)
  rw [show (fabs x).toNat - 1 + 1 = (fabs x).toNat by omega] at s2
  rw [rat2_iff (rdB_pos K) hlt, ft_iff]
  have hpar : (fabs x).toNat % 2 = 0 ↔ ffr x % 2 = 0 := by have := parts_eq x0 x1; omega
  have hL : lmL x ≤ 4 * lmM x := by unfold lmL; split <;> omega
  rw [decide_eq_true_eq, hpar]
  -- all in one unit
  obtain ⟨g, hg⟩ : ∃ g, g = (fexp x).toNat - 1 := ⟨_, rfl⟩
  rw [← hg] at m1 m2 m3 m4
  have hr0 : ¬ (fabs x).toNat = 0 := by omega
  have eL : 2 * (mag ((fabs x).toNat - 1) + mag (fabs x).toNat) = lmL x * 2 ^ g := by
    have e1 : 4 * (4 * lmM x - lmL x) * 2 ^ g = 4 * (4 * (lmM x * 2 ^ g)) - 4 * (lmL x * 2 ^ g) := by
      rw [Nat.mul_assoc, Nat.sub_mul, Nat.mul_sub, Nat.mul_assoc 4 (lmM x)]
    have e2 : lmL x * 2 ^ g ≤ 4 * (lmM x * 2 ^ g) := by rw [← Nat.mul_assoc]; exact Nat.mul_le_mul_right _ hL
    rw [e1] at m4
    rw [m1] at s2
    omega
  have eH : 2 * (mag (fabs x).toNat + mag ((fabs x).toNat + 1)) = (4 * lmM x + 2) * 2 ^ g := by
    rw [s1, m1, m2, Nat.add_mul, Nat.mul_assoc]; omega
  have hLH : lmL x < 4 * lmM x + 2 := by omega
  have hu := u74_pos
  have hVS : 0 < 2 ^ (lmE x).toNat * 10 ^ (-K).toNat := Nat.mul_pos (Nat.two_pow_pos _) (Nat.pow_pos (by omega))
  unfold rdA rdB shA shB
  generalize mag ((fabs x).toNat - 1) + mag (fabs x).toNat = l at *
  generalize mag (fabs x).toNat + mag ((fabs x).toNat + 1) = h at *
  generalize lmL x = L at *
  generalize 4 * lmM x + 2 = H at *
  generalize lmE x = E at *
  have hU : 2 ^ g * 2 ^ (-E).toNat = 4 * u74 * 2 ^ E.toNat := by
    have h22 : (2 : Nat) ^ 2 = 4 := rfl
    have h4 : 4 * u74 = 2 ^ (K74 + 2) := by rw [u74, Nat.pow_add, h22, Nat.mul_comm]
    rw [h4, ← Nat.pow_add, ← Nat.pow_add]
    have hK : K74 = 1074 := rfl
    have hq : g + (-E).toNat = K74 + 2 + E.toNat := by omega
    rw [hq]
  have hW := Nat.two_pow_pos (-E).toNat
  have hG := Nat.two_pow_pos g
  generalize (10 : Nat) ^ K.toNat = T at *
  generalize (10 : Nat) ^ (-K).toNat = S at *
  generalize (2 : Nat) ^ E.toNat = V at *
  generalize (2 : Nat) ^ (-E).toNat = W at *
  generalize (2 : Nat) ^ g = G at *
  generalize u74 = U at *
  -- l S against 2 N T U: times 2 W
  have c1 : l * S * (2 * W) = L * (V * S) * (4 * U) := by
    calc l * S * (2 * W) = (2 * l) * S * W := by ac_rfl
      _ = L * G * S * W := by rw [eL]
      _ = L * S * (G * W) := by ac_rfl
      _ = L * S * (4 * U * V) := by rw [hU]
      _ = _ := by ac_rfl
  have c2 : h * S * (2 * W) = H * (V * S) * (4 * U) := by
    calc h * S * (2 * W) = (2 * h) * S * W := by ac_rfl
      _ = H * G * S * W := by rw [eH]
      _ = H * S * (G * W) := by ac_rfl
      _ = H * S * (4 * U * V) := by rw [hU]
      _ = _ := by ac_rfl
  have c3 : 2 * (N * T * U) * (2 * W) = N * (T * W) * (4 * U) := by
    calc 2 * (N * T * U) * (2 * W) = (2 * 2) * (N * (T * W) * U) := by ac_rfl
      _ = 4 * (N * (T * W) * U) := rfl
      _ = _ := by ac_rfl
  have hU0 : 0 < 4 * U := by omega
  have h2W : 0 < 2 * W := by omega
  have lt1 : l * S < 2 * (N * T * U) ↔ L * (V * S) < N * (T * W) := by
    rw [← Nat.mul_lt_mul_right h2W, c1, c3, Nat.mul_lt_mul_right hU0]
  have eq1 : l * S = 2 * (N * T * U) ↔ L * (V * S) = N * (T * W) := by
    rw [← Nat.mul_left_inj (show 2 * W ≠ 0 by omega), c1, c3, Nat.mul_left_inj (by omega)]
  have lt2 : 2 * (N * T * U) < h * S ↔ N * (T * W) < H * (V * S) := by
    rw [← Nat.mul_lt_mul_right h2W, c2, c3, Nat.mul_lt_mul_right hU0]
  have eq2 : 2 * (N * T * U) = h * S ↔ N * (T * W) = H * (V * S) := by
    rw [← Nat.mul_left_inj (show 2 * W ≠ 0 by omega), c2, c3, Nat.mul_left_inj (by omega)]
  rw [lt1, eq1, lt2, eq2]
  have hy := Nat.mul_lt_mul_of_pos_right hLH hVS
  generalize L * (V * S) = y1 at *
  generalize N * (T * W) = y2 at *
  generalize H * (V * S) = y3 at *
  generalize (ffr x % 2 = 0) = ev at *
  constructor
  · rintro (⟨h1, h2⟩ | ⟨h1, h2 | h2⟩)
    · exact ⟨Or.inr (Or.inl h1), Or.inl h2⟩
    · exact ⟨Or.inr (Or.inr ⟨h2.symm, h1⟩), Or.inl (by omega)⟩
    · exact ⟨Or.inr (Or.inl (by omega)), Or.inr ⟨h2, h1⟩⟩
  · rintro ⟨h1 | h1 | ⟨h1, h3⟩, h2 | ⟨h2, h4⟩⟩
    · exact absurd h1 hr0
    · exact absurd h1 hr0
    · exact Or.inl ⟨h1, h2⟩
    · exact Or.inr ⟨h4, Or.inr h2⟩
    · exact Or.inr ⟨h3, Or.inl h1.symm⟩
    · exact Or.inr ⟨h3, Or.inl h1.symm⟩
end Go.Proofs.YtjmmgffdagcflaaGreatDoor

/-
  PLAIN: the fewest digits: where the search stops, and what stands there.
-/
namespace Go.Proofs.YtjmmgffdagcflaaGreatDoor
open Nt Fm Fl

theorem sh_norm_up (g : Bool) (m : Nat) (x : Int) : norm g (4 * m) (x - 2) = norm g m x := by
  have h1 : 0 ≤ x - 2 + ((((-x).toNat + 2 : Nat)) : Int) := by omega
  generalize ((-x).toNat + 2 : Nat) = T at *
  refine nf_inj (norm_nf _ _ _) (norm_nf _ _ _) (norm_eT h1) (norm_eT (by omega)) ?_
  rw [norm_vl _ _ _ _ h1, norm_vl _ _ _ _ (by omega)]
  unfold D.vl D.sm
  simp only
  rw [show (x + (T : Int)).toNat = 2 + (x - 2 + (T : Int)).toNat by omega, Int.pow_add, ← Int.mul_assoc]
  congr 1
  cases g <;> simp <;> omega
theorem sh_norm_me (a b : Bool) (m : Nat) (e : Int) : (norm a m e).m = (norm b m e).m ∧ (norm a m e).e = (norm b m e).e := by
  unfold norm; split <;> exact ⟨rfl, rfl⟩
/-- the size of a number -/
def shD (x : Int) : D := norm false (4 * lmM x) (lmE x)
theorem shD_eq (x : Int) : (shD x).m = (valD x).m ∧ (shD x).e = (valD x).e := by
  unfold shD valD lmE
  rw [show max (fexp x) 1 - 1077 = max (fexp x) 1 - 1075 - 2 by omega, sh_norm_up]
  exact sh_norm_me _ _ _ _
theorem shD_dN (x t : Int) : dN (shD x) t = dN (valD x) t ∧ dD (shD x) t = dD (valD x) t := by
  obtain ⟨h1, h2⟩ := shD_eq x
  unfold dN dD
  rw [h1, h2]
  exact ⟨rfl, rfl⟩
theorem shD_lg (x : Int) : lgD (shD x) = lgD (valD x) := by
  unfold lgD
  congr 1
  funext p
  unfold IsLg
  rw [(shD_dN x _).1, (shD_dN x _).1, (shD_dN x _).2, (shD_dN x _).2]
theorem shD_mid {x : Int} (x0 : 0 ≤ x) (x1 : x ≤ 18446744073709551615) (hx : 1 ≤ fabs x) : Mid (shD x) ∧ Mid (valD x) := by
  obtain ⟨h1, h2⟩ := shD_eq x
  have hm := (lm_ulp x0 x1 hx).2
  have h0 : (shD x).m ≠ 0 := by
    unfold shD norm
    rw [if_neg (by omega)]
    obtain ⟨q, g1, g2⟩ := ctz_spec (show 4 * lmM x ≠ 0 by omega)
    have : 4 * lmM x / 2 ^ ctz (4 * lmM x) = q := by
      conv => lhs; lhs; rw [g1]
      exact Nat.mul_div_cancel _ (Nat.two_pow_pos _)
    show 4 * lmM x / 2 ^ ctz (4 * lmM x) ≠ 0
    rw [this]; omega
  rcases val_mid x0 x1 with h | h
  · rw [← h1] at h; exact absurd h h0
  · exact ⟨⟨h0, by rw [h1]; exact h.m1, by rw [h2]; exact h.e0, by rw [h2]; exact h.e1⟩, h⟩
/-- the quotient's both sides, by the limits' unit -/
theorem sh_cross (x K : Int) (hm : 1 ≤ lmM x) : dN (shD x) (-K) * shA K (lmE x) = 4 * lmM x * shB K (lmE x) * dD (shD x) (-K) := by
  obtain ⟨q, g1, g2⟩ := ctz_spec (show 4 * lmM x ≠ 0 by omega)
  have hdiv : 4 * lmM x / 2 ^ ctz (4 * lmM x) = q := by
    conv => lhs; lhs; rw [g1]
    exact Nat.mul_div_cancel _ (Nat.two_pow_pos _)
  have e1 : (shD x).m = q ∧ (shD x).e = lmE x + ctz (4 * lmM x) := by
    unfold shD norm
    rw [if_neg (by omega)]
    exact ⟨hdiv, rfl⟩
  unfold dN dD shA shB
  rw [e1.1, e1.2, Int.neg_neg]
  generalize lmE x = E at *
  generalize ctz (4 * lmM x) = z at *
  rw [g1]
  have hz : 2 ^ (E + (z : Int)).toNat * 2 ^ (-E).toNat = 2 ^ z * 2 ^ E.toNat * 2 ^ (-(E + (z : Int))).toNat := by
    rw [← Nat.pow_add, ← Nat.pow_add, ← Nat.pow_add]; congr 1; omega
  calc q * 10 ^ (-K).toNat * 2 ^ (E + (z : Int)).toNat * (10 ^ K.toNat * 2 ^ (-E).toNat) = q * 10 ^ (-K).toNat * 10 ^ K.toNat * (2 ^ (E + (z : Int)).toNat * 2 ^ (-E).toNat) := by ac_rfl
    _ = q * 10 ^ (-K).toNat * 10 ^ K.toNat * (2 ^ z * 2 ^ E.toNat * 2 ^ (-(E + (z : Int))).toNat) := by rw [hz]
    _ = _ := by ac_rfl
/-- the digits' number at n of them -/
noncomputable def shK (x : Int) (n : Nat) : Int := lgD (shD x) + 1 - n
noncomputable def shQ (x : Int) (n : Nat) : Nat := dN (shD x) (-shK x n) / dD (shD x) (-shK x n)
theorem shQ_bd (x : Int) (n : Nat) (hm : 1 ≤ lmM x) : shQ x n * shA (shK x n) (lmE x) ≤ 4 * lmM x * shB (shK x n) (lmE x) ∧ 4 * lmM x * shB (shK x n) (lmE x) < (shQ x n + 1) * shA (shK x n) (lmE x) := by
  have hc := sh_cross x (shK x n) hm
  have hp := dD_pos (shD x) (-shK x n)
  have hA := shA_pos (shK x n) (lmE x)
  have h1 := Nat.div_mul_le_self (dN (shD x) (-shK x n)) (dD (shD x) (-shK x n))
  have h2 := Nat.lt_div_mul_add hp (a := dN (shD x) (-shK x n))
  have hQ : shQ x n = dN (shD x) (-shK x n) / dD (shD x) (-shK x n) := rfl
  rw [← hQ] at h1 h2
  generalize shQ x n = Q at *
  generalize dN (shD x) (-shK x n) = N at *
  generalize dD (shD x) (-shK x n) = D at *
  generalize shA (shK x n) (lmE x) = α at *
  generalize 4 * lmM x * shB (shK x n) (lmE x) = s at *
  constructor
  · apply Nat.le_of_mul_le_mul_right _ hp
    rw [← hc]
    calc Q * α * D = Q * D * α := by ac_rfl
      _ ≤ N * α := Nat.mul_le_mul_right _ h1
  · apply Nat.lt_of_mul_lt_mul_right (a := D)
    rw [← hc]
    calc N * α < (Q * D + D) * α := Nat.mul_lt_mul_of_pos_right h2 hA
      _ = (Q + 1) * α * D := by rw [Nat.add_mul Q 1 α, Nat.one_mul, Nat.add_mul, Nat.add_mul]; congr 1 <;> ac_rfl
theorem shQ_ten {x : Int} (x0 : 0 ≤ x) (x1 : x ≤ 18446744073709551615) (hx : 1 ≤ fabs x) (n : Nat) (hn : 1 ≤ n) : 10 ^ (n - 1) ≤ shQ x n ∧ shQ x n < 10 ^ n := by
  have hl := mid_lg (shD_mid x0 x1 hx).1
  have h1 := lg_ge hl (n - 1)
  have h2 := lg_lt hl n
  have hp := dD_pos (shD x) (-shK x n)
  unfold shQ
  unfold shK at hp ⊢
  rw [show -lgD (shD x) + ((n - 1 : Nat) : Int) = -(lgD (shD x) + 1 - (n : Int)) by omega] at h1
  rw [show -(lgD (shD x) + 1) + (n : Int) = -(lgD (shD x) + 1 - (n : Int)) by omega] at h2
  exact ⟨(Nat.le_div_iff_mul_le hp).2 h1, (Nat.div_lt_iff_lt_mul hp).2 h2⟩
def shEv (x : Int) : Bool := decide (ffr x % 2 = 0)
noncomputable def shFa (x : Int) (n : Nat) : Bool := ftB (shQ x n) (lmL x) (4 * lmM x + 2) (shK x n) (lmE x) (shEv x)
noncomputable def shFc (x : Int) (n : Nat) : Bool := ftB (shQ x n + 1) (lmL x) (4 * lmM x + 2) (shK x n) (lmE x) (shEv x)
noncomputable def shSt (x : Int) (n : Nat) : Bool := shFa x n || shFc x n
/-- seventeen are enough -/
theorem stop17 {x : Int} (x0 : 0 ≤ x) (x1 : x ≤ 18446744073709551615) (hx : 1 ≤ fabs x) : shSt x 17 = true := by
  have hm := (lm_ulp x0 x1 hx).2
  obtain ⟨b1, b2⟩ := shQ_bd x 17 hm
  obtain ⟨t1, t2⟩ := shQ_ten x0 x1 hx 17 (by omega)
  have hB := shB_pos (shK x 17) (lmE x)
  have hf := ffr_bd x
  have hM : lmM x < 9007199254740992 ∧ (ffr x = 0 ∧ 1 < fexp x → lmM x = 4503599627370496) := by unfold lmM; constructor; (split <;> omega); (rintro ⟨h1, h2⟩; rw [if_pos (by omega)]; omega)
  have hL : (lmL x = 4 * lmM x - 2 ∨ (lmL x = 4 * lmM x - 1 ∧ lmM x = 4503599627370496)) := by
    unfold lmL
    split
    · rename_i h; exact Or.inr ⟨rfl, hM.2 h⟩
    · exact Or.inl rfl
  have e16 : (10 : Nat) ^ (17 - 1) = 10000000000000000 := by decide
  rw [e16] at t1
  have key : 10000000000000000 * shA (shK x 17) (lmE x) ≤ 4 * lmM x * shB (shK x 17) (lmE x) := Nat.le_trans (Nat.mul_le_mul_right _ t1) b1
  unfold shSt
  rw [Bool.or_eq_true]
  unfold shFa shFc
  rw [ft_iff, ft_iff]
  rw [Nat.add_mul (shQ x 17) 1, Nat.one_mul] at b2 ⊢
  rw [Nat.mul_assoc] at b1 b2 key
  rw [Nat.add_mul (4 * lmM x) 2, Nat.mul_assoc 4 (lmM x)]
  have hLb : lmL x * shB (shK x 17) (lmE x) + 2 * shB (shK x 17) (lmE x) = 4 * (lmM x * shB (shK x 17) (lmE x)) ∨ (lmL x * shB (shK x 17) (lmE x) + shB (shK x 17) (lmE x) = 4 * (lmM x * shB (shK x 17) (lmE x)) ∧ lmM x = 4503599627370496) := by
    rcases hL with h | ⟨h, h2⟩
    · left
      rw [← Nat.add_mul, show lmL x + 2 = 4 * lmM x by omega, Nat.mul_assoc]
    · right
      refine ⟨?_, h2⟩
      have : lmL x * shB (shK x 17) (lmE x) + 1 * shB (shK x 17) (lmE x) = 4 * (lmM x * shB (shK x 17) (lmE x)) := by
        rw [← Nat.add_mul, show lmL x + 1 = 4 * lmM x by omega, Nat.mul_assoc]
      omega
  have hMb : lmM x * shB (shK x 17) (lmE x) ≤ 9007199254740991 * shB (shK x 17) (lmE x) := Nat.mul_le_mul_right _ (by omega)
  have hMb2 : lmM x = 4503599627370496 → lmM x * shB (shK x 17) (lmE x) = 4503599627370496 * shB (shK x 17) (lmE x) := fun h => by rw [h]
  generalize lmM x * shB (shK x 17) (lmE x) = s at *
  generalize lmL x * shB (shK x 17) (lmE x) = l at *
  generalize shQ x 17 * shA (shK x 17) (lmE x) = q at *
  generalize shA (shK x 17) (lmE x) = α at *
  generalize shB (shK x 17) (lmE x) = β at *
  rcases hLb with h | ⟨h, h2⟩
  · by_cases g : l < q
    · left; left; omega
    · right; left; omega
  · have h3 := hMb2 h2
    by_cases g : l < q
    · left; left; omega
    · right; left; omega
/-- the first one of so many -/
def firstN (f : Nat → Bool) : Nat → Nat → Nat
  | 0, n => n
  | k + 1, n => if f n = true then n else firstN f k (n + 1)
theorem firstN_spec (f : Nat → Bool) : ∀ (k n : Nat), (∃ j, n ≤ j ∧ j ≤ n + k ∧ f j = true) → f (firstN f k n) = true ∧ n ≤ firstN f k n ∧ firstN f k n ≤ n + k ∧ ∀ i, n ≤ i → i < firstN f k n → f i = false
  | 0, n, ⟨j, h1, h2, h3⟩ => by
    obtain rfl : j = n := by omega
    exact ⟨h3, Nat.le_refl _, Nat.le_refl _, fun i hi hj => by unfold firstN at hj; omega⟩
  | k + 1, n, ⟨j, h1, h2, h3⟩ => by
    unfold firstN
    by_cases h : f n = true
    · rw [if_pos h]; exact ⟨h, Nat.le_refl _, by omega, fun i hi hj => by omega⟩
    · rw [if_neg h]
      have hj : n + 1 ≤ j := by
        rcases Nat.lt_or_ge n j with g | g
        · exact g
        · exact absurd (show f n = true by rw [show n = j by omega]; exact h3) h
      obtain ⟨a1, a2, a3, a4⟩ := firstN_spec f k (n + 1) ⟨j, hj, by omega, h3⟩
      refine ⟨a1, by omega, by omega, fun i hi hlt => ?_⟩
      rcases Nat.lt_or_ge n i with g | g
      · exact a4 i g hlt
      · obtain rfl : i = n := by omega
        cases h5 : f i
        · rfl
        · exact absurd h5 h
noncomputable def shN (x : Int) : Nat := firstN (shSt x) 16 1
theorem shN_spec {x : Int} (x0 : 0 ≤ x) (x1 : x ≤ 18446744073709551615) (hx : 1 ≤ fabs x) : shSt x (shN x) = true ∧ 1 ≤ shN x ∧ shN x ≤ 17 ∧ ∀ i, 1 ≤ i → i < shN x → shSt x i = false := by
  obtain ⟨a1, a2, a3, a4⟩ := firstN_spec (shSt x) 16 1 ⟨17, by omega, by omega, stop17 x0 x1 hx⟩
  exact ⟨a1, a2, by unfold shN; omega, a4⟩
/-- the text of the digits, cut off -/
theorem dgT_cut {x : Int} (x0 : 0 ≤ x) (x1 : x ≤ 18446744073709551615) (hx : 1 ≤ fabs x) {n : Nat} (hn : 1 ≤ n) : dgT (shD x) n 3 = Lib.decDigits (shQ x n) := by
  obtain ⟨t1, t2⟩ := shQ_ten x0 x1 hx n hn
  have hQ : dgQ (shD x) n 3 = shQ x n := by
    unfold dgQ dQ shQ shK rq
    rw [show (n : Int) - 1 - lgD (shD x) = -(lgD (shD x) + 1 - (n : Int)) by omega]
    have hu : ∀ (neg odd : Bool) (h : Int), upB neg odd h 3 = false := fun neg odd h => by unfold upB; simp
    rw [hu]
    simp
  unfold dgT
  rw [if_neg (shD_mid x0 x1 hx).1.m0, hQ]
  have hl : (Lib.decDigits (shQ x n)).length ≤ n := by
    refine Nat.not_lt.1 fun h => ?_
    have h1 := dec_dgt (shQ x n)
    obtain ⟨c, l, e1, e2⟩ := dec_head (shQ x n) (by have := Nat.pow_pos (n := n - 1) (show 0 < 10 by omega); omega)
    have h3 := dcN_dec (shQ x n)
    have h4 := dcN_two l (c.toNat - 48)
    have h5 : dcN 0 (c :: l) = dcN (0 * 10 + (c.toNat - 48)) l := rfl
    have hc := h1 c (by rw [e1]; exact List.mem_cons_self ..)
    unfold dgt at hc
    have hne : c.toNat ≠ 48 := fun h => e2 (UInt8.toNat_inj.1 (by rw [h]; rfl))
    rw [e1, h5, Nat.zero_mul, Nat.zero_add, h4] at h3
    rw [e1, List.length_cons] at h
    have h6 : 10 ^ n ≤ 10 ^ l.length := Nat.pow_le_pow_right (by omega) (by omega)
    have h7 : 1 * 10 ^ l.length ≤ (c.toNat - 48) * 10 ^ l.length := Nat.mul_le_mul_right _ (by omega)
    omega
  unfold dgS
  rw [if_neg (by omega)]
/-- is the greater one taken? -/
noncomputable def shHf (x : Int) (n : Nat) : Int := sgn2 (cpA (shQ x n + (shQ x n + 1)) (shK x n) (lmE x + 1)) (cpB (4 * lmM x) (shK x n) (lmE x + 1))
noncomputable def shC (x : Int) (n : Nat) : Bool := if shFa x n = true ∧ shFc x n = true then (decide (shHf x n < 0) || (shHf x n == 0 && decide (shQ x n % 2 = 1))) else shFc x n
noncomputable def shR (x : Int) : Nat := if shC x (shN x) = true then shQ x (shN x) + 1 else shQ x (shN x)
noncomputable def shS (x : Int) : List UInt8 := Lib.decDigits (shR x)
/-- the digits, the exponent -/
noncomputable def shT (x : Int) : List UInt8 := Lib.trimRightB (shS x) 48
noncomputable def shX (x : Int) : Int := shK x (shN x) + ((shS x).length : Int) - ((shT x).length : Int)
theorem shN_eq {x : Int} (x0 : 0 ≤ x) (x1 : x ≤ 18446744073709551615) (hx : 1 ≤ fabs x) {n : Nat} (h1 : 1 ≤ n) (h : shSt x n = true) (hi : ∀ i, 1 ≤ i → i < n → shSt x i = false) : shN x = n := by
  obtain ⟨a1, a2, a3, a4⟩ := shN_spec x0 x1 hx
  rcases Nat.lt_trichotomy (shN x) n with g | g | g
  · have := hi _ a2 g
    rw [a1] at this; exact absurd this (by decide)
  · exact g
  · have := a4 n h1 g
    rw [h] at this; exact absurd this (by decide)
/-- what stands at the end -/
theorem sh_end {x : Int} (x0 : 0 ≤ x) (x1 : x ≤ 18446744073709551615) (hx : 1 ≤ fabs x) {n : Nat} (h1 : 1 ≤ n) (h : shSt x n = true) (hi : ∀ i, 1 ≤ i → i < n → shSt x i = false) {b : Bool} (hc : shC x n = b) :
    shT x = Lib.trimRightB (Lib.decDigits (if b = true then shQ x n + 1 else shQ x n)) 48 ∧ shX x = shK x n + ((Lib.decDigits (if b = true then shQ x n + 1 else shQ x n)).length : Int) - ((shT x).length : Int) := by
  have hn := shN_eq x0 x1 hx h1 h hi
  have e : shS x = Lib.decDigits (if b = true then shQ x n + 1 else shQ x n) := by
    unfold shS shR
    rw [hn, hc]
  refine ⟨by unfold shT; rw [e], ?_⟩
  unfold shX
  rw [hn, e]
end Go.Proofs.YtjmmgffdagcflaaGreatDoor
