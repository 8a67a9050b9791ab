/-
  SOME OF MY TEXTS in one: Ya Yb Yc. Each says what it proves.
-/
import Derived.Test.YthkcbjhjhkpclaaGreatDoorPsc
import Derived.Test.YthkcbjhjhkpclaaGreatDoorNa
import Derived.Test.YthkcbjhjhkpclaaGreatDoorZr
import Derived.Test.YthkcbjhjhkpclaaGreatDoorBh
set_option linter.unusedVariables false
set_option linter.unusedSimpArgs false
/-
  THE WALK of short.compare.
-/
namespace Go.Proofs.YthkcbjhjhkpclaaGreatDoor
open Go.RowKit Nt Fm Fl

def cpA (a : Nat) (k e : Int) : Nat := a * 10 ^ k.toNat * 2 ^ (-e).toNat
def cpB (b : Nat) (k e : Int) : Nat := b * 2 ^ e.toNat * 10 ^ (-k).toNat
set_option maxRecDepth 100000 in
set_option maxHeartbeats 8000000 in
theorem scompare_any (va vb : Value) (a b : Nat) (k e : Int) (kd : Nat) (w : World) (ha : NV w va a) (hb : NV w vb b) (ham : a < 2 ^ kd) (hbm : b < 2 ^ kd) (hkd : kd ≤ 12800) (k0 : -3000 ≤ k) (k1 : k ≤ 3000) (e0 : -3000 ≤ e) (e1 : e ≤ 3000) :
    Calls Tryz.prog 77 #[va, .int .i64 k, vb, .int .i64 e] w fun r w' => r = .returned (.int .i64 (sgn2 (cpA a k e) (cpB b k e))) ∧ Below w.heap.size w w' := by
  obtain ⟨aa, an, ac, rfl⟩ := ha.shape
  obtain ⟨ba, bn, bc, rfl⟩ := hb.shape
  have hAm : a * 10 ^ k.toNat < 2 ^ (kd + (4 * k.toNat + 1)) := by
    rw [Nat.pow_add]
    exact Nat.mul_lt_mul_of_lt_of_le ham (Nat.le_of_lt (tenz_two _)) (Nat.two_pow_pos _)
  have hBm : b * 2 ^ e.toNat < 2 ^ (kd + e.toNat) := by
    rw [Nat.pow_add]
    exact Nat.mul_lt_mul_of_pos_right hbm (Nat.two_pow_pos _)
  have PW := Lib.hid (fun X w' (hX : X = ((k.toNat : Nat) : Int)) => pow10_z k.toNat X w' hX (by omega))
  have TM := Lib.hid (fun vb w' (h : NV w' (.slice aa an ac) a) (h2 : NV w' vb (10 ^ k.toNat)) => times_any _ vb a (10 ^ k.toNat) (kd + (4 * k.toNat + 1)) w' h h2 (Nat.lt_of_lt_of_le ham (Nat.pow_le_pow_right (by omega) (by omega))) (Nat.lt_of_lt_of_le (tenz_two _) (Nat.pow_le_pow_right (by omega) (by omega))) (by omega))
  have LF := Lib.hid (fun va X w' (h : NV w' va (a * 10 ^ k.toNat)) (hX : X = (((-e).toNat : Nat) : Int)) => left_any va _ (-e).toNat (kd + (4 * k.toNat + 1)) X w' h hX hAm (by omega) (by omega))
  have LG := Lib.hid (fun X w' (h : NV w' (.slice ba bn bc) b) (hX : X = ((e.toNat : Nat) : Int)) => left_any _ b e.toNat kd X w' h hX hbm (by omega) (by omega))
  have PX := Lib.hid (fun X w' (hX : X = (((-k).toNat : Nat) : Int)) => pow10_z (-k).toNat X w' hX (by omega))
  have TN := Lib.hid (fun va vb w' (h : NV w' va (b * 2 ^ e.toNat)) (h2 : NV w' vb (10 ^ (-k).toNat)) => times_any va vb _ (10 ^ (-k).toNat) (kd + e.toNat + (4 * (-k).toNat + 1)) w' h h2 (Nat.lt_of_lt_of_le hBm (Nat.pow_le_pow_right (by omega) (by omega))) (Nat.lt_of_lt_of_le (tenz_two _) (Nat.pow_le_pow_right (by omega) (by omega))) (by omega))
  have CP := Lib.hid (fun va vb w' (h : NV w' va (cpA a k e)) (h2 : NV w' vb (cpB b k e)) => compare_any va vb _ _ w' h h2)
  have m1 := Lib.hid (show max k 0 = ((k.toNat : Nat) : Int) by omega)
  have m2 := Lib.hid (show max (IntKind.i64.wrap (-e)) 0 = (((-e).toNat : Nat) : Int) by rw [IntWalk.i64_in _ (by omega)]; omega)
  have m3 := Lib.hid (show max e 0 = ((e.toNat : Nat) : Int) by omega)
  have m4 := Lib.hid (show max (IntKind.i64.wrap (-k)) 0 = (((-k).toNat : Nat) : Int) by rw [IntWalk.i64_in _ (by omega)]; omega)
  have m5 := Lib.hid (show max (-e) 0 = (((-e).toNat : Nat) : Int) by omega)
  have m6 := Lib.hid (show max (-k) 0 = (((-k).toNat : Nat) : Int) by omega)
  have HA := Lib.hid ha
  have HB := Lib.hid hb
  have B : Hid (Below w.heap.size w w) := Lib.hid (Below.refl _ _)
  clear ha hb ham hbm hAm hBm
  go_enter Tryz.func77, Tryz.ntmps77
  go_wp2_with fail
  refine (PW.out _ _ m1.out).mono ?_
  rintro r w1 ⟨v1, rfl, h1, hb1⟩
  replace B := Lib.hid (bl_thru B.out (Nat.le_refl _) hb1)
  replace HA := Lib.hid (HA.out.below hb1)
  replace HB := Lib.hid (HB.out.below hb1)
  have V1 := Lib.hid h1
  clear h1 hb1
  go_wp2_with fail
  refine (TM.out _ _ HA.out V1.out).mono ?_
  rintro r w2 ⟨v2, rfl, h2, hb2⟩
  replace B := Lib.hid (bl_thru B.out (Nat.le_refl _) hb2)
  replace HB := Lib.hid (HB.out.below hb2)
  have V2 := Lib.hid h2
  clear h2 hb2 V1 HA
  go_wp2_with fail
  refine (LF.out _ _ _ V2.out (by first | exact m2.out | exact m5.out)).mono ?_
  rintro r w3 ⟨v3, rfl, h3, hb3⟩
  replace B := Lib.hid (bl_thru B.out (Nat.le_refl _) hb3)
  replace HB := Lib.hid (HB.out.below hb3)
  have V3 : Hid (NV w3 v3 (cpA a k e)) := Lib.hid h3
  clear h3 hb3 V2
  go_wp2_with fail
  refine (LG.out _ _ HB.out m3.out).mono ?_
  rintro r w4 ⟨v4, rfl, h4, hb4⟩
  replace B := Lib.hid (bl_thru B.out (Nat.le_refl _) hb4)
  replace V3 := Lib.hid (V3.out.below hb4)
  have V4 := Lib.hid h4
  clear h4 hb4 HB
  go_wp2_with fail
  refine (PX.out _ _ (by first | exact m4.out | exact m6.out)).mono ?_
  rintro r w5 ⟨v5, rfl, h5, hb5⟩
  replace B := Lib.hid (bl_thru B.out (Nat.le_refl _) hb5)
  replace V3 := Lib.hid (V3.out.below hb5)
  replace V4 := Lib.hid (V4.out.below hb5)
  have V5 := Lib.hid h5
  clear h5 hb5
  go_wp2_with fail
  refine (TN.out _ _ _ V4.out V5.out).mono ?_
  rintro r w6 ⟨v6, rfl, h6, hb6⟩
  replace B := Lib.hid (bl_thru B.out (Nat.le_refl _) hb6)
  replace V3 := Lib.hid (V3.out.below hb6)
  have V6 : Hid (NV w6 v6 (cpB b k e)) := Lib.hid h6
  clear h6 hb6 V4 V5
  go_wp2_with fail
  refine (CP.out _ _ _ V3.out V6.out).mono ?_
  rintro r w7 ⟨rfl, n, rfl⟩
  go_wp2
  go_ret
  exact ⟨rfl, below_to_drewN B.out⟩
end Go.Proofs.YthkcbjhjhkpclaaGreatDoor

/-
  THE WALK of short.limits.
-/
namespace Go.Proofs.YthkcbjhjhkpclaaGreatDoor
open Go.RowKit Nt Fm Fl

/-- a struct of five fields in block b -/
def Bx5 (w : World) (b : Nat) (T : TypeId) (c0 c1 c2 c3 c4 : Value) : Prop := w.heap[b]? = some (.cells #[c0, c1, c2, c3, c4] T (0, 0))
section
variable {w w' : World} {b : Nat} {T : TypeId} {c0 c1 c2 c3 c4 : Value}
theorem Bx5.new (w : World) (c0 c1 c2 c3 c4 : Value) (T : TypeId) : Bx5 (w.alloc (.cells #[c0, c1, c2, c3, c4] T)) w.heap.size T c0 c1 c2 c3 c4 := heap_alloc_new w _
theorem Bx5.lt (h : Bx5 w b T c0 c1 c2 c3 c4) : b < w.heap.size := (Array.getElem?_eq_some_iff.1 h).1
theorem Bx5.below (h : Bx5 w b T c0 c1 c2 c3 c4) (hb : Below w.heap.size w w') : Bx5 w' b T c0 c1 c2 c3 c4 := (hb.block b h.lt).trans h
theorem Bx5.alloc (h : Bx5 w b T c0 c1 c2 c3 c4) (o : Obj) : Bx5 (w.alloc o) b T c0 c1 c2 c3 c4 := h.below ((Below.refl _ _).alloc (Nat.le_refl _) o)
theorem Bx5.cells (h : Bx5 w b T c0 c1 c2 c3 c4) :
    w.cell? ⟨b, 0, none⟩ = some c0 ∧ w.cell? ⟨b, 1, none⟩ = some c1 ∧ w.cell? ⟨b, 2, none⟩ = some c2 ∧ w.cell? ⟨b, 3, none⟩ = some c3 ∧ w.cell? ⟨b, 4, none⟩ = some c4 ∧
    w.frozen? ⟨b, 0, none⟩ = false ∧ w.frozen? ⟨b, 1, none⟩ = false ∧ w.frozen? ⟨b, 2, none⟩ = false ∧ w.frozen? ⟨b, 3, none⟩ = false ∧ w.frozen? ⟨b, 4, none⟩ = false := by
  unfold Bx5 at h
  refine ⟨?_, ?_, ?_, ?_, ?_, ?_, ?_, ?_, ?_, ?_⟩ <;> simp [World.cell?, World.frozen?, h]
theorem Bx5.set0 (h : Bx5 w b T c0 c1 c2 c3 c4) (v : Value) : Bx5 (w.setCell ⟨b, 0, none⟩ v) b T v c1 c2 c3 c4 := heap_set h
theorem Bx5.set1 (h : Bx5 w b T c0 c1 c2 c3 c4) (v : Value) : Bx5 (w.setCell ⟨b, 1, none⟩ v) b T c0 v c2 c3 c4 := heap_set h
theorem Bx5.set2 (h : Bx5 w b T c0 c1 c2 c3 c4) (v : Value) : Bx5 (w.setCell ⟨b, 2, none⟩ v) b T c0 c1 v c3 c4 := heap_set h
theorem Bx5.set3 (h : Bx5 w b T c0 c1 c2 c3 c4) (v : Value) : Bx5 (w.setCell ⟨b, 3, none⟩ v) b T c0 c1 c2 v c4 := heap_set h
theorem Bx5.set4 (h : Bx5 w b T c0 c1 c2 c3 c4) (v : Value) : Bx5 (w.setCell ⟨b, 4, none⟩ v) b T c0 c1 c2 c3 v := heap_set h
/-- the world with all five written -/
def set5 (w : World) (b : Nat) (d0 d1 d2 d3 d4 : Value) : World := ((((w.setCell ⟨b, 0, none⟩ d0).setCell ⟨b, 1, none⟩ d1).setCell ⟨b, 2, none⟩ d2).setCell ⟨b, 3, none⟩ d3).setCell ⟨b, 4, none⟩ d4
theorem Bx5.set5 (h : Bx5 w b T c0 c1 c2 c3 c4) (d0 d1 d2 d3 d4 : Value) : Bx5 (set5 w b d0 d1 d2 d3 d4) b T d0 d1 d2 d3 d4 := ((((h.set0 d0).set1 d1).set2 d2).set3 d3).set4 d4
theorem Bx5.set {b' o : Nat} (h : Bx5 w b T c0 c1 c2 c3 c4) (hb : b ≠ b') (v : Value) : Bx5 (w.setCell ⟨b', o, none⟩ v) b T c0 c1 c2 c3 c4 := (Below.heap_setCell _ _ _ _ hb).trans h
theorem NV.setBx {v : Value} {n : Nat} (h : NV w v n) (hb : Bx5 w b T c0 c1 c2 c3 c4) (h0 : NoLimb c0) (h1 : NoLimb c1) (h2 : NoLimb c2) (h3 : NoLimb c3) (h4 : NoLimb c4) (o : Nat) (u : Value) : NV (w.setCell ⟨b, o, none⟩ u) v n := by
  refine h.other (B := b) ?_ (by simp [World.setCell]) (fun k hk => Below.heap_setCell _ _ _ _ hk)
  intro o
  unfold Bx5 at hb
  simp only [World.cell?, hb]
  match o with
  | 0 => simpa using h0
  | 1 => simpa using h1
  | 2 => simpa using h2
  | 3 => simpa using h3
  | 4 => simpa using h4
  | o + 5 => simp
theorem NV.setB5 {v : Value} {n : Nat} {d0 d1 d2 d3 d4 : Value} (h : NV w v n) (hb : Bx5 w b T c0 c1 c2 c3 c4) (h0 : NoLimb c0) (h1 : NoLimb c1) (h2 : NoLimb c2) (h3 : NoLimb c3) (h4 : NoLimb c4) (k0 : NoLimb d0) (k1 : NoLimb d1) (k2 : NoLimb d2) (k3 : NoLimb d3) : NV (set5 w b d0 d1 d2 d3 d4) v n :=
  ((((h.setBx hb h0 h1 h2 h3 h4 0 d0).setBx (hb.set0 d0) k0 h1 h2 h3 h4 1 d1).setBx ((hb.set0 d0).set1 d1) k0 k1 h2 h3 h4 2 d2).setBx (((hb.set0 d0).set1 d1).set2 d2) k0 k1 k2 h3 h4 3 d3).setBx ((((hb.set0 d0).set1 d1).set2 d2).set3 d3) k0 k1 k2 k3 h4 4 d4
theorem bl_set5 {B : Nat} {w1 : World} (h : Below B w w1) (hb : B ≤ b) (d0 d1 d2 d3 d4 : Value) : Below B w (set5 w1 b d0 d1 d2 d3 d4) := ((((h.setCell hb _).setCell hb _).setCell hb _).setCell hb _).setCell hb _
end
def lmM (x : Int) : Nat := if 0 < fexp x then (ffr x + 4503599627370496).toNat else (ffr x).toNat
def lmE (x : Int) : Int := max (fexp x) 1 - 1077
def lmL (x : Int) : Nat := if ffr x = 0 ∧ 1 < fexp x then 4 * lmM x - 1 else 4 * lmM x - 2
/-- the limits of a number -/
def Lim5 (w : World) (x : Int) (v : Value) : Prop := ∃ a b c, v = .agg #[a, b, c, .int .i64 (lmE x), .bool (decide (ffr x % 2 = 0))] ∧ NV w a (4 * lmM x) ∧ NV w b (lmL x) ∧ NV w c (4 * lmM x + 2)
-- printed by gen_lim.py
set_option maxRecDepth 100000 in
set_option maxHeartbeats 8000000 in
theorem limits_a1 (x : Int) (e f : Int) (he : 0 ≤ e ∧ e ≤ 2047) (hf : 0 ≤ f ∧ f ≤ 4503599627370495) (h1 : f = 0) (h2 : 1 < e) (w : World)
    (HP : Hid (∀ w' : World, Calls Tryz.prog 58 #[.int .u64 x] w' fun e1 w2 => e1 = .returned (.tuple #[.bool (fng x), .int .i64 e, .int .u64 f]) ∧ w' = w2)) :
    Calls Tryz.prog 69 #[.int .u64 x] w fun r w' => ∃ v, r = .returned v ∧ (∃ a b c, v = .agg #[a, b, c, .int .i64 (max e 1 - 1077), .bool (decide (f % 2 = 0))] ∧ NV w' a (4 * (f + 4503599627370496).toNat) ∧ NV w' b (4 * (f + 4503599627370496).toNat - 1) ∧ NV w' c (4 * (f + 4503599627370496).toNat + 2)) ∧ Below w.heap.size w w' := by
  subst h1
  have hor := or_hidden 0 (by omega) (by omega)
  obtain ⟨M, hM⟩ : ∃ M : Int, (0 : Int) + 4503599627370496 = M := ⟨_, rfl⟩
  rw [hM] at hor ⊢
  have h0 : 0 < e := by omega
  have hd : decide ((0 : Int) % 2 = 0) = true := by decide
  rw [hd]
  have w1 : IntKind.u64.wrap (4 * M) = 4 * M := IntWalk.u64_in _ (by omega)
  have w2 : IntKind.u64.wrap (4 * M - 2) = 4 * M - 2 := IntWalk.u64_in _ (by omega)
  have w3 : IntKind.u64.wrap (4 * M + 2) = 4 * M + 2 := IntWalk.u64_in _ (by omega)
  have w4 : IntKind.u64.wrap (4 * M - 1) = 4 * M - 1 := IntWalk.u64_in _ (by omega)
  have OF := Lib.hid (fun y w' (h0 : 0 ≤ y) (h1 : y ≤ 18446744073709551615) => natOf_any y h0 h1 w')
  have hq := Lib.hid (show max e 1 - 1077 = max e 1 - 1075 - 2 by omega)
  rw [hq.out]
  go_enter Tryz.func69, Tryz.ntmps69
  go_wp2_with (go_at_call 58; refine (HP.out _).mono ?_; rintro e1 w' ⟨rfl, rfl⟩)
  refine (OF.out _ _ (by omega) (by omega)).mono ?_
  rintro r w1 ⟨v1, rfl, h1, hb1⟩
  obtain ⟨a1, n1, c1, rfl⟩ := h1.shape
  have Z1 := Lib.hid ((Bx5.new w (.slice none 0 0) (.slice none 0 0) (.slice none 0 0) (.int .i64 0) (.bool false) 96).below hb1)
  have B1 := Lib.hid (bl_thru ((Below.refl w.heap.size w).alloc (Nat.le_refl _) _) (Nat.le_refl _) hb1)
  have V1 := Lib.hid h1
  clear h1 hb1
  go_wp2_with fail
  refine (OF.out _ _ (by omega) (by omega)).mono ?_
  rintro r w2 ⟨v2, rfl, h2, hb2⟩
  obtain ⟨a2, n2, c2, rfl⟩ := h2.shape
  have Z2 := Lib.hid (Z1.out.below hb2)
  have B2 := Lib.hid (bl_thru B1.out (Nat.le_refl _) hb2)
  replace V1 := Lib.hid (V1.out.below hb2)
  have V2 := Lib.hid h2
  clear h2 hb2
  go_wp2_with fail
  refine (OF.out _ _ (by omega) (by omega)).mono ?_
  rintro r w3 ⟨v3, rfl, h3, hb3⟩
  obtain ⟨a3, n3, c3, rfl⟩ := h3.shape
  have Z3 := Lib.hid (Z2.out.below hb3)
  have B3 := Lib.hid (bl_thru B2.out (Nat.le_refl _) hb3)
  replace V1 := Lib.hid (V1.out.below hb3)
  replace V2 := Lib.hid (V2.out.below hb3)
  have V3 := Lib.hid h3
  clear h3 hb3
  have hB : w.heap.size < w3.heap.size := Z3.out.lt
  obtain ⟨V, hV⟩ : ∃ V, V = w3.alloc (.cells #[.slice a1 n1 c1, .slice a2 n2 c2, .slice a3 n3 c3, .int .i64 (max e 1 - 1075 - 2), .bool true] 96) := ⟨_, rfl⟩
  have X4 : Hid (Bx5 V w3.heap.size 96 (.slice a1 n1 c1) (.slice a2 n2 c2) (.slice a3 n3 c3) (.int .i64 (max e 1 - 1075 - 2)) (.bool true)) := Lib.hid (by rw [hV]; exact Bx5.new w3 (.slice a1 n1 c1) (.slice a2 n2 c2) (.slice a3 n3 c3) (.int .i64 (max e 1 - 1075 - 2)) (.bool true) 96)
  have Z4 : Hid (Bx5 V w.heap.size 96 (.slice none 0 0) (.slice none 0 0) (.slice none 0 0) (.int .i64 0) (.bool false)) := Lib.hid (by rw [hV]; exact Z3.out.alloc _)
  have B4 : Hid (Below w.heap.size w V) := Lib.hid (by rw [hV]; exact B3.out.alloc B3.out.size _)
  replace V1 : Hid (NV V (.slice a1 n1 c1) _) := Lib.hid (by rw [hV]; exact V1.out.alloc _)
  replace V2 : Hid (NV V (.slice a2 n2 c2) _) := Lib.hid (by rw [hV]; exact V2.out.alloc _)
  replace V3 : Hid (NV V (.slice a3 n3 c3) _) := Lib.hid (by rw [hV]; exact V3.out.alloc _)
  obtain ⟨bx, hbx⟩ : ∃ bx, bx = w3.heap.size := ⟨_, rfl⟩
  rw [← hbx] at X4 hB
  go_wp2_with fail
  rw [← hV]
  refine (OF.out _ _ (by omega) (by omega)).mono ?_
  rintro r w4 ⟨v4, rfl, h4, hb4⟩
  obtain ⟨a4, n4, c4, rfl⟩ := h4.shape
  have X5 := Lib.hid (X4.out.below hb4)
  have Z5 := Lib.hid (Z4.out.below hb4)
  have B5 := Lib.hid (bl_thru B4.out (Nat.le_refl _) hb4)
  replace V1 := Lib.hid (V1.out.below hb4)
  replace V3 := Lib.hid (V3.out.below hb4)
  have V4 := Lib.hid h4
  clear h4 hb4 hV V2
  rw [← hbx]
  clear hbx
  have X6 := Lib.hid (X5.out.set1 (.slice a4 n4 c4))
  have Z6 := Lib.hid (Z5.out.set (b' := bx) (o := 1) (by omega) (.slice a4 n4 c4))
  obtain ⟨p0, p1, p2, p3, p4, r0, r1, r2, r3, r4⟩ := X5.out.cells
  obtain ⟨u0, u1, u2, u3, u4, g0, g1, g2, g3, g4⟩ := X6.out.cells
  obtain ⟨s0, s1, s2, s3, s4, t0, t1, t2, t3, t4⟩ := Z6.out.cells
  go_wp2
  have Z7 := Lib.hid (Z6.out.set5 (.slice a1 n1 c1) (.slice a4 n4 c4) (.slice a3 n3 c3) (.int .i64 (max e 1 - 1075 - 2)) (.bool true))
  clear s0 s1 s2 s3 s4 t0 t1 t2 t3 t4 u0 u1 u2 u3 u4 g0 g1 g2 g3 g4 p0 p1 p2 p3 p4 r0 r1 r2 r3 r4
  obtain ⟨s0, s1, s2, s3, s4, t0, t1, t2, t3, t4⟩ := Z7.out.cells
  unfold set5 at s0 s1 s2 s3 s4
  refine bodyPost_ret (v := .agg #[.slice a1 n1 c1, .slice a4 n4 c4, .slice a3 n3 c3, .int .i64 (max e 1 - 1075 - 2), .bool true]) (by simp [results, Tryz.results69, go_sem, s0, s1, s2, s3, s4]) rfl ?_
  have st : ∀ {v : Value} {n : Nat}, NV w4 v n → NV (set5 (w4.setCell ⟨bx, 1, none⟩ (.slice a4 n4 c4)) w.heap.size (.slice a1 n1 c1) (.slice a4 n4 c4) (.slice a3 n3 c3) (.int .i64 (max e 1 - 1075 - 2)) (.bool true)) v n := fun h =>
    (h.setBx X5.out (noLimb_slice _ _ _) (noLimb_slice _ _ _) (noLimb_slice _ _ _) (noLimb_i64 _) (noLimb_bool _) 1 _).setB5 Z6.out (noLimb_slice _ _ _) (noLimb_slice _ _ _) (noLimb_slice _ _ _) (noLimb_i64 _) (noLimb_bool _) (noLimb_slice a1 n1 c1) (noLimb_slice a4 n4 c4) (noLimb_slice a3 n3 c3) (noLimb_i64 (max e 1 - 1075 - 2)) (d4 := .bool true)
  refine ⟨_, rfl, ⟨_, _, _, rfl, ?_, ?_, ?_⟩, bl_set5 (B5.out.setCell (p := ⟨bx, 1, none⟩) (by show _ ≤ bx; omega) _) (Nat.le_refl _) _ _ _ _ _⟩
  · rw [show 4 * M.toNat = (4 * M).toNat by omega]; exact st V1.out
  · rw [show 4 * M.toNat - 1 = (4 * M - 1).toNat by omega]; exact st V4.out
  · rw [show 4 * M.toNat + 2 = (4 * M + 2).toNat by omega]; exact st V3.out
set_option maxRecDepth 100000 in
set_option maxHeartbeats 8000000 in
theorem limits_a2 (x : Int) (e f : Int) (he : 0 ≤ e ∧ e ≤ 2047) (hf : 0 ≤ f ∧ f ≤ 4503599627370495) (h1 : f ≠ 0) (h0 : 0 < e) (w : World)
    (HP : Hid (∀ w' : World, Calls Tryz.prog 58 #[.int .u64 x] w' fun e1 w2 => e1 = .returned (.tuple #[.bool (fng x), .int .i64 e, .int .u64 f]) ∧ w' = w2)) :
    Calls Tryz.prog 69 #[.int .u64 x] w fun r w' => ∃ v, r = .returned v ∧ (∃ a b c, v = .agg #[a, b, c, .int .i64 (max e 1 - 1077), .bool (decide (f % 2 = 0))] ∧ NV w' a (4 * (f + 4503599627370496).toNat) ∧ NV w' b (4 * (f + 4503599627370496).toNat - 2) ∧ NV w' c (4 * (f + 4503599627370496).toNat + 2)) ∧ Below w.heap.size w w' := by
  have hor := or_hidden f (by omega) (by omega)
  obtain ⟨M, hM⟩ : ∃ M : Int, f + 4503599627370496 = M := ⟨_, rfl⟩
  rw [hM] at hor ⊢
  have hev : (f % 2 == 0) = decide (f % 2 = 0) := by rw [Bool.eq_iff_iff]; simp
  obtain ⟨ev, hev2⟩ : ∃ ev, ev = decide (f % 2 = 0) := ⟨_, rfl⟩
  rw [← hev2] at hev ⊢
  clear hev2
  have hf0 : (f == 0) = false := by rw [beq_eq_false_iff_ne]; exact h1
  have w1 : IntKind.u64.wrap (4 * M) = 4 * M := IntWalk.u64_in _ (by omega)
  have w2 : IntKind.u64.wrap (4 * M - 2) = 4 * M - 2 := IntWalk.u64_in _ (by omega)
  have w3 : IntKind.u64.wrap (4 * M + 2) = 4 * M + 2 := IntWalk.u64_in _ (by omega)
  have w4 : IntKind.u64.wrap (4 * M - 1) = 4 * M - 1 := IntWalk.u64_in _ (by omega)
  have OF := Lib.hid (fun y w' (h0 : 0 ≤ y) (h1 : y ≤ 18446744073709551615) => natOf_any y h0 h1 w')
  have hq := Lib.hid (show max e 1 - 1077 = max e 1 - 1075 - 2 by omega)
  rw [hq.out]
  go_enter Tryz.func69, Tryz.ntmps69
  go_wp2_with (go_at_call 58; refine (HP.out _).mono ?_; rintro e1 w' ⟨rfl, rfl⟩)
  refine (OF.out _ _ (by omega) (by omega)).mono ?_
  rintro r w1 ⟨v1, rfl, h1, hb1⟩
  obtain ⟨a1, n1, c1, rfl⟩ := h1.shape
  have Z1 := Lib.hid ((Bx5.new w (.slice none 0 0) (.slice none 0 0) (.slice none 0 0) (.int .i64 0) (.bool false) 96).below hb1)
  have B1 := Lib.hid (bl_thru ((Below.refl w.heap.size w).alloc (Nat.le_refl _) _) (Nat.le_refl _) hb1)
  have V1 := Lib.hid h1
  clear h1 hb1
  go_wp2_with fail
  refine (OF.out _ _ (by omega) (by omega)).mono ?_
  rintro r w2 ⟨v2, rfl, h2, hb2⟩
  obtain ⟨a2, n2, c2, rfl⟩ := h2.shape
  have Z2 := Lib.hid (Z1.out.below hb2)
  have B2 := Lib.hid (bl_thru B1.out (Nat.le_refl _) hb2)
  replace V1 := Lib.hid (V1.out.below hb2)
  have V2 := Lib.hid h2
  clear h2 hb2
  go_wp2_with fail
  refine (OF.out _ _ (by omega) (by omega)).mono ?_
  rintro r w3 ⟨v3, rfl, h3, hb3⟩
  obtain ⟨a3, n3, c3, rfl⟩ := h3.shape
  have Z3 := Lib.hid (Z2.out.below hb3)
  have B3 := Lib.hid (bl_thru B2.out (Nat.le_refl _) hb3)
  replace V1 := Lib.hid (V1.out.below hb3)
  replace V2 := Lib.hid (V2.out.below hb3)
  have V3 := Lib.hid h3
  clear h3 hb3
  have hB : w.heap.size < w3.heap.size := Z3.out.lt
  obtain ⟨V, hV⟩ : ∃ V, V = w3.alloc (.cells #[.slice a1 n1 c1, .slice a2 n2 c2, .slice a3 n3 c3, .int .i64 (max e 1 - 1075 - 2), .bool ev] 96) := ⟨_, rfl⟩
  have X4 : Hid (Bx5 V w3.heap.size 96 (.slice a1 n1 c1) (.slice a2 n2 c2) (.slice a3 n3 c3) (.int .i64 (max e 1 - 1075 - 2)) (.bool ev)) := Lib.hid (by rw [hV]; exact Bx5.new w3 (.slice a1 n1 c1) (.slice a2 n2 c2) (.slice a3 n3 c3) (.int .i64 (max e 1 - 1075 - 2)) (.bool ev) 96)
  have Z4 : Hid (Bx5 V w.heap.size 96 (.slice none 0 0) (.slice none 0 0) (.slice none 0 0) (.int .i64 0) (.bool false)) := Lib.hid (by rw [hV]; exact Z3.out.alloc _)
  have B4 : Hid (Below w.heap.size w V) := Lib.hid (by rw [hV]; exact B3.out.alloc B3.out.size _)
  replace V1 : Hid (NV V (.slice a1 n1 c1) _) := Lib.hid (by rw [hV]; exact V1.out.alloc _)
  replace V2 : Hid (NV V (.slice a2 n2 c2) _) := Lib.hid (by rw [hV]; exact V2.out.alloc _)
  replace V3 : Hid (NV V (.slice a3 n3 c3) _) := Lib.hid (by rw [hV]; exact V3.out.alloc _)
  obtain ⟨bx, hbx⟩ : ∃ bx, bx = w3.heap.size := ⟨_, rfl⟩
  rw [← hbx] at X4 hB
  obtain ⟨s0, s1, s2, s3, s4, t0, t1, t2, t3, t4⟩ := Z4.out.cells
  obtain ⟨u0, u1, u2, u3, u4, g0, g1, g2, g3, g4⟩ := X4.out.cells
  rw [hV] at s0 s1 s2 s3 s4 t0 t1 t2 t3 t4 u0 u1 u2 u3 u4 g0 g1 g2 g3 g4
  rw [hbx] at u0 u1 u2 u3 u4 g0 g1 g2 g3 g4
  go_wp2
  rw [← hV]
  have Z5 := Lib.hid (Z4.out.set5 (.slice a1 n1 c1) (.slice a2 n2 c2) (.slice a3 n3 c3) (.int .i64 (max e 1 - 1075 - 2)) (.bool ev))
  clear s0 s1 s2 s3 s4 t0 t1 t2 t3 t4 u0 u1 u2 u3 u4 g0 g1 g2 g3 g4
  obtain ⟨s0, s1, s2, s3, s4, t0, t1, t2, t3, t4⟩ := Z5.out.cells
  unfold set5 at s0 s1 s2 s3 s4
  refine bodyPost_ret (v := .agg #[.slice a1 n1 c1, .slice a2 n2 c2, .slice a3 n3 c3, .int .i64 (max e 1 - 1075 - 2), .bool ev]) (by simp [results, Tryz.results69, go_sem, s0, s1, s2, s3, s4]) rfl ?_
  have m1 := V1.out.setB5 Z4.out (noLimb_slice _ _ _) (noLimb_slice _ _ _) (noLimb_slice _ _ _) (noLimb_i64 _) (noLimb_bool _) (noLimb_slice a1 n1 c1) (noLimb_slice a2 n2 c2) (noLimb_slice a3 n3 c3) (noLimb_i64 (max e 1 - 1075 - 2)) (d4 := .bool ev)
  have m2 := V2.out.setB5 Z4.out (noLimb_slice _ _ _) (noLimb_slice _ _ _) (noLimb_slice _ _ _) (noLimb_i64 _) (noLimb_bool _) (noLimb_slice a1 n1 c1) (noLimb_slice a2 n2 c2) (noLimb_slice a3 n3 c3) (noLimb_i64 (max e 1 - 1075 - 2)) (d4 := .bool ev)
  have m3 := V3.out.setB5 Z4.out (noLimb_slice _ _ _) (noLimb_slice _ _ _) (noLimb_slice _ _ _) (noLimb_i64 _) (noLimb_bool _) (noLimb_slice a1 n1 c1) (noLimb_slice a2 n2 c2) (noLimb_slice a3 n3 c3) (noLimb_i64 (max e 1 - 1075 - 2)) (d4 := .bool ev)
  refine ⟨_, rfl, ⟨_, _, _, rfl, ?_, ?_, ?_⟩, bl_set5 B4.out (Nat.le_refl _) _ _ _ _ _⟩
  · rw [show 4 * M.toNat = (4 * M).toNat by omega]; exact m1
  · rw [show 4 * M.toNat - 2 = (4 * M - 2).toNat by omega]; exact m2
  · rw [show 4 * M.toNat + 2 = (4 * M + 2).toNat by omega]; exact m3
set_option maxRecDepth 100000 in
set_option maxHeartbeats 8000000 in
theorem limits_a3 (x : Int) (e f : Int) (he : 0 ≤ e ∧ e ≤ 2047) (hf : 0 ≤ f ∧ f ≤ 4503599627370495) (h1 : f = 0) (h2 : e = 1) (w : World)
    (HP : Hid (∀ w' : World, Calls Tryz.prog 58 #[.int .u64 x] w' fun e1 w2 => e1 = .returned (.tuple #[.bool (fng x), .int .i64 e, .int .u64 f]) ∧ w' = w2)) :
    Calls Tryz.prog 69 #[.int .u64 x] w fun r w' => ∃ v, r = .returned v ∧ (∃ a b c, v = .agg #[a, b, c, .int .i64 (max e 1 - 1077), .bool (decide (f % 2 = 0))] ∧ NV w' a (4 * (f + 4503599627370496).toNat) ∧ NV w' b (4 * (f + 4503599627370496).toNat - 2) ∧ NV w' c (4 * (f + 4503599627370496).toNat + 2)) ∧ Below w.heap.size w w' := by
  subst h1
  have h0 : 0 < e := by omega
  have h3 : ¬ 1 < e := by omega
  clear h2
  have hor := or_hidden 0 (by omega) (by omega)
  obtain ⟨M, hM⟩ : ∃ M : Int, (0 : Int) + 4503599627370496 = M := ⟨_, rfl⟩
  rw [hM] at hor ⊢
  have hd : decide ((0 : Int) % 2 = 0) = true := by decide
  rw [hd]
  have w1 : IntKind.u64.wrap (4 * M) = 4 * M := IntWalk.u64_in _ (by omega)
  have w2 : IntKind.u64.wrap (4 * M - 2) = 4 * M - 2 := IntWalk.u64_in _ (by omega)
  have w3 : IntKind.u64.wrap (4 * M + 2) = 4 * M + 2 := IntWalk.u64_in _ (by omega)
  have w4 : IntKind.u64.wrap (4 * M - 1) = 4 * M - 1 := IntWalk.u64_in _ (by omega)
  have OF := Lib.hid (fun y w' (h0 : 0 ≤ y) (h1 : y ≤ 18446744073709551615) => natOf_any y h0 h1 w')
  have hq := Lib.hid (show max e 1 - 1077 = max e 1 - 1075 - 2 by omega)
  rw [hq.out]
  go_enter Tryz.func69, Tryz.ntmps69
  go_wp2_with (go_at_call 58; refine (HP.out _).mono ?_; rintro e1 w' ⟨rfl, rfl⟩)
  refine (OF.out _ _ (by omega) (by omega)).mono ?_
  rintro r w1 ⟨v1, rfl, h1, hb1⟩
  obtain ⟨a1, n1, c1, rfl⟩ := h1.shape
  have Z1 := Lib.hid ((Bx5.new w (.slice none 0 0) (.slice none 0 0) (.slice none 0 0) (.int .i64 0) (.bool false) 96).below hb1)
  have B1 := Lib.hid (bl_thru ((Below.refl w.heap.size w).alloc (Nat.le_refl _) _) (Nat.le_refl _) hb1)
  have V1 := Lib.hid h1
  clear h1 hb1
  go_wp2_with fail
  refine (OF.out _ _ (by omega) (by omega)).mono ?_
  rintro r w2 ⟨v2, rfl, h2, hb2⟩
  obtain ⟨a2, n2, c2, rfl⟩ := h2.shape
  have Z2 := Lib.hid (Z1.out.below hb2)
  have B2 := Lib.hid (bl_thru B1.out (Nat.le_refl _) hb2)
  replace V1 := Lib.hid (V1.out.below hb2)
  have V2 := Lib.hid h2
  clear h2 hb2
  go_wp2_with fail
  refine (OF.out _ _ (by omega) (by omega)).mono ?_
  rintro r w3 ⟨v3, rfl, h3, hb3⟩
  obtain ⟨a3, n3, c3, rfl⟩ := h3.shape
  have Z3 := Lib.hid (Z2.out.below hb3)
  have B3 := Lib.hid (bl_thru B2.out (Nat.le_refl _) hb3)
  replace V1 := Lib.hid (V1.out.below hb3)
  replace V2 := Lib.hid (V2.out.below hb3)
  have V3 := Lib.hid h3
  clear h3 hb3
  have hB : w.heap.size < w3.heap.size := Z3.out.lt
  obtain ⟨V, hV⟩ : ∃ V, V = w3.alloc (.cells #[.slice a1 n1 c1, .slice a2 n2 c2, .slice a3 n3 c3, .int .i64 (max e 1 - 1075 - 2), .bool true] 96) := ⟨_, rfl⟩
  have X4 : Hid (Bx5 V w3.heap.size 96 (.slice a1 n1 c1) (.slice a2 n2 c2) (.slice a3 n3 c3) (.int .i64 (max e 1 - 1075 - 2)) (.bool true)) := Lib.hid (by rw [hV]; exact Bx5.new w3 (.slice a1 n1 c1) (.slice a2 n2 c2) (.slice a3 n3 c3) (.int .i64 (max e 1 - 1075 - 2)) (.bool true) 96)
  have Z4 : Hid (Bx5 V w.heap.size 96 (.slice none 0 0) (.slice none 0 0) (.slice none 0 0) (.int .i64 0) (.bool false)) := Lib.hid (by rw [hV]; exact Z3.out.alloc _)
  have B4 : Hid (Below w.heap.size w V) := Lib.hid (by rw [hV]; exact B3.out.alloc B3.out.size _)
  replace V1 : Hid (NV V (.slice a1 n1 c1) _) := Lib.hid (by rw [hV]; exact V1.out.alloc _)
  replace V2 : Hid (NV V (.slice a2 n2 c2) _) := Lib.hid (by rw [hV]; exact V2.out.alloc _)
  replace V3 : Hid (NV V (.slice a3 n3 c3) _) := Lib.hid (by rw [hV]; exact V3.out.alloc _)
  obtain ⟨bx, hbx⟩ : ∃ bx, bx = w3.heap.size := ⟨_, rfl⟩
  rw [← hbx] at X4 hB
  obtain ⟨s0, s1, s2, s3, s4, t0, t1, t2, t3, t4⟩ := Z4.out.cells
  obtain ⟨u0, u1, u2, u3, u4, g0, g1, g2, g3, g4⟩ := X4.out.cells
  rw [hV] at s0 s1 s2 s3 s4 t0 t1 t2 t3 t4 u0 u1 u2 u3 u4 g0 g1 g2 g3 g4
  rw [hbx] at u0 u1 u2 u3 u4 g0 g1 g2 g3 g4
  go_wp2
  rw [← hV]
  have Z5 := Lib.hid (Z4.out.set5 (.slice a1 n1 c1) (.slice a2 n2 c2) (.slice a3 n3 c3) (.int .i64 (max e 1 - 1075 - 2)) (.bool true))
  clear s0 s1 s2 s3 s4 t0 t1 t2 t3 t4 u0 u1 u2 u3 u4 g0 g1 g2 g3 g4
  obtain ⟨s0, s1, s2, s3, s4, t0, t1, t2, t3, t4⟩ := Z5.out.cells
  unfold set5 at s0 s1 s2 s3 s4
  refine bodyPost_ret (v := .agg #[.slice a1 n1 c1, .slice a2 n2 c2, .slice a3 n3 c3, .int .i64 (max e 1 - 1075 - 2), .bool true]) (by simp [results, Tryz.results69, go_sem, s0, s1, s2, s3, s4]) rfl ?_
  have m1 := V1.out.setB5 Z4.out (noLimb_slice _ _ _) (noLimb_slice _ _ _) (noLimb_slice _ _ _) (noLimb_i64 _) (noLimb_bool _) (noLimb_slice a1 n1 c1) (noLimb_slice a2 n2 c2) (noLimb_slice a3 n3 c3) (noLimb_i64 (max e 1 - 1075 - 2)) (d4 := .bool true)
  have m2 := V2.out.setB5 Z4.out (noLimb_slice _ _ _) (noLimb_slice _ _ _) (noLimb_slice _ _ _) (noLimb_i64 _) (noLimb_bool _) (noLimb_slice a1 n1 c1) (noLimb_slice a2 n2 c2) (noLimb_slice a3 n3 c3) (noLimb_i64 (max e 1 - 1075 - 2)) (d4 := .bool true)
  have m3 := V3.out.setB5 Z4.out (noLimb_slice _ _ _) (noLimb_slice _ _ _) (noLimb_slice _ _ _) (noLimb_i64 _) (noLimb_bool _) (noLimb_slice a1 n1 c1) (noLimb_slice a2 n2 c2) (noLimb_slice a3 n3 c3) (noLimb_i64 (max e 1 - 1075 - 2)) (d4 := .bool true)
  refine ⟨_, rfl, ⟨_, _, _, rfl, ?_, ?_, ?_⟩, bl_set5 B4.out (Nat.le_refl _) _ _ _ _ _⟩
  · rw [show 4 * M.toNat = (4 * M).toNat by omega]; exact m1
  · rw [show 4 * M.toNat - 2 = (4 * M - 2).toNat by omega]; exact m2
  · rw [show 4 * M.toNat + 2 = (4 * M + 2).toNat by omega]; exact m3
set_option maxRecDepth 100000 in
set_option maxHeartbeats 8000000 in
theorem limits_b (x : Int) (e f : Int) (he : 0 ≤ e ∧ e ≤ 2047) (hf : 0 ≤ f ∧ f ≤ 4503599627370495) (h1 : f ≠ 0) (h2 : e = 0) (w : World)
    (HP : Hid (∀ w' : World, Calls Tryz.prog 58 #[.int .u64 x] w' fun e1 w2 => e1 = .returned (.tuple #[.bool (fng x), .int .i64 e, .int .u64 f]) ∧ w' = w2)) :
    Calls Tryz.prog 69 #[.int .u64 x] w fun r w' => ∃ v, r = .returned v ∧ (∃ a b c, v = .agg #[a, b, c, .int .i64 (max e 1 - 1077), .bool (decide (f % 2 = 0))] ∧ NV w' a (4 * (f).toNat) ∧ NV w' b (4 * (f).toNat - 2) ∧ NV w' c (4 * (f).toNat + 2)) ∧ Below w.heap.size w w' := by
  have h3 : ¬ 0 < e := by omega
  clear h2
  have hf0 : (f == 0) = false := by rw [beq_eq_false_iff_ne]; exact h1
  have hev : (f % 2 == 0) = decide (f % 2 = 0) := by rw [Bool.eq_iff_iff]; simp
  obtain ⟨ev, hev2⟩ : ∃ ev, ev = decide (f % 2 = 0) := ⟨_, rfl⟩
  rw [← hev2] at hev ⊢
  clear hev2
  have w1 : IntKind.u64.wrap (4 * f) = 4 * f := IntWalk.u64_in _ (by omega)
  have w2 : IntKind.u64.wrap (4 * f - 2) = 4 * f - 2 := IntWalk.u64_in _ (by omega)
  have w3 : IntKind.u64.wrap (4 * f + 2) = 4 * f + 2 := IntWalk.u64_in _ (by omega)
  have w4 : IntKind.u64.wrap (4 * f - 1) = 4 * f - 1 := IntWalk.u64_in _ (by omega)
  have OF := Lib.hid (fun y w' (h0 : 0 ≤ y) (h1 : y ≤ 18446744073709551615) => natOf_any y h0 h1 w')
  have hq := Lib.hid (show max e 1 - 1077 = max e 1 - 1075 - 2 by omega)
  rw [hq.out]
  go_enter Tryz.func69, Tryz.ntmps69
  go_wp2_with (go_at_call 58; refine (HP.out _).mono ?_; rintro e1 w' ⟨rfl, rfl⟩)
  refine (OF.out _ _ (by omega) (by omega)).mono ?_
  rintro r w1 ⟨v1, rfl, h1, hb1⟩
  obtain ⟨a1, n1, c1, rfl⟩ := h1.shape
  have Z1 := Lib.hid ((Bx5.new w (.slice none 0 0) (.slice none 0 0) (.slice none 0 0) (.int .i64 0) (.bool false) 96).below hb1)
  have B1 := Lib.hid (bl_thru ((Below.refl w.heap.size w).alloc (Nat.le_refl _) _) (Nat.le_refl _) hb1)
  have V1 := Lib.hid h1
  clear h1 hb1
  go_wp2_with fail
  refine (OF.out _ _ (by omega) (by omega)).mono ?_
  rintro r w2 ⟨v2, rfl, h2, hb2⟩
  obtain ⟨a2, n2, c2, rfl⟩ := h2.shape
  have Z2 := Lib.hid (Z1.out.below hb2)
  have B2 := Lib.hid (bl_thru B1.out (Nat.le_refl _) hb2)
  replace V1 := Lib.hid (V1.out.below hb2)
  have V2 := Lib.hid h2
  clear h2 hb2
  go_wp2_with fail
  refine (OF.out _ _ (by omega) (by omega)).mono ?_
  rintro r w3 ⟨v3, rfl, h3, hb3⟩
  obtain ⟨a3, n3, c3, rfl⟩ := h3.shape
  have Z3 := Lib.hid (Z2.out.below hb3)
  have B3 := Lib.hid (bl_thru B2.out (Nat.le_refl _) hb3)
  replace V1 := Lib.hid (V1.out.below hb3)
  replace V2 := Lib.hid (V2.out.below hb3)
  have V3 := Lib.hid h3
  clear h3 hb3
  have hB : w.heap.size < w3.heap.size := Z3.out.lt
  obtain ⟨V, hV⟩ : ∃ V, V = w3.alloc (.cells #[.slice a1 n1 c1, .slice a2 n2 c2, .slice a3 n3 c3, .int .i64 (max e 1 - 1075 - 2), .bool ev] 96) := ⟨_, rfl⟩
  have X4 : Hid (Bx5 V w3.heap.size 96 (.slice a1 n1 c1) (.slice a2 n2 c2) (.slice a3 n3 c3) (.int .i64 (max e 1 - 1075 - 2)) (.bool ev)) := Lib.hid (by rw [hV]; exact Bx5.new w3 (.slice a1 n1 c1) (.slice a2 n2 c2) (.slice a3 n3 c3) (.int .i64 (max e 1 - 1075 - 2)) (.bool ev) 96)
  have Z4 : Hid (Bx5 V w.heap.size 96 (.slice none 0 0) (.slice none 0 0) (.slice none 0 0) (.int .i64 0) (.bool false)) := Lib.hid (by rw [hV]; exact Z3.out.alloc _)
  have B4 : Hid (Below w.heap.size w V) := Lib.hid (by rw [hV]; exact B3.out.alloc B3.out.size _)
  replace V1 : Hid (NV V (.slice a1 n1 c1) _) := Lib.hid (by rw [hV]; exact V1.out.alloc _)
  replace V2 : Hid (NV V (.slice a2 n2 c2) _) := Lib.hid (by rw [hV]; exact V2.out.alloc _)
  replace V3 : Hid (NV V (.slice a3 n3 c3) _) := Lib.hid (by rw [hV]; exact V3.out.alloc _)
  obtain ⟨bx, hbx⟩ : ∃ bx, bx = w3.heap.size := ⟨_, rfl⟩
  rw [← hbx] at X4 hB
  obtain ⟨s0, s1, s2, s3, s4, t0, t1, t2, t3, t4⟩ := Z4.out.cells
  obtain ⟨u0, u1, u2, u3, u4, g0, g1, g2, g3, g4⟩ := X4.out.cells
  rw [hV] at s0 s1 s2 s3 s4 t0 t1 t2 t3 t4 u0 u1 u2 u3 u4 g0 g1 g2 g3 g4
  rw [hbx] at u0 u1 u2 u3 u4 g0 g1 g2 g3 g4
  go_wp2
  rw [← hV]
  have Z5 := Lib.hid (Z4.out.set5 (.slice a1 n1 c1) (.slice a2 n2 c2) (.slice a3 n3 c3) (.int .i64 (max e 1 - 1075 - 2)) (.bool ev))
  clear s0 s1 s2 s3 s4 t0 t1 t2 t3 t4 u0 u1 u2 u3 u4 g0 g1 g2 g3 g4
  obtain ⟨s0, s1, s2, s3, s4, t0, t1, t2, t3, t4⟩ := Z5.out.cells
  unfold set5 at s0 s1 s2 s3 s4
  refine bodyPost_ret (v := .agg #[.slice a1 n1 c1, .slice a2 n2 c2, .slice a3 n3 c3, .int .i64 (max e 1 - 1075 - 2), .bool ev]) (by simp [results, Tryz.results69, go_sem, s0, s1, s2, s3, s4]) rfl ?_
  have m1 := V1.out.setB5 Z4.out (noLimb_slice _ _ _) (noLimb_slice _ _ _) (noLimb_slice _ _ _) (noLimb_i64 _) (noLimb_bool _) (noLimb_slice a1 n1 c1) (noLimb_slice a2 n2 c2) (noLimb_slice a3 n3 c3) (noLimb_i64 (max e 1 - 1075 - 2)) (d4 := .bool ev)
  have m2 := V2.out.setB5 Z4.out (noLimb_slice _ _ _) (noLimb_slice _ _ _) (noLimb_slice _ _ _) (noLimb_i64 _) (noLimb_bool _) (noLimb_slice a1 n1 c1) (noLimb_slice a2 n2 c2) (noLimb_slice a3 n3 c3) (noLimb_i64 (max e 1 - 1075 - 2)) (d4 := .bool ev)
  have m3 := V3.out.setB5 Z4.out (noLimb_slice _ _ _) (noLimb_slice _ _ _) (noLimb_slice _ _ _) (noLimb_i64 _) (noLimb_bool _) (noLimb_slice a1 n1 c1) (noLimb_slice a2 n2 c2) (noLimb_slice a3 n3 c3) (noLimb_i64 (max e 1 - 1075 - 2)) (d4 := .bool ev)
  refine ⟨_, rfl, ⟨_, _, _, rfl, ?_, ?_, ?_⟩, bl_set5 B4.out (Nat.le_refl _) _ _ _ _ _⟩
  · rw [show 4 * f.toNat = (4 * f).toNat by omega]; exact m1
  · rw [show 4 * f.toNat - 2 = (4 * f - 2).toNat by omega]; exact m2
  · rw [show 4 * f.toNat + 2 = (4 * f + 2).toNat by omega]; exact m3
theorem limits_any (x : Int) (x0 : 0 ≤ x) (x1 : x ≤ 18446744073709551615) (hm : 1 ≤ lmM x) (w : World) :
    Calls Tryz.prog 69 #[.int .u64 x] w fun r w' => ∃ v, r = .returned v ∧ Lim5 w' x v ∧ Below w.heap.size w w' := by
  have HP := Lib.hid (fun w' => parts_any x x0 x1 w')
  unfold Lim5 lmL lmE lmM
  unfold lmM at hm
  have hf := ffr_bd x
  have he := fexp_bd x
  generalize fexp x = e at *
  generalize ffr x = f at *
  by_cases h0 : 0 < e
  · rw [if_pos h0] at hm ⊢
    by_cases h1 : f = 0
    · by_cases h2 : 1 < e
      · rw [if_pos ⟨h1, h2⟩]
        exact limits_a1 x e f he hf h1 h2 w HP
      · rw [if_neg (fun h => h2 h.2)]
        exact limits_a3 x e f he hf h1 (by omega) w HP
    · rw [if_neg (fun h => h1 h.1)]
      exact limits_a2 x e f he hf h1 h0 w HP
  · rw [if_neg h0] at hm ⊢
    rw [if_neg (fun h => h0 (by omega))]
    exact limits_b x e f he hf (by omega) (by omega) w HP
end Go.Proofs.YthkcbjhjhkpclaaGreatDoor

/-
  THE WALK of (short.bounds).fits.
-/
namespace Go.Proofs.YthkcbjhjhkpclaaGreatDoor
open Go.RowKit Nt Fm Fl

def ftLo (n L : Nat) (k e : Int) : Int := sgn2 (cpA n k e) (cpB L k e)
def ftB (n L H : Nat) (k e : Int) (ev : Bool) : Bool := (decide (0 < ftLo n L k e) && decide (ftLo n H k e < 0)) || (ev && (ftLo n L k e == 0 || ftLo n H k e == 0))
set_option maxRecDepth 100000 in
set_option maxHeartbeats 8000000 in
theorem fits_any (va vb vc vn : Value) (L H n : Nat) (k e : Int) (ev : Bool) (kd : Nat) (w : World) (hb : NV w vb L) (hc : NV w vc H) (hn : NV w vn n) (hA : ∃ S, NV w va S) (hLm : L < 2 ^ kd) (hHm : H < 2 ^ kd) (hnm : n < 2 ^ kd) (hkd : kd ≤ 12800) (k0 : -3000 ≤ k) (k1 : k ≤ 3000) (e0 : -3000 ≤ e) (e1 : e ≤ 3000) :
    Calls Tryz.prog 76 #[.agg #[va, vb, vc, .int .i64 e, .bool ev], vn, .int .i64 k] w fun r w' => r = .returned (.bool (ftB n L H k e ev)) ∧ Below w.heap.size w w' := by
  obtain ⟨S, hA⟩ := hA
  obtain ⟨aa, an, ac, rfl⟩ := hA.shape
  obtain ⟨ba, bn, bc, rfl⟩ := hb.shape
  obtain ⟨ca, cn, cc, rfl⟩ := hc.shape
  obtain ⟨na, nn, nc, rfl⟩ := hn.shape
  have C1 := Lib.hid (fun w' (h : NV w' (.slice na nn nc) n) (h2 : NV w' (.slice ba bn bc) L) => scompare_any _ _ n L k e kd w' h h2 hnm hLm hkd k0 k1 e0 e1)
  have C2 := Lib.hid (fun w' (h : NV w' (.slice na nn nc) n) (h2 : NV w' (.slice ca cn cc) H) => scompare_any _ _ n H k e kd w' h h2 hnm hHm hkd k0 k1 e0 e1)
  unfold ftB ftLo
  generalize sgn2 (cpA n k e) (cpB L k e) = lo at *
  generalize sgn2 (cpA n k e) (cpB H k e) = hi at *
  have HB := Lib.hid hb
  have HC := Lib.hid hc
  have HN := Lib.hid hn
  clear hb hc hn hA hLm hHm hnm
  go_enter Tryz.func76, Tryz.ntmps76
  go_wp2_with fail
  obtain ⟨V, hV⟩ : ∃ V, V = w.alloc (.cells #[.slice aa an ac, .slice ba bn bc, .slice ca cn cc, .int .i64 e, .bool ev] 96) := ⟨_, rfl⟩
  have X : Hid (Bx5 V w.heap.size 96 (.slice aa an ac) (.slice ba bn bc) (.slice ca cn cc) (.int .i64 e) (.bool ev)) := Lib.hid (by rw [hV]; exact Bx5.new w _ _ _ _ _ _)
  have B : Hid (Below w.heap.size w V) := Lib.hid (by rw [hV]; exact (Below.refl _ _).alloc (Nat.le_refl _) _)
  replace HB : Hid (NV V (.slice ba bn bc) L) := Lib.hid (by rw [hV]; exact HB.out.alloc _)
  replace HC : Hid (NV V (.slice ca cn cc) H) := Lib.hid (by rw [hV]; exact HC.out.alloc _)
  replace HN : Hid (NV V (.slice na nn nc) n) := Lib.hid (by rw [hV]; exact HN.out.alloc _)
  rw [← hV]
  clear hV
  have X0 : Hid (Bx5 V.drew w.heap.size 96 (.slice aa an ac) (.slice ba bn bc) (.slice ca cn cc) (.int .i64 e) (.bool ev)) := Lib.hid X.out
  obtain ⟨p0, p1, p2, p3, p4, -, -, -, -, -⟩ := X0.out.cells
  go_region_held3 (fun w' => w'.cell? ⟨w.heap.size, 1, none⟩ = some (.slice ba bn bc) ∧ w'.cell? ⟨w.heap.size, 2, none⟩ = some (.slice ca cn cc) ∧ w'.cell? ⟨w.heap.size, 3, none⟩ = some (.int .i64 e) ∧ w'.cell? ⟨w.heap.size, 4, none⟩ = some (.bool ev))
    (first
      | with_reducible exact ⟨p1, p2, p3, p4⟩
      | (obtain ⟨p0, p1, p2, p3, p4, -, -, -, -, -⟩ := X1.out.cells; exact ⟨p1, p2, p3, p4⟩)
      | (obtain ⟨p0, p1, p2, p3, p4, -, -, -, -, -⟩ := X2.out.cells; exact ⟨p1, p2, p3, p4⟩)
      | (go_keep; done))
    (first
      | (go_at_call_of 77 (Value.slice ba bn bc); refine (C1.out _ (HN.out.below (Below.refl _ _).drew) (HB.out.below (Below.refl _ _).drew)).mono ?_; rintro r w1 ⟨rfl, hb1⟩; have X1 := Lib.hid (X0.out.below hb1); have B1 := Lib.hid (bl_thru B.out.drew (Nat.le_refl _) hb1); have HN1 := Lib.hid ((HN.out.below (Below.refl _ _).drew).below hb1); have HC1 := Lib.hid ((HC.out.below (Below.refl _ _).drew).below hb1))
      | (go_at_call_of 77 (Value.slice ca cn cc); refine (C2.out _ HN1.out HC1.out).mono ?_; rintro r w2 ⟨rfl, hb2⟩; have X2 := Lib.hid (X1.out.below hb2); have B2 := Lib.hid (bl_thru B1.out (Nat.le_refl _) hb2)))
  clear p0 p1 p2 p3 p4 hb1 hb2
  obtain ⟨p0, p1, p2, p3, p4, -, -, -, -, -⟩ := X2.out.cells
  go_wp2
  all_goals first
    | (go_ret; refine ⟨congrArg (fun b => Ending.returned (Value.bool b)) ?_, B2.out⟩; rw [Bool.eq_iff_iff]; clear X X0 X1 X2 B B1 B2 HB HC HN HN1 HC1 C1 C2 p0 p1 p2 p3 p4; simp_all; done)
    | (go_ret; refine ⟨congrArg (fun b => Ending.returned (Value.bool b)) ?_, B2.out⟩; rw [Bool.eq_iff_iff]; clear X X0 X1 X2 B B1 B2 HB HC HN HN1 HC1 C1 C2 p0 p1 p2 p3 p4; simp_all; omega)
    | (go_ret; refine ⟨congrArg (fun b => Ending.returned (Value.bool b)) ?_, B2.out⟩; clear X X0 X1 X2 B B1 B2 HB HC HN HN1 HC1 C1 C2 p0 p1 p2 p3 p4; grind)
    | trace_state
end Go.Proofs.YthkcbjhjhkpclaaGreatDoor
