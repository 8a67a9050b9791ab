/-
  THE WALK of natLives.
-/
import Derived.Test.YthlocmhfjandlaaDoorNe
import Derived.Test.YthlocmhfjandlaaDoorSl
import Derived.Test.YthlocmhfjandlaaDoorBa
import Derived.Deep.RegionWith
set_option linter.unusedVariables false
set_option linter.unusedSimpArgs false
namespace Go.Proofs.YthlocmhfjandlaaDoor
open Go.RowKit Nt Fm

theorem lim_new (w : World) (l : List Nat) (T : TypeId) (hl : Lims l) (h1 : l.length ≤ 1000) : Lim (w.alloc (.cells (l.map fun d => Value.int .u32 ((d : Nat) : Int)).toArray T)) (.slice (some ⟨w.heap.size, 0, none⟩) l.length l.length) l := by
  refine ⟨hl, _, _, rfl, Nat.le_refl _, by unfold maxLen; omega, Or.inr ⟨w.heap.size, 0, rfl, by simp, fun i hi => ?_⟩⟩
  simp [go_sem, hi, List.getD]
theorem nv_new1 (w : World) (x : Nat) (T : TypeId) (h0 : x ≠ 0) (h1 : x < 4294967296) : NV (w.alloc (.cells #[.int .u32 (x : Int)] T)) (.slice (some ⟨w.heap.size, 0, none⟩) 1 1) x := by
  have h := lim_new w [x] T (Lims.cons h1 Lims.nil) (by simp)
  exact ⟨[x], ⟨Lims.cons h1 Lims.nil, by simpa using h0⟩, by simp [val], h⟩
theorem nv_new2 (w : World) (x y : Nat) (T : TypeId) (h0 : y ≠ 0) (hx : x < 4294967296) (h1 : y < 4294967296) : NV (w.alloc (.cells #[.int .u32 (x : Int), .int .u32 (y : Int)] T)) (.slice (some ⟨w.heap.size, 0, none⟩) 2 2) (x + 4294967296 * y) := by
  have h := lim_new w [x, y] T (Lims.cons hx (Lims.cons h1 Lims.nil)) (by simp)
  exact ⟨[x, y], ⟨Lims.cons hx (Lims.cons h1 Lims.nil), by simpa using h0⟩, by simp [val], h⟩
theorem nv_new3 (w : World) (x y z : Nat) (T : TypeId) (h0 : z ≠ 0) (hx : x < 4294967296) (hy : y < 4294967296) (h1 : z < 4294967296) : NV (w.alloc (.cells #[.int .u32 (x : Int), .int .u32 (y : Int), .int .u32 (z : Int)] T)) (.slice (some ⟨w.heap.size, 0, none⟩) 3 3) (x + 4294967296 * (y + 4294967296 * z)) := by
  have h := lim_new w [x, y, z] T (Lims.cons hx (Lims.cons hy (Lims.cons h1 Lims.nil))) (by simp)
  exact ⟨[x, y, z], ⟨Lims.cons hx (Lims.cons hy (Lims.cons h1 Lims.nil)), by simpa using h0⟩, by simp [val], h⟩
theorem NA.of0 {w : World} {v : Value} {n : Nat} (h : NV w v n) (hn : blen n ≤ 12800) : NA w v 0 n := by
  have := NA.ofNV h
  rw [ckN_zero.2 hn] at this
  exact this
theorem nv_len3 {w : World} {v : Value} {n : Nat} (h : NV w v n) (h1 : 2 ^ 64 ≤ n) (h2 : n < 2 ^ 96) : ∃ (ao : Option Addr) (c : Nat), v = .slice ao 3 c := by
  obtain ⟨l, h3, h4, ⟨h5, ao, cap, h6, h7⟩⟩ := h
  subst h4
  have h8 := h3.len h2
  have h9 : 3 ≤ l.length := by
    rcases Nat.lt_or_ge l.length 3 with hl | hl
    · have h10 := val_lt h3.1
      have h11 : (2 : Nat) ^ (32 * l.length) ≤ 2 ^ 64 := Nat.pow_le_pow_right (by omega) (by omega)
      omega
    · exact hl
  obtain h10 : l.length = 3 := by omega
  exact ⟨ao, cap, by rw [h6, h10]⟩
theorem lv_sh : shE 0 100 = 0 ∧ shN 5 100 = 6338253001141147007483516026880 ∧ shL 5 100 = false := ⟨by kernel_rfl, by kernel_rfl, by kernel_rfl⟩
theorem lv_bl : blen 6338253001141147007483516026880 ≤ 12800 ∧ blen 129127208515966861312 ≤ 12800 ∧ blen 99 ≤ 12800 ∧ blen 5 ≤ 12800 :=
  ⟨Nat.le_trans (blen_le_of (k := 104) (n := 6338253001141147007483516026880) (by decide)) (by omega), Nat.le_trans (blen_le_of (k := 70) (n := 129127208515966861312) (by decide)) (by omega), Nat.le_trans (blen_le_of (k := 10) (n := 99) (by decide)) (by omega), Nat.le_trans (blen_le_of (k := 10) (n := 5) (by decide)) (by omega)⟩
theorem lv_div : divE 0 0 129127208515966861312 = 0 ∧ 6338253001141147007483516026880 / 129127208515966861312 = 49085340525 ∧ 6338253001141147007483516026880 % 129127208515966861312 = 92233720368547758080 := ⟨by decide, by decide, by decide⟩
theorem lv_isq : isq 99 = 9 := isq_of (by unfold IsRoot; omega)
theorem lv_rt : rtL 99 = true := by unfold rtL; rw [lv_isq]; decide
def decF : Nat → Nat → List UInt8 → List UInt8
  | 0, u, acc => UInt8.ofNat (48 + u) :: acc
  | f + 1, u, acc => if u < 10 then UInt8.ofNat (48 + u) :: acc else decF f (u / 10) (UInt8.ofNat (48 + u % 10) :: acc)
theorem decF_eq : ∀ (f u : Nat) (acc : List UInt8), u < 10 ^ (f + 1) → decF f u acc = Lib.decDigits u ++ acc
  | 0, u, acc, h => by rw [dec_small (by simpa using h)]; rfl
  | f + 1, u, acc, h => by
    unfold decF
    split
    · rename_i hu; rw [dec_small hu]; rfl
    · rename_i hu
      rw [decF_eq f _ _ (by rw [Nat.div_lt_iff_lt_mul (by omega), ← Nat.pow_succ]; exact h), dec_big hu, List.append_assoc]; rfl
theorem lv_txt : txt 0 6338253001141147007483516026880 = ⟨#[54, 51, 51, 56, 50, 53, 51, 48, 48, 49, 49, 52, 49, 49, 52, 55, 48, 48, 55, 52, 56, 51, 53, 49, 54, 48, 50, 54, 56, 56, 48]⟩ := by
  have h := decF_eq 31 6338253001141147007483516026880 [] (by decide)
  rw [List.append_nil] at h
  have h2 : decF 31 6338253001141147007483516026880 [] = [54, 51, 51, 56, 50, 53, 51, 48, 48, 49, 49, 52, 49, 49, 52, 55, 48, 48, 55, 52, 56, 51, 53, 49, 54, 48, 50, 54, 56, 56, 48] := by kernel_rfl
  unfold txt
  rw [if_pos rfl, ← h, h2]
set_option maxRecDepth 100000 in
set_option maxHeartbeats 8000000 in
theorem natLives_any (w : World) (hT : Tab10 w) :
    Calls Tryd.prog 14 #[] w fun e w' => e = .returned (.bool true) ∧ Below w.heap.size w w' := by
  obtain ⟨s1, s2, s3⟩ := lv_sh
  obtain ⟨b1, b2, b3, b4⟩ := lv_bl
  obtain ⟨d1, d2, d3⟩ := lv_div
  have sh := fun va w' (h : NA w' va 0 5) => nshift_any va 0 5 100 (by omega) (by omega) w' h
  rw [s1, s2, s3, or0_zero, orF_zero] at sh
  have dv := fun va vb w' (h : NA w' va 0 6338253001141147007483516026880) (h2 : NA w' vb 0 129127208515966861312) => ndiv_any va vb 0 0 _ _ w' h h2
  rw [d1, d2, d3, or0_zero, or0_zero] at dv
  have rt := fun va w' (h : NA w' va 0 99) => nroot_any va 0 99 w' h
  rw [lv_isq, lv_rt, or0_zero, orF_zero] at rt
  have tx := fun va w' (h : NA w' va 0 6338253001141147007483516026880) (h2 : Tab10 w') => ntext_any va 0 _ w' h h2
  rw [lv_txt] at tx
  have n5 := fun w' => nv_new1 w' 5 28 (by omega) (by omega)
  have n99 := fun w' => nv_new1 w' 99 28 (by omega) (by omega)
  have n9 : ∀ (w' : World) (b : Nat), b = w'.heap.size → NV (w'.alloc (.cells #[.int .u32 9] 28)) (.slice (some ⟨b, 0, none⟩) 1 1) 9 := fun w' b hb => by subst hb; exact nv_new1 w' 9 28 (by omega) (by omega)
  have n7 := fun w' => nv_new3 w' 0 0 7 28 (by omega) (by omega) (by omega) (by omega)
  have nq : ∀ (w' : World) (b : Nat), b = w'.heap.size → NV (w'.alloc (.cells #[.int .u32 1840700269, .int .u32 11] 28)) (.slice (some ⟨b, 0, none⟩) 2 2) (1840700269 + 4294967296 * 11) := fun w' b hb => by subst hb; exact nv_new2 w' 1840700269 11 28 (by omega) (by omega) (by omega)
  have h3 : ∀ v w', NV w' v 92233720368547758080 → ∃ (ao : Option Addr) (c : Nat), v = .slice ao 3 c := fun v w' h => nv_len3 h (by decide) (by decide)
  have a1 : ∀ v w', NV w' v 6338253001141147007483516026880 → NA w' v 0 6338253001141147007483516026880 := fun v w' h => NA.of0 h b1
  have a2 : ∀ v w', NV w' v 129127208515966861312 → NA w' v 0 129127208515966861312 := fun v w' h => NA.of0 h b2
  have a3 : ∀ v w', NV w' v 99 → NA w' v 0 99 := fun v w' h => NA.of0 h b3
  have a4 : ∀ v w', NV w' v 5 → NA w' v 0 5 := fun v w' h => NA.of0 h b4
  simp only [Int.cast_ofNat_Int] at n5 n99 n7
  rw [show 0 + 4294967296 * (0 + 4294967296 * 7) = 129127208515966861312 from rfl] at n7
  rw [show 1840700269 + 4294967296 * 11 = 49085340525 from rfl] at nq
  have eq1 := fun va vb w' (h : NV w' va 49085340525) (h2 : NV w' vb 49085340525) => equal_any va vb _ _ w' h h2
  have eq2 := fun va vb w' (h : NV w' va 9) (h2 : NV w' vb 9) => equal_any va vb _ _ w' h h2
  rw [decide_eq_true rfl] at eq1 eq2
  clear s1 s2 s3 b1 b2 b3 b4 d1 d2 d3
  generalize 6338253001141147007483516026880 = A at *
  generalize 129127208515966861312 = B at *
  generalize 92233720368547758080 = R at *
  generalize 49085340525 = Q at *
  have SH := Lib.hid sh
  have DV := Lib.hid dv
  have RT := Lib.hid rt
  have TX := Lib.hid tx
  have N5 := Lib.hid n5
  have N99 := Lib.hid n99
  have N9 := Lib.hid n9
  have N7 := Lib.hid n7
  have NQ := Lib.hid nq
  have H3 := Lib.hid h3
  have A1 := Lib.hid a1
  have A2 := Lib.hid a2
  have A3 := Lib.hid a3
  have A4 := Lib.hid a4
  have EQ1 := Lib.hid eq1
  have EQ2 := Lib.hid eq2
  have HT := Lib.hid hT
  have k4 := ok4_mk
  clear sh dv rt tx n5 n99 n9 n7 nq h3 a1 a2 a3 a4 eq1 eq2 hT
  go_enter Tryd.func14, Tryd.ntmps14
  go_wp2_with (first
    | (go_at_call 18; refine (SH.out _ _ (A4.out _ _ (N5.out w))).mono ?_; rintro e w1 ⟨v1, rfl, hn, hb⟩; obtain ⟨a1, k1, c1, rfl⟩ := hn.shape; have VA1 := Lib.hid hn; have B1 : Hid (Below w.heap.size w w1) := Lib.hid (bl2 _ hb); clear hn hb)
    | (go_at_call 21; refine (DV.out _ _ _ (A1.out _ _ (VA1.out.alloc _)) (A2.out _ _ (N7.out w1))).mono ?_; rintro e w2 ⟨v2, u2, rfl, hn, hm, hb⟩; obtain ⟨a2, k2, c2, rfl⟩ := hn.shape; obtain ⟨r2, d2, rfl⟩ := H3.out _ _ hm; have VA2 := Lib.hid ((VA1.out.alloc _).below hb); have VQ2 := Lib.hid hn; have B2 : Hid (Below w.heap.size w w2) := Lib.hid (bl_thru B1.out (Nat.le_refl _) (bl2 _ hb)); clear hn hm hb)
    | (go_at_call 20; refine (RT.out _ _ (A3.out _ _ (N99.out w2))).mono ?_; rintro e w3 ⟨v3, rfl, hn, hb⟩; obtain ⟨a3, k3, c3, rfl⟩ := hn.shape; have VA3 := Lib.hid (VA2.out.below (bl2 _ hb)); have VQ3 := Lib.hid (VQ2.out.below (bl2 _ hb)); have VS3 := Lib.hid hn; have B3 : Hid (Below w.heap.size w w3) := Lib.hid (bl_thru B2.out (Nat.le_refl _) (bl2 _ hb)); clear hn hb)
    | (go_at_call 43; refine (TX.out _ _ (A1.out _ _ VA3.out) (HT.out.below B3.out)).mono ?_; rintro e w4 ⟨rfl, hb⟩; have VQ4 := Lib.hid (VQ3.out.below hb); have VS4 := Lib.hid (VS3.out.below hb); have B4 : Hid (Below w.heap.size w w4) := Lib.hid (bl_thru B3.out (Nat.le_refl _) hb); clear hb)
    | (go_at_call 16; refine (ok_new4 _ _ _ _ _ _ rfl).mono ?_; rintro e w' ⟨rfl, rfl⟩))
  refine (EQ1.out _ _ _ (VQ4.out.below (by go_grown)) (NQ.out _ _ (by simp))).mono ?_
  rintro e w5 ⟨rfl, n5, rfl⟩
  go_wp2_with fail
  refine (EQ2.out _ _ _ ((((VS4.out.alloc _).alloc _).drewN n5).alloc _) (N9.out _ _ (by simp))).mono ?_
  rintro e w6 ⟨rfl, n6, rfl⟩
  go_wp2
  go_ret
  exact ⟨rfl, below_to_drewN ((below_to_drewN ((B4.out.alloc B4.out.size _).alloc (by have := B4.out.size; simp; omega) _)).alloc (by have := B4.out.size; simp; omega) _)⟩
end Go.Proofs.YthlocmhfjandlaaDoor
