/-
  SOME OF MY TEXTS in one: Pw Sc. Each says what it proves.
-/
import Derived.Test.YthlocmhfjandlaaGreatDoorNa
import Derived.Test.YthlocmhfjandlaaGreatDoorBd
import Derived.Test.YthlocmhfjandlaaGreatDoorDk
import Derived.Test.YthlocmhfjandlaaGreatDoorDa
import Derived.Test.YthlocmhfjandlaaGreatDoorOv
set_option linter.unusedVariables false
set_option linter.unusedSimpArgs false
/-
  THE WALK of nat.Pow.
-/
namespace Go.Proofs.YthlocmhfjandlaaGreatDoor
open Go.RowKit Nt

/-- where the loop stands: o times x^k is b^n -/
def PwI (o x k b n k0 : Nat) : Prop := o * x ^ k = b ^ n ∧ 0 < o ∧ 0 < x ∧ o < 2 ^ k0 ∧ (k ≠ 0 → x < 2 ^ k0)
theorem PwI.start {b n k0 : Nat} (hb : 0 < b) (h : b ^ n < 2 ^ k0) : PwI 1 b n b n k0 := by
  have h1 : 0 < b ^ n := Nat.pow_pos hb
  refine ⟨Nat.one_mul _, by omega, hb, by omega, fun hn => ?_⟩
  exact Nat.lt_of_le_of_lt (Nat.le_self_pow hn b) h
theorem PwI.step {o x k b n k0 : Nat} (h : PwI o x k b n k0) (hk : k ≠ 0) (hl : b ^ n < 2 ^ k0) : PwI (if k % 2 = 1 then o * x else o) (x * x) (k / 2) b n k0 := by
  obtain ⟨h1, h2, h3, h4, h5⟩ := h
  have e : (if k % 2 = 1 then o * x else o) * (x * x) ^ (k / 2) = b ^ n := by
    rw [← h1, ← Nat.pow_two, ← Nat.pow_mul]
    split
    · rename_i hk1
      rw [Nat.mul_assoc, ← Nat.pow_succ', show (2 * (k / 2)).succ = k by omega]
    · rw [show 2 * (k / 2) = k by omega]
  have ho : 0 < (if k % 2 = 1 then o * x else o) := by split; exact Nat.mul_pos h2 h3; exact h2
  have hx : 0 < x * x := Nat.mul_pos h3 h3
  refine ⟨e, ho, hx, ?_, fun hk2 => ?_⟩
  · have : (if k % 2 = 1 then o * x else o) * 1 ≤ (if k % 2 = 1 then o * x else o) * (x * x) ^ (k / 2) := Nat.mul_le_mul_left _ (Nat.pow_pos hx)
    omega
  · have h6 : 1 * (x * x) ≤ (if k % 2 = 1 then o * x else o) * (x * x) ^ (k / 2) := Nat.mul_le_mul ho (Nat.le_self_pow hk2 _)
    omega
theorem PwI.fin {o x b n k0 : Nat} (h : PwI o x 0 b n k0) : o = b ^ n := by have := h.1; simpa using this
set_option maxHeartbeats 4000000 in
theorem pow_any (b n k0 : Nat) (w : World) (hb0 : 0 < b) (hb : b < 18446744073709551616) (hn : n < 9223372036854775807) (h : b ^ n < 2 ^ k0) (hk0 : k0 ≤ 1000000) :
    Calls Tryz.prog 153 #[.int .u64 (b : Int), .int .i64 (n : Int)] w (RetNV w (b ^ n)) := by
  have HL : Hid (b ^ n < 2 ^ k0 ∧ True) := Lib.hid ⟨h, trivial⟩
  have I0 := Lib.hid (PwI.start (n := n) (k0 := k0) hb0 h)
  have OF1 := Lib.hid (fun w' => natOf_any 1 (by omega) (by omega) w')
  have OF2 := Lib.hid (fun w' => natOf_any (b : Int) (by omega) (by omega) w')
  have TM := Lib.hid (fun va vb a c w' (ha : NV w' va a) (hb : NV w' vb c) (hka : a < 2 ^ k0) (hkb : c < 2 ^ k0) => times_any va vb a c k0 w' ha hb hka hkb (by omega))
  simp only [Int.toNat_natCast] at OF2
  obtain ⟨R, hR⟩ : ∃ R, R = b ^ n := ⟨_, rfl⟩
  have HR := Lib.hid hR
  rw [← hR]
  clear h hb hR
  go_enter Tryz.func153, Tryz.ntmps153
  go_wp2_with fail
  refine (OF1.out _).mono ?_
  rintro e w1 ⟨v1, rfl, h1, hb1⟩
  have N1 := Lib.hid h1
  have B1 := Lib.hid hb1
  clear h1 hb1
  go_wp2_with fail
  refine (OF2.out _).mono ?_
  rintro e w2 ⟨v2, rfl, h2, hb2⟩
  have N2 := Lib.hid h2
  have N3 := Lib.hid (N1.out.below hb2)
  have B2 := Lib.hid (bl_thru B1.out (Nat.le_refl _) hb2)
  clear h2 hb2
  go_wp2_with fail
  go_wp2_with fail
  go_loopw [1, 5, 6] (fun nv ov xv wr => ∃ k o x : Nat, k ≤ n ∧ nv = .int .i64 (k : Int) ∧ Hid (NV wr ov o) ∧ Hid (NV wr xv x) ∧ Hid (PwI o x k b n k0) ∧ Hid (Below w.heap.size w wr)) (fun nv _ _ _ => (intOf nv).toNat)
  case atStart => exact ⟨n, 1, b, Nat.le_refl _, rfl, N3, N2, I0, B2⟩
  case round =>
    obtain ⟨k, o, x, hk, rfl, HO, HX, HI, HB⟩ := hrel
    clear N1 N2 N3 B1 B2 I0
    by_cases hk0 : k = 0
    · subst hk0
      have e := HI.out.fin
      rw [← HR.out] at e
      rw [e] at HO
      clear e
      obtain ⟨a1, n1, c1, rfl⟩ := HO.out.shape
      go_wp2
      go_ret
      exact ⟨_, rfl, HO.out, HB.out⟩
    · have hst := HI.out.step hk0 HL.out.1
      have hxl := HI.out.2.2.2.2 hk0
      have hol := HI.out.2.2.2.1
      have LX : Hid (o < 2 ^ k0 ∧ x < 2 ^ k0) := Lib.hid ⟨hol, hxl⟩
      have hkp : (0 : Int) < (k : Int) := by omega
      clear hxl hol
      by_cases hk1 : k % 2 = 1
      · have hk2 : (k : Int) % 2 = 1 := by omega
        rw [if_pos hk1] at hst
        have ST := Lib.hid hst
        clear hst hk1 hk0 HI
        go_wp2_with fail
        refine (TM.out _ _ _ _ _ HO.out HX.out LX.out.1 LX.out.2).mono ?_
        rintro e w3 ⟨v3, rfl, h3, hb3⟩
        have N3 := Lib.hid h3
        have X3 := Lib.hid (HX.out.below hb3)
        have B3 := Lib.hid (bl_thru HB.out (Nat.le_refl _) hb3)
        clear h3 hb3
        go_wp2_with fail
        refine (TM.out _ _ _ _ _ X3.out X3.out LX.out.2 LX.out.2).mono ?_
        rintro e w4 ⟨v4, rfl, h4, hb4⟩
        have N4 := Lib.hid h4
        have O4 := Lib.hid (N3.out.below hb4)
        have B4 := Lib.hid (bl_thru B3.out (Nat.le_refl _) hb4)
        clear h4 hb4
        go_wp2
        go_roundw
        case rel => exact ⟨k / 2, o * x, x * x, by omega, by go_num, O4, N4, ST, B4⟩
        case measure => simp [intOf] <;> omega
      · have hk2 : (k : Int) % 2 = 0 := by omega
        rw [if_neg hk1] at hst
        have ST := Lib.hid hst
        clear hst hk1 hk0 HI
        go_wp2_with fail
        refine (TM.out _ _ _ _ _ HX.out HX.out LX.out.2 LX.out.2).mono ?_
        rintro e w4 ⟨v4, rfl, h4, hb4⟩
        have N4 := Lib.hid h4
        have O4 := Lib.hid (HO.out.below hb4)
        have B4 := Lib.hid (bl_thru HB.out (Nat.le_refl _) hb4)
        clear h4 hb4
        go_wp2
        go_roundw
        case rel => exact ⟨k / 2, o, x * x, by omega, by go_num, O4, N4, ST, B4⟩
        case measure => simp [intOf] <;> omega
end Go.Proofs.YthlocmhfjandlaaGreatDoor

/-
  THE WALKS of decimal.scaled, (*ratio).round.
-/
namespace Go.Proofs.YthlocmhfjandlaaGreatDoor
open Go.RowKit Nt Fm Fl

theorem ten_lt (n : Nat) : 10 ^ n < 2 ^ (4 * n + 1) := by
  have h : 10 ^ n ≤ 16 ^ n := Nat.pow_le_pow_left (by omega) n
  rw [show (16 : Nat) = 2 ^ 4 by decide, ← Nat.pow_mul] at h
  rw [Nat.pow_succ]
  have := Nat.two_pow_pos (4 * n)
  omega
theorem pow10_any (n : Nat) (X : Int) (w : World) (hX : X = (n : Int)) (hn : n ≤ 20000) :
    Calls Tryz.prog 153 #[.int .u64 10, .int .i64 X] w (RetNV w (10 ^ n)) := by
  subst hX
  have := pow_any 10 n (4 * n + 1) w (by omega) (by omega) (by omega) (ten_lt n) (by omega)
  simpa using this
/-- a quotient in a block of its own -/
def RatP (w : World) (B : Nat) (d : D) (t : Int) : Prop := ∃ s vn vd, w.heap[B]? = some (.cells #[.bool d.neg, s, .int .i64 d.e, vn, vd] 175 (0, 0)) ∧ NV w vn (dN d t) ∧ NV w vd (dD d t)
theorem dN_lt (d : D) (t : Int) {kd : Nat} (h : d.m < 2 ^ kd) : d.m * 10 ^ t.toNat < 2 ^ (kd + (4 * t.toNat + 1)) ∧ dN d t < 2 ^ (kd + (4 * t.toNat + 1) + d.e.toNat) := by
  have h1 : d.m * 10 ^ t.toNat < 2 ^ (kd + (4 * t.toNat + 1)) := by
    rw [Nat.pow_add]
    exact Nat.mul_lt_mul_of_lt_of_le h (Nat.le_of_lt (ten_lt _)) (Nat.two_pow_pos _)
  refine ⟨h1, ?_⟩
  unfold dN
  rw [Nat.pow_add 2 _ d.e.toNat]
  exact Nat.mul_lt_mul_of_pos_right h1 (Nat.two_pow_pos _)
set_option maxHeartbeats 4000000 in
theorem scaled_any (v : Value) (d : D) (t : Int) (kd : Nat) (w : World) (hd : DV w v d) (hm : d.m < 2 ^ kd) (hkd : kd ≤ 12800) (t0 : -3000 ≤ t) (t1 : t ≤ 3000) (e0 : -20000 ≤ d.e) (e1 : d.e ≤ 20000) :
    Calls Tryz.prog 118 #[v, .int .i64 t] w fun r w' => ∃ B, r = .returned (.pointer (some ⟨B, 0, none⟩)) ∧ w.heap.size ≤ B ∧ RatP w' B d t ∧ Below w.heap.size w w' := by
  obtain ⟨s, rfl, hs⟩ := hd
  obtain ⟨sa, sn, sc, rfl⟩ := hs.shape
  have HS := Lib.hid hs
  have PW := Lib.hid (fun n X w' (hX : X = ((n : Nat) : Int)) (hn : n ≤ 3000) => pow10_any n X w' hX (by omega))
  have TM := Lib.hid (fun vb w' (ha : NV w' (.slice sa sn sc) d.m) (hb : NV w' vb (10 ^ t.toNat)) => times_any _ vb d.m (10 ^ t.toNat) (kd + (4 * t.toNat + 1)) w' ha hb (Nat.lt_of_lt_of_le hm (Nat.pow_le_pow_right (by omega) (by omega))) (Nat.lt_of_lt_of_le (ten_lt _) (Nat.pow_le_pow_right (by omega) (by omega))) (by omega))
  have LF := Lib.hid (fun va X w' (ha : NV w' va (d.m * 10 ^ t.toNat)) (hX : X = ((d.e.toNat : Nat) : Int)) => left_any va _ d.e.toNat (kd + (4 * t.toNat + 1)) X w' ha hX (dN_lt d t hm).1 (by omega) (by omega))
  have LG := Lib.hid (fun va X w' (ha : NV w' va (10 ^ (-t).toNat)) (hX : X = (((-d.e).toNat : Nat) : Int)) => left_any va _ (-d.e).toNat (4 * (-t).toNat + 1) X w' ha hX (ten_lt _) (by omega) (by omega))
  clear hs hm
  go_enter Tryz.func118, Tryz.ntmps118
  go_wp2_with fail
  obtain ⟨V, hV⟩ : ∃ V, V = w.alloc (.cells #[.bool d.neg, .slice sa sn sc, .int .i64 d.e] 40) := ⟨_, rfl⟩
  have XC : Hid (Box V w.heap.size 40 (.bool d.neg) (.slice sa sn sc) (.int .i64 d.e)) := Lib.hid (by rw [hV]; exact Box.new w (.bool d.neg) (.slice sa sn sc) (.int .i64 d.e) 40)
  have B : Hid (Below w.heap.size w V) := Lib.hid (by rw [hV]; exact (Below.refl _ _).alloc (Nat.le_refl _) _)
  replace HS : Hid (NV V (.slice sa sn sc) d.m) := Lib.hid (by rw [hV]; exact HS.out.alloc _)
  rw [← hV]
  clear hV
  replace XC := Lib.hid XC.out.drew
  replace B := Lib.hid B.out.drew
  replace HS := Lib.hid HS.out.drew
  obtain ⟨p0, p1, p2, -, -, -⟩ := XC.out.cells
  refine wp_region_held_drew (S := (fun w' => w'.cell? ⟨w.heap.size, 0, none⟩ = some (.bool d.neg) ∧ w'.cell? ⟨w.heap.size, 1, none⟩ = some (.slice sa sn sc) ∧ w'.cell? ⟨w.heap.size, 2, none⟩ = some (.int .i64 d.e))) (by kernel_rfl) ⟨p0, p1, p2⟩ (fun hHeld => ?_)
  clear p0 p1 p2
  refine wpAnyH_take (i := 0) (oi := _) (v := ?_) rfl (by kernel_rfl) (by kernel_rfl) (by kernel_rfl) (fun _ _ _ h => h) (Or.inl ⟨by rfl, ?_⟩) (by assumption) ?_
  rotate_left
  · intro w hSw
    try dsimp only at hSw
    go_simp
    all_goals with_reducible rfl
  try simp only [Act.put, List.setIfInBounds_toArray, List.set_cons_zero, List.set_cons_succ]
  refine wpAnyH_take (i := 1) (oi := _) (v := ?_) rfl (by kernel_rfl) (by kernel_rfl) (by kernel_rfl) (fun _ _ _ h => h) (Or.inl ⟨by rfl, ?_⟩) (by assumption) ?_
  rotate_left
  · intro w hSw
    try dsimp only at hSw
    go_simp
    all_goals with_reducible rfl
  try simp only [Act.put, List.setIfInBounds_toArray, List.set_cons_zero, List.set_cons_succ]
  refine wpAnyH_take (i := 2) (oi := _) (v := ?_) rfl (by kernel_rfl) (by kernel_rfl) (by kernel_rfl) (fun _ _ _ h => h) (Or.inl ⟨by rfl, ?_⟩) (by assumption) ?_
  rotate_left
  · intro w hSw
    try dsimp only at hSw
    go_simp
    all_goals with_reducible rfl
  try simp only [Act.put, List.setIfInBounds_toArray, List.set_cons_zero, List.set_cons_succ]
  refine wpAnyH_take (i := 3) (oi := _) (v := ?_) rfl (by kernel_rfl) (by kernel_rfl) (by kernel_rfl) (fun _ _ _ h => h) (Or.inl ⟨by rfl, ?_⟩) (by assumption) ?_
  rotate_left
  · intro w hSw
    try dsimp only at hSw
    go_simp
    all_goals with_reducible rfl
  try simp only [Act.put, List.setIfInBounds_toArray, List.set_cons_zero, List.set_cons_succ]
  refine wpAnyH_take (i := 4) (oi := _) (v := ?_) rfl (by kernel_rfl) (by kernel_rfl) (by kernel_rfl) (fun _ _ _ h => h) (Or.inl ⟨by rfl, ?_⟩) (by assumption) ?_
  rotate_left
  · intro w hSw
    try dsimp only at hSw
    go_simp
    all_goals with_reducible rfl
  try simp only [Act.put, List.setIfInBounds_toArray, List.set_cons_zero, List.set_cons_succ]
  refine wpAnyH_take (i := 7) (oi := _) (v := ?_) rfl (by kernel_rfl) (by kernel_rfl) (by kernel_rfl) (fun _ _ _ h => h) (Or.inl ⟨by rfl, ?_⟩) (by assumption) ?_
  rotate_left
  · intro w hSw
    try dsimp only at hSw
    go_simp
    all_goals with_reducible rfl
  try simp only [Act.put, List.setIfInBounds_toArray, List.set_cons_zero, List.set_cons_succ]
  refine wpAnyH_take (i := 8) (oi := _) (v := ?_) rfl (by kernel_rfl) (by kernel_rfl) (by kernel_rfl) (fun _ _ _ h => h) (Or.inl ⟨by rfl, ?_⟩) (by assumption) ?_
  rotate_left
  · intro w hSw
    try dsimp only at hSw
    go_simp
    all_goals with_reducible rfl
  try simp only [Act.put, List.setIfInBounds_toArray, List.set_cons_zero, List.set_cons_succ]
  refine wpAnyH_take (i := 9) (oi := _) (v := ?_) rfl (by kernel_rfl) (by kernel_rfl) (by kernel_rfl) (fun _ _ _ h => h) (Or.inl ⟨by rfl, ?_⟩) (by assumption) ?_
  rotate_left
  · intro w hSw
    try dsimp only at hSw
    go_simp
    all_goals with_reducible rfl
  try simp only [Act.put, List.setIfInBounds_toArray, List.set_cons_zero, List.set_cons_succ]
  refine wpAnyH_take (i := 11) (oi := _) (v := ?_) rfl (by kernel_rfl) (by kernel_rfl) (by kernel_rfl) (fun _ _ _ h => h) (Or.inl ⟨by rfl, ?_⟩) (by assumption) ?_
  rotate_left
  · intro w hSw
    try dsimp only at hSw
    go_simp
    all_goals with_reducible rfl
  try simp only [Act.put, List.setIfInBounds_toArray, List.set_cons_zero, List.set_cons_succ]
  refine wpAnyH_take (i := 12) (oi := _) (v := ?_) rfl (by kernel_rfl) (by kernel_rfl) (by kernel_rfl) (fun _ _ _ h => h) (Or.inl ⟨by rfl, ?_⟩) (by assumption) ?_
  rotate_left
  · intro w hSw
    try dsimp only at hSw
    go_simp
    all_goals with_reducible rfl
  try simp only [Act.put, List.setIfInBounds_toArray, List.set_cons_zero, List.set_cons_succ]
  refine wpAnyH_take (i := 13) (oi := _) (v := ?_) rfl (by kernel_rfl) (by kernel_rfl) (by kernel_rfl) (fun _ _ _ h => h) (Or.inl ⟨by rfl, ?_⟩) (by assumption) ?_
  rotate_left
  · intro w hSw
    try dsimp only at hSw
    go_simp
    all_goals with_reducible rfl
  try simp only [Act.put, List.setIfInBounds_toArray, List.set_cons_zero, List.set_cons_succ]
  refine wpAnyH_take (i := 15) (oi := _) (v := ?_) rfl (by kernel_rfl) (by kernel_rfl) (by kernel_rfl) (fun _ _ _ h => h) (Or.inl ⟨by rfl, ?_⟩) (by assumption) ?_
  rotate_left
  · intro w hSw
    try dsimp only at hSw
    go_simp
    all_goals with_reducible rfl
  try simp only [Act.put, List.setIfInBounds_toArray, List.set_cons_zero, List.set_cons_succ]
  refine wpAnyH_take (i := 16) (oi := _) (v := ?_) rfl (by kernel_rfl) (by kernel_rfl) (by kernel_rfl) (fun _ _ _ h => h) (Or.inl ⟨by rfl, ?_⟩) (by assumption) ?_
  rotate_left
  · intro w hSw
    try dsimp only at hSw
    go_simp
    all_goals with_reducible rfl
  try simp only [Act.put, List.setIfInBounds_toArray, List.set_cons_zero, List.set_cons_succ]
  refine wpAnyH_take (i := 17) (oi := _) (v := ?_) rfl (by kernel_rfl) (by kernel_rfl) (by kernel_rfl) (fun _ _ _ h => h) (Or.inl ⟨by rfl, ?_⟩) (by assumption) ?_
  rotate_left
  · intro w hSw
    try dsimp only at hSw
    go_simp
    all_goals with_reducible rfl
  try simp only [Act.put, List.setIfInBounds_toArray, List.set_cons_zero, List.set_cons_succ]
  refine wpAnyH_take (i := 18) (oi := _) (v := ?_) rfl (by kernel_rfl) (by kernel_rfl) (by kernel_rfl) (fun _ _ _ h => h) (Or.inl ⟨by rfl, ?_⟩) (by assumption) ?_
  rotate_left
  · intro w hSw
    try dsimp only at hSw
    go_simp
    all_goals with_reducible rfl
  try simp only [Act.put, List.setIfInBounds_toArray, List.set_cons_zero, List.set_cons_succ]
  refine wpAnyH_ready (rs := [5]) (by kernel_rfl) (by simp) ?_
  refine AllReadyH.cons (o := _) rfl (fun K hK => ?_) AllReadyH.nil
  go_simp
  refine (PW.out t.toNat _ _ (by omega) (by omega)).mono ?_
  rintro r w1 ⟨v1, rfl, hv, hb⟩
  replace XC := Lib.hid (XC.out.below hb); replace HS := Lib.hid (HS.out.below hb); replace B := Lib.hid (bl_thru B.out (Nat.le_refl _) hb)
  have NA := Lib.hid hv
  clear hv hb
  refine hK.out _ _ (by (obtain ⟨p0, p1, p2, -, -, -⟩ := XC.out.cells; exact ⟨p0, p1, p2⟩)) (fun hHeld => ?_)
  clear hK K
  try simp only [Act.put, List.setIfInBounds_toArray, List.set_cons_zero, List.set_cons_succ]
  refine wpAnyH_ready (rs := [6]) (by kernel_rfl) (by simp) ?_
  refine AllReadyH.cons (o := _) rfl (fun K hK => ?_) AllReadyH.nil
  go_simp
  refine (TM.out _ _ HS.out NA.out).mono ?_
  rintro r w1 ⟨v1, rfl, hv, hb⟩
  replace XC := Lib.hid (XC.out.below hb); replace HS := Lib.hid (HS.out.below hb); replace B := Lib.hid (bl_thru B.out (Nat.le_refl _) hb); replace NA := Lib.hid (NA.out.below hb)
  have NT := Lib.hid hv
  clear hv hb
  refine hK.out _ _ (by (obtain ⟨p0, p1, p2, -, -, -⟩ := XC.out.cells; exact ⟨p0, p1, p2⟩)) (fun hHeld => ?_)
  clear hK K
  try simp only [Act.put, List.setIfInBounds_toArray, List.set_cons_zero, List.set_cons_succ]
  refine wpAnyH_ready (rs := [10]) (by kernel_rfl) (by simp) ?_
  refine AllReadyH.cons (o := _) rfl (fun K hK => ?_) AllReadyH.nil
  go_simp
  refine (LF.out _ _ _ NT.out (by omega)).mono ?_
  rintro r w1 ⟨v1, rfl, hv, hb⟩
  obtain ⟨al, nl, cl, rfl⟩ := hv.shape
  replace XC := Lib.hid (XC.out.below hb); replace HS := Lib.hid (HS.out.below hb); replace B := Lib.hid (bl_thru B.out (Nat.le_refl _) hb); replace NA := Lib.hid (NA.out.below hb); replace NT := Lib.hid (NT.out.below hb)
  have NL := Lib.hid hv
  clear hv hb
  refine hK.out _ _ (by (obtain ⟨p0, p1, p2, -, -, -⟩ := XC.out.cells; exact ⟨p0, p1, p2⟩)) (fun hHeld => ?_)
  clear hK K
  try simp only [Act.put, List.setIfInBounds_toArray, List.set_cons_zero, List.set_cons_succ]
  refine wpAnyH_ready (rs := [14]) (by kernel_rfl) (by simp) ?_
  refine AllReadyH.cons (o := _) rfl (fun K hK => ?_) AllReadyH.nil
  go_simp
  refine (PW.out (-t).toNat _ _ (by first | omega | (rw [IntWalk.i64_in _ (by omega)]; omega)) (by omega)).mono ?_
  rintro r w1 ⟨v1, rfl, hv, hb⟩
  replace XC := Lib.hid (XC.out.below hb); replace HS := Lib.hid (HS.out.below hb); replace B := Lib.hid (bl_thru B.out (Nat.le_refl _) hb); replace NA := Lib.hid (NA.out.below hb); replace NT := Lib.hid (NT.out.below hb); replace NL := Lib.hid (NL.out.below hb)
  have NB := Lib.hid hv
  clear hv hb
  refine hK.out _ _ (by (obtain ⟨p0, p1, p2, -, -, -⟩ := XC.out.cells; exact ⟨p0, p1, p2⟩)) (fun hHeld => ?_)
  clear hK K
  try simp only [Act.put, List.setIfInBounds_toArray, List.set_cons_zero, List.set_cons_succ]
  refine wpAnyH_ready (rs := [19]) (by kernel_rfl) (by simp) ?_
  refine AllReadyH.cons (o := _) rfl (fun K hK => ?_) AllReadyH.nil
  go_simp
  refine (LG.out _ _ _ NB.out (by first | omega | (rw [IntWalk.i64_in _ (by omega)]; omega))).mono ?_
  rintro r w1 ⟨v1, rfl, hv, hb⟩
  obtain ⟨ar, nr, cr, rfl⟩ := hv.shape
  replace XC := Lib.hid (XC.out.below hb); replace HS := Lib.hid (HS.out.below hb); replace B := Lib.hid (bl_thru B.out (Nat.le_refl _) hb); replace NA := Lib.hid (NA.out.below hb); replace NT := Lib.hid (NT.out.below hb); replace NL := Lib.hid (NL.out.below hb); replace NB := Lib.hid (NB.out.below hb)
  have NR := Lib.hid hv
  clear hv hb
  refine hK.out _ _ (by (obtain ⟨p0, p1, p2, -, -, -⟩ := XC.out.cells; exact ⟨p0, p1, p2⟩)) (fun hHeld => ?_)
  clear hK K
  try simp only [Act.put, List.setIfInBounds_toArray, List.set_cons_zero, List.set_cons_succ]
  refine wpAnyH_take (i := 20) (oi := _) (v := ?_) rfl (by kernel_rfl) (by kernel_rfl) (by kernel_rfl) (fun _ _ _ h => h) (Or.inl ⟨by rfl, ?_⟩) (by assumption) ?_
  rotate_left
  · intro w hSw
    try dsimp only at hSw
    go_simp
    all_goals with_reducible rfl
  try simp only [Act.put, List.setIfInBounds_toArray, List.set_cons_zero, List.set_cons_succ]
  clear NA NT NB
  refine wpAnyH_ready (rs := [21]) (by kernel_rfl) (by simp) ?_
  refine AllReadyH.cons (o := _) rfl (fun K hK => ?_) AllReadyH.nil
  go_simp
  refine hK.out _ _ (by (obtain ⟨p0, p1, p2, -, -, -⟩ := (XC.out.alloc (.cells #[.bool d.neg, .slice sa sn sc, .int .i64 d.e, .slice al nl cl, .slice ar nr cr] 175)).cells; exact ⟨p0, p1, p2⟩)) (fun hHeld => ?_)
  clear hK K
  try simp only [Act.put, List.setIfInBounds_toArray, List.set_cons_zero, List.set_cons_succ]
  refine wpAnyH_ready (rs := [22]) (by kernel_rfl) (by simp) ?_
  refine AllReadyH.cons (o := _) rfl (fun K hK => ?_) AllReadyH.nil
  go_simp
  refine hK.out _ _ (by assumption) (fun hHeld => ?_)
  clear hK K
  try simp only [Act.put, List.setIfInBounds_toArray, List.set_cons_zero, List.set_cons_succ]
  refine wpAnyH_done (by kernel_rfl) ?_ _
  go_wp2
  go_ret
  exact ⟨w1.heap.size, rfl, B.out.size, ⟨_, _, _, heap_alloc_new w1 _, NL.out.alloc _, NR.out.alloc _⟩, B.out.alloc B.out.size _⟩
end Go.Proofs.YthlocmhfjandlaaGreatDoor
