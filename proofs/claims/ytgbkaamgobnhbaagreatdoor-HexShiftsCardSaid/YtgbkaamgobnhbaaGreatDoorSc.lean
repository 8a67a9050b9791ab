/-
  THE WALKS of decimal.scaled, (*ratio).round.
-/
import Derived.Test.YtgbkaamgobnhbaaGreatDoorPw
import Derived.Test.YtgbkaamgobnhbaaGreatDoorDn
import Derived.Test.YtgbkaamgobnhbaaGreatDoorDa
import Derived.Test.YtgbkaamgobnhbaaGreatDoorOv
import Derived.Test.YtgbkaamgobnhbaaGreatDoorNa
import Derived.Test.YtgbkaamgobnhbaaGreatDoorBd
set_option linter.unusedVariables false
set_option linter.unusedSimpArgs false
namespace Go.Proofs.YtgbkaamgobnhbaaGreatDoor
open Go.RowKit Nt Fm Fl

theorem ten_lt (n : Nat) : 10 ^ n < 2 ^ (4 * n + 1) := by
  have h : 10 ^ n ≤ 16 ^ n := Nat.pow_le_pow_left (by omega) n
  rw [show (16 : Nat) = 2 ^ 4 by decide, ← Nat.pow_mul] at h
  rw [Nat.pow_succ]
  have := Nat.two_pow_pos (4 * n)
  omega
theorem pow10_any (n : Nat) (X : Int) (w : World) (hX : X = (n : Int)) (hn : n ≤ 20000) :
    Calls Tryz.prog 98 #[.int .u64 10, .int .i64 X] w (RetNV w (10 ^ n)) := by
  subst hX
  have := pow_any 10 n (4 * n + 1) w (by omega) (by omega) (by omega) (ten_lt n) (by omega)
  simpa using this
/-- a quotient in a block of its own -/
def RatP (w : World) (B : Nat) (d : D) (t : Int) : Prop := ∃ s vn vd, w.heap[B]? = some (.cells #[.bool d.neg, s, .int .i64 d.e, vn, vd] 120 (0, 0)) ∧ NV w vn (dN d t) ∧ NV w vd (dD d t)
theorem dN_lt (d : D) (t : Int) {kd : Nat} (h : d.m < 2 ^ kd) : d.m * 10 ^ t.toNat < 2 ^ (kd + (4 * t.toNat + 1)) ∧ dN d t < 2 ^ (kd + (4 * t.toNat + 1) + d.e.toNat) := by
  have h1 : d.m * 10 ^ t.toNat < 2 ^ (kd + (4 * t.toNat + 1)) := by
    rw [Nat.pow_add]
    exact Nat.mul_lt_mul_of_lt_of_le h (Nat.le_of_lt (ten_lt _)) (Nat.two_pow_pos _)
  refine ⟨h1, ?_⟩
  unfold dN
  rw [Nat.pow_add 2 _ d.e.toNat]
  exact Nat.mul_lt_mul_of_pos_right h1 (Nat.two_pow_pos _)
set_option maxHeartbeats 4000000 in
theorem scaled_any (v : Value) (d : D) (t : Int) (kd : Nat) (w : World) (hd : DV w v d) (hm : d.m < 2 ^ kd) (hkd : kd ≤ 12800) (t0 : -3000 ≤ t) (t1 : t ≤ 3000) (e0 : -20000 ≤ d.e) (e1 : d.e ≤ 20000) :
    Calls Tryz.prog 73 #[v, .int .i64 t] w fun r w' => ∃ B, r = .returned (.pointer (some ⟨B, 0, none⟩)) ∧ w.heap.size ≤ B ∧ RatP w' B d t ∧ Below w.heap.size w w' := by
  obtain ⟨s, rfl, hs⟩ := hd
  obtain ⟨sa, sn, sc, rfl⟩ := hs.shape
  have HS := Lib.hid hs
  have PW := Lib.hid (fun n X w' (hX : X = ((n : Nat) : Int)) (hn : n ≤ 3000) => pow10_any n X w' hX (by omega))
  have TM := Lib.hid (fun vb w' (ha : NV w' (.slice sa sn sc) d.m) (hb : NV w' vb (10 ^ t.toNat)) => times_any _ vb d.m (10 ^ t.toNat) (kd + (4 * t.toNat + 1)) w' ha hb (Nat.lt_of_lt_of_le hm (Nat.pow_le_pow_right (by omega) (by omega))) (Nat.lt_of_lt_of_le (ten_lt _) (Nat.pow_le_pow_right (by omega) (by omega))) (by omega))
  have LF := Lib.hid (fun va X w' (ha : NV w' va (d.m * 10 ^ t.toNat)) (hX : X = ((d.e.toNat : Nat) : Int)) => left_any va _ d.e.toNat (kd + (4 * t.toNat + 1)) X w' ha hX (dN_lt d t hm).1 (by omega) (by omega))
  have LG := Lib.hid (fun va X w' (ha : NV w' va (10 ^ (-t).toNat)) (hX : X = (((-d.e).toNat : Nat) : Int)) => left_any va _ (-d.e).toNat (4 * (-t).toNat + 1) X w' ha hX (ten_lt _) (by omega) (by omega))
  clear hs hm
  go_enter Tryz.func73, Tryz.ntmps73
  go_wp2_with fail
  obtain ⟨V, hV⟩ : ∃ V, V = w.alloc (.cells #[.bool d.neg, .slice sa sn sc, .int .i64 d.e] 52) := ⟨_, rfl⟩
  have XC : Hid (Box V w.heap.size 52 (.bool d.neg) (.slice sa sn sc) (.int .i64 d.e)) := Lib.hid (by rw [hV]; exact Box.new w (.bool d.neg) (.slice sa sn sc) (.int .i64 d.e) 52)
  have B : Hid (Below w.heap.size w V) := Lib.hid (by rw [hV]; exact (Below.refl _ _).alloc (Nat.le_refl _) _)
  replace HS : Hid (NV V (.slice sa sn sc) d.m) := Lib.hid (by rw [hV]; exact HS.out.alloc _)
  rw [← hV]
  clear hV
  replace XC := Lib.hid XC.out.drew
  replace B := Lib.hid B.out.drew
  replace HS := Lib.hid HS.out.drew
  obtain ⟨p0, p1, p2, -, -, -⟩ := XC.out.cells
  refine wp_region_held_drew (S := (fun w' => w'.cell? ⟨w.heap.size, 0, none⟩ = some (.bool d.neg) ∧ w'.cell? ⟨w.heap.size, 1, none⟩ = some (.slice sa sn sc) ∧ w'.cell? ⟨w.heap.size, 2, none⟩ = some (.int .i64 d.e))) (by kernel_rfl) ⟨p0, p1, p2⟩ (fun hHeld => ?_)
  clear p0 p1 p2
  refine wpAnyH_take (i := 0) (oi := _) (v := ?_) rfl (by kernel_rfl) (by kernel_rfl) (by kernel_rfl) (fun _ _ _ h => h) (Or.inl ⟨by rfl, ?_⟩) (by assumption) ?_
  rotate_left
  · intro w hSw
    try dsimp only at hSw
    go_simp
    all_goals with_reducible rfl
  try simp only [Act.put, List.setIfInBounds_toArray, List.set_cons_zero, List.set_cons_succ]
  refine wpAnyH_take (i := 1) (oi := _) (v := ?_) rfl (by kernel_rfl) (by kernel_rfl) (by kernel_rfl) (fun _ _ _ h => h) (Or.inl ⟨by rfl, ?_⟩) (by assumption) ?_
  rotate_left
  · intro w hSw
    try dsimp only at hSw
    go_simp
    all_goals with_reducible rfl
  try simp only [Act.put, List.setIfInBounds_toArray, List.set_cons_zero, List.set_cons_succ]
  refine wpAnyH_take (i := 2) (oi := _) (v := ?_) rfl (by kernel_rfl) (by kernel_rfl) (by kernel_rfl) (fun _ _ _ h => h) (Or.inl ⟨by rfl, ?_⟩) (by assumption) ?_
  rotate_left
  · intro w hSw
    try dsimp only at hSw
    go_simp
    all_goals with_reducible rfl
  try simp only [Act.put, List.setIfInBounds_toArray, List.set_cons_zero, List.set_cons_succ]
  refine wpAnyH_take (i := 3) (oi := _) (v := ?_) rfl (by kernel_rfl) (by kernel_rfl) (by kernel_rfl) (fun _ _ _ h => h) (Or.inl ⟨by rfl, ?_⟩) (by assumption) ?_
  rotate_left
  · intro w hSw
    try dsimp only at hSw
    go_simp
    all_goals with_reducible rfl
  try simp only [Act.put, List.setIfInBounds_toArray, List.set_cons_zero, List.set_cons_succ]
  refine wpAnyH_take (i := 4) (oi := _) (v := ?_) rfl (by kernel_rfl) (by kernel_rfl) (by kernel_rfl) (fun _ _ _ h => h) (Or.inl ⟨by rfl, ?_⟩) (by assumption) ?_
  rotate_left
  · intro w hSw
    try dsimp only at hSw
    go_simp
    all_goals with_reducible rfl
  try simp only [Act.put, List.setIfInBounds_toArray, List.set_cons_zero, List.set_cons_succ]
  refine wpAnyH_take (i := 7) (oi := _) (v := ?_) rfl (by kernel_rfl) (by kernel_rfl) (by kernel_rfl) (fun _ _ _ h => h) (Or.inl ⟨by rfl, ?_⟩) (by assumption) ?_
  rotate_left
  · intro w hSw
    try dsimp only at hSw
    go_simp
    all_goals with_reducible rfl
  try simp only [Act.put, List.setIfInBounds_toArray, List.set_cons_zero, List.set_cons_succ]
  refine wpAnyH_take (i := 8) (oi := _) (v := ?_) rfl (by kernel_rfl) (by kernel_rfl) (by kernel_rfl) (fun _ _ _ h => h) (Or.inl ⟨by rfl, ?_⟩) (by assumption) ?_
  rotate_left
  · intro w hSw
    try dsimp only at hSw
    go_simp
    all_goals with_reducible rfl
  try simp only [Act.put, List.setIfInBounds_toArray, List.set_cons_zero, List.set_cons_succ]
  refine wpAnyH_take (i := 9) (oi := _) (v := ?_) rfl (by kernel_rfl) (by kernel_rfl) (by kernel_rfl) (fun _ _ _ h => h) (Or.inl ⟨by rfl, ?_⟩) (by assumption) ?_
  rotate_left
  · intro w hSw
    try dsimp only at hSw
    go_simp
    all_goals with_reducible rfl
  try simp only [Act.put, List.setIfInBounds_toArray, List.set_cons_zero, List.set_cons_succ]
  refine wpAnyH_take (i := 11) (oi := _) (v := ?_) rfl (by kernel_rfl) (by kernel_rfl) (by kernel_rfl) (fun _ _ _ h => h) (Or.inl ⟨by rfl, ?_⟩) (by assumption) ?_
  rotate_left
  · intro w hSw
    try dsimp only at hSw
    go_simp
    all_goals with_reducible rfl
  try simp only [Act.put, List.setIfInBounds_toArray, List.set_cons_zero, List.set_cons_succ]
  refine wpAnyH_take (i := 12) (oi := _) (v := ?_) rfl (by kernel_rfl) (by kernel_rfl) (by kernel_rfl) (fun _ _ _ h => h) (Or.inl ⟨by rfl, ?_⟩) (by assumption) ?_
  rotate_left
  · intro w hSw
    try dsimp only at hSw
    go_simp
    all_goals with_reducible rfl
  try simp only [Act.put, List.setIfInBounds_toArray, List.set_cons_zero, List.set_cons_succ]
  refine wpAnyH_take (i := 13) (oi := _) (v := ?_) rfl (by kernel_rfl) (by kernel_rfl) (by kernel_rfl) (fun _ _ _ h => h) (Or.inl ⟨by rfl, ?_⟩) (by assumption) ?_
  rotate_left
  · intro w hSw
    try dsimp only at hSw
    go_simp
    all_goals with_reducible rfl
  try simp only [Act.put, List.setIfInBounds_toArray, List.set_cons_zero, List.set_cons_succ]
  refine wpAnyH_take (i := 15) (oi := _) (v := ?_) rfl (by kernel_rfl) (by kernel_rfl) (by kernel_rfl) (fun _ _ _ h => h) (Or.inl ⟨by rfl, ?_⟩) (by assumption) ?_
  rotate_left
  · intro w hSw
    try dsimp only at hSw
    go_simp
    all_goals with_reducible rfl
  try simp only [Act.put, List.setIfInBounds_toArray, List.set_cons_zero, List.set_cons_succ]
  refine wpAnyH_take (i := 16) (oi := _) (v := ?_) rfl (by kernel_rfl) (by kernel_rfl) (by kernel_rfl) (fun _ _ _ h => h) (Or.inl ⟨by rfl, ?_⟩) (by assumption) ?_
  rotate_left
  · intro w hSw
    try dsimp only at hSw
    go_simp
    all_goals with_reducible rfl
  try simp only [Act.put, List.setIfInBounds_toArray, List.set_cons_zero, List.set_cons_succ]
  refine wpAnyH_take (i := 17) (oi := _) (v := ?_) rfl (by kernel_rfl) (by kernel_rfl) (by kernel_rfl) (fun _ _ _ h => h) (Or.inl ⟨by rfl, ?_⟩) (by assumption) ?_
  rotate_left
  · intro w hSw
    try dsimp only at hSw
    go_simp
    all_goals with_reducible rfl
  try simp only [Act.put, List.setIfInBounds_toArray, List.set_cons_zero, List.set_cons_succ]
  refine wpAnyH_take (i := 18) (oi := _) (v := ?_) rfl (by kernel_rfl) (by kernel_rfl) (by kernel_rfl) (fun _ _ _ h => h) (Or.inl ⟨by rfl, ?_⟩) (by assumption) ?_
  rotate_left
  · intro w hSw
    try dsimp only at hSw
    go_simp
    all_goals with_reducible rfl
  try simp only [Act.put, List.setIfInBounds_toArray, List.set_cons_zero, List.set_cons_succ]
  refine wpAnyH_ready (rs := [5]) (by kernel_rfl) (by simp) ?_
  refine AllReadyH.cons (o := _) rfl (fun K hK => ?_) AllReadyH.nil
  go_simp
  refine (PW.out t.toNat _ _ (by omega) (by omega)).mono ?_
  rintro r w1 ⟨v1, rfl, hv, hb⟩
  replace XC := Lib.hid (XC.out.below hb); replace HS := Lib.hid (HS.out.below hb); replace B := Lib.hid (bl_thru B.out (Nat.le_refl _) hb)
  have NA := Lib.hid hv
  clear hv hb
  refine hK.out _ _ (by (obtain ⟨p0, p1, p2, -, -, -⟩ := XC.out.cells; exact ⟨p0, p1, p2⟩)) (fun hHeld => ?_)
  clear hK K
  try simp only [Act.put, List.setIfInBounds_toArray, List.set_cons_zero, List.set_cons_succ]
  refine wpAnyH_ready (rs := [6]) (by kernel_rfl) (by simp) ?_
  refine AllReadyH.cons (o := _) rfl (fun K hK => ?_) AllReadyH.nil
  go_simp
  refine (TM.out _ _ HS.out NA.out).mono ?_
  rintro r w1 ⟨v1, rfl, hv, hb⟩
  replace XC := Lib.hid (XC.out.below hb); replace HS := Lib.hid (HS.out.below hb); replace B := Lib.hid (bl_thru B.out (Nat.le_refl _) hb); replace NA := Lib.hid (NA.out.below hb)
  have NT := Lib.hid hv
  clear hv hb
  refine hK.out _ _ (by (obtain ⟨p0, p1, p2, -, -, -⟩ := XC.out.cells; exact ⟨p0, p1, p2⟩)) (fun hHeld => ?_)
  clear hK K
  try simp only [Act.put, List.setIfInBounds_toArray, List.set_cons_zero, List.set_cons_succ]
  refine wpAnyH_ready (rs := [10]) (by kernel_rfl) (by simp) ?_
  refine AllReadyH.cons (o := _) rfl (fun K hK => ?_) AllReadyH.nil
  go_simp
  refine (LF.out _ _ _ NT.out (by omega)).mono ?_
  rintro r w1 ⟨v1, rfl, hv, hb⟩
  obtain ⟨al, nl, cl, rfl⟩ := hv.shape
  replace XC := Lib.hid (XC.out.below hb); replace HS := Lib.hid (HS.out.below hb); replace B := Lib.hid (bl_thru B.out (Nat.le_refl _) hb); replace NA := Lib.hid (NA.out.below hb); replace NT := Lib.hid (NT.out.below hb)
  have NL := Lib.hid hv
  clear hv hb
  refine hK.out _ _ (by (obtain ⟨p0, p1, p2, -, -, -⟩ := XC.out.cells; exact ⟨p0, p1, p2⟩)) (fun hHeld => ?_)
  clear hK K
  try simp only [Act.put, List.setIfInBounds_toArray, List.set_cons_zero, List.set_cons_succ]
  refine wpAnyH_ready (rs := [14]) (by kernel_rfl) (by simp) ?_
  refine AllReadyH.cons (o := _) rfl (fun K hK => ?_) AllReadyH.nil
  go_simp
  refine (PW.out (-t).toNat _ _ (by first | omega | (rw [IntWalk.i64_in _ (by omega)]; omega)) (by omega)).mono ?_
  rintro r w1 ⟨v1, rfl, hv, hb⟩
  replace XC := Lib.hid (XC.out.below hb); replace HS := Lib.hid (HS.out.below hb); replace B := Lib.hid (bl_thru B.out (Nat.le_refl _) hb); replace NA := Lib.hid (NA.out.below hb); replace NT := Lib.hid (NT.out.below hb); replace NL := Lib.hid (NL.out.below hb)
  have NB := Lib.hid hv
  clear hv hb
  refine hK.out _ _ (by (obtain ⟨p0, p1, p2, -, -, -⟩ := XC.out.cells; exact ⟨p0, p1, p2⟩)) (fun hHeld => ?_)
  clear hK K
  try simp only [Act.put, List.setIfInBounds_toArray, List.set_cons_zero, List.set_cons_succ]
  refine wpAnyH_ready (rs := [19]) (by kernel_rfl) (by simp) ?_
  refine AllReadyH.cons (o := _) rfl (fun K hK => ?_) AllReadyH.nil
  go_simp
  refine (LG.out _ _ _ NB.out (by first | omega | (rw [IntWalk.i64_in _ (by omega)]; omega))).mono ?_
  rintro r w1 ⟨v1, rfl, hv, hb⟩
  obtain ⟨ar, nr, cr, rfl⟩ := hv.shape
  replace XC := Lib.hid (XC.out.below hb); replace HS := Lib.hid (HS.out.below hb); replace B := Lib.hid (bl_thru B.out (Nat.le_refl _) hb); replace NA := Lib.hid (NA.out.below hb); replace NT := Lib.hid (NT.out.below hb); replace NL := Lib.hid (NL.out.below hb); replace NB := Lib.hid (NB.out.below hb)
  have NR := Lib.hid hv
  clear hv hb
  refine hK.out _ _ (by (obtain ⟨p0, p1, p2, -, -, -⟩ := XC.out.cells; exact ⟨p0, p1, p2⟩)) (fun hHeld => ?_)
  clear hK K
  try simp only [Act.put, List.setIfInBounds_toArray, List.set_cons_zero, List.set_cons_succ]
  refine wpAnyH_take (i := 20) (oi := _) (v := ?_) rfl (by kernel_rfl) (by kernel_rfl) (by kernel_rfl) (fun _ _ _ h => h) (Or.inl ⟨by rfl, ?_⟩) (by assumption) ?_
  rotate_left
  · intro w hSw
    try dsimp only at hSw
    go_simp
    all_goals with_reducible rfl
  try simp only [Act.put, List.setIfInBounds_toArray, List.set_cons_zero, List.set_cons_succ]
  clear NA NT NB
  refine wpAnyH_ready (rs := [21]) (by kernel_rfl) (by simp) ?_
  refine AllReadyH.cons (o := _) rfl (fun K hK => ?_) AllReadyH.nil
  go_simp
  refine hK.out _ _ (by (obtain ⟨p0, p1, p2, -, -, -⟩ := (XC.out.alloc (.cells #[.bool d.neg, .slice sa sn sc, .int .i64 d.e, .slice al nl cl, .slice ar nr cr] 120)).cells; exact ⟨p0, p1, p2⟩)) (fun hHeld => ?_)
  clear hK K
  try simp only [Act.put, List.setIfInBounds_toArray, List.set_cons_zero, List.set_cons_succ]
  refine wpAnyH_ready (rs := [22]) (by kernel_rfl) (by simp) ?_
  refine AllReadyH.cons (o := _) rfl (fun K hK => ?_) AllReadyH.nil
  go_simp
  refine hK.out _ _ (by assumption) (fun hHeld => ?_)
  clear hK K
  try simp only [Act.put, List.setIfInBounds_toArray, List.set_cons_zero, List.set_cons_succ]
  refine wpAnyH_done (by kernel_rfl) ?_ _
  go_wp2
  go_ret
  exact ⟨w1.heap.size, rfl, B.out.size, ⟨_, _, _, heap_alloc_new w1 _, NL.out.alloc _, NR.out.alloc _⟩, B.out.alloc B.out.size _⟩
end Go.Proofs.YtgbkaamgobnhbaaGreatDoor
