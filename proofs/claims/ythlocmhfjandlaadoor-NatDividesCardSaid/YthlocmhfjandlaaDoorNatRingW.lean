/-
  THE WALK of the law NatRing.
-/
import Derived.Test.YthlocmhfjandlaaDoorNlv
set_option linter.unusedVariables false
set_option linter.unusedSimpArgs false
namespace Go.Proofs.YthlocmhfjandlaaDoor
open Go.RowKit Nt Fm

theorem below_drewN {w w' : World} {n : Nat} (h : w' = w.drewN n) : Below w.heap.size w w' := by subst h; exact below_to_drewN (Below.refl _ _)
theorem eqT (va vb : Value) (a b : Nat) (w : World) (h : a = b) (ha : NV w va a) (hb : NV w vb b) :
    Calls Tryd.prog 15 #[va, vb] w fun e w' => e = .returned (.bool true) ∧ Below w.heap.size w w' := by
  have := equal_any va vb a b w ha hb
  rw [decide_eq_true h] at this
  exact this.mono fun e w' ⟨h1, n, h2⟩ => ⟨h1, below_drewN h2⟩
theorem okB2 (x0 x1 : Int) (w : World) (b : Nat) (hb : b = w.heap.size) :
    Calls Tryd.prog 16 #[.slice (some ⟨b, 0, none⟩) 2 2] (w.alloc (.cells #[.int .i64 x0, .int .i64 x1] 23)) fun e w' => e = .returned (.bool (ok2 x0 x1)) ∧ Below w.heap.size w w' :=
  (ok_new2 x0 x1 w b hb).mono fun e w' ⟨h1, h2⟩ => ⟨h1, by subst h2; exact (Below.refl _ w).alloc (Nat.le_refl _) _⟩
theorem okB3 (x0 x1 x2 : Int) (w : World) (b : Nat) (hb : b = w.heap.size) :
    Calls Tryd.prog 16 #[.slice (some ⟨b, 0, none⟩) 3 3] (w.alloc (.cells #[.int .i64 x0, .int .i64 x1, .int .i64 x2] 23)) fun e w' => e = .returned (.bool (ok3 x0 x1 x2)) ∧ Below w.heap.size w w' :=
  (ok_new3 x0 x1 x2 w b hb).mono fun e w' ⟨h1, h2⟩ => ⟨h1, by subst h2; exact (Below.refl _ w).alloc (Nat.le_refl _) _⟩
theorem okB4 (x0 x1 x2 x3 : Int) (w : World) (b : Nat) (hb : b = w.heap.size) :
    Calls Tryd.prog 16 #[.slice (some ⟨b, 0, none⟩) 4 4] (w.alloc (.cells #[.int .i64 x0, .int .i64 x1, .int .i64 x2, .int .i64 x3] 23)) fun e w' => e = .returned (.bool (ok4 x0 x1 x2 x3)) ∧ Below w.heap.size w w' :=
  (ok_new4 x0 x1 x2 x3 w b hb).mono fun e w' ⟨h1, h2⟩ => ⟨h1, by subst h2; exact (Below.refl _ w).alloc (Nat.le_refl _) _⟩
theorem okB5 (x0 x1 x2 x3 x4 : Int) (w : World) (b : Nat) (hb : b = w.heap.size) :
    Calls Tryd.prog 16 #[.slice (some ⟨b, 0, none⟩) 5 5] (w.alloc (.cells #[.int .i64 x0, .int .i64 x1, .int .i64 x2, .int .i64 x3, .int .i64 x4] 23)) fun e w' => e = .returned (.bool (ok5 x0 x1 x2 x3 x4)) ∧ Below w.heap.size w w' :=
  (ok_new5 x0 x1 x2 x3 x4 w b hb).mono fun e w' ⟨h1, h2⟩ => ⟨h1, by subst h2; exact (Below.refl _ w).alloc (Nat.le_refl _) _⟩
theorem ok2_of {a b : Int} (h : ok2 a b = true) : a = 0 ∧ b = 0 := by unfold ok2 at h; simpa using h
theorem ok3_of {a b c : Int} (h : ok3 a b c = true) : a = 0 ∧ b = 0 ∧ c = 0 := by unfold ok3 at h; simpa [and_assoc] using h
theorem ok4_of {a b c d : Int} (h : ok4 a b c d = true) : a = 0 ∧ b = 0 ∧ c = 0 ∧ d = 0 := by unfold ok4 at h; simpa [and_assoc] using h
theorem ok5_of {a b c d e : Int} (h : ok5 a b c d e = true) : a = 0 ∧ b = 0 ∧ c = 0 ∧ d = 0 ∧ e = 0 := by unfold ok5 at h; simpa [and_assoc] using h
theorem e2_turn (x y : Int) : (e2 x y == 0) = (e2 y x == 0) := by
  rw [Bool.eq_iff_iff, beq_iff_eq, beq_iff_eq, e2_zero, e2_zero, and_comm]
theorem or0_turn (x y : Int) (n : Nat) : or0 (e2 x y) n = or0 (e2 y x) n := by
  unfold e2 or0
  by_cases h1 : x = 0 <;> by_cases h2 : y = 0 <;> simp [h1, h2]
set_option maxRecDepth 100000 in
set_option maxHeartbeats 16000000 in
theorem walkNatRing (va : Value) (la : List Nat) (vb : Value) (lb : List Nat) (vc : Value) (lc' : List Nat) (w : World) (hT : Tab10 w) (ha : Lim w va la) (hb : Lim w vb lb) (hc : Lim w vc lc') :
    Calls Tryd.prog 3 #[va, vb, vc] w fun e w' => e = .returned (.bool true) ∧ Below w.heap.size w w' := by
  have Va := Lib.hid (NA.ofLim ha)
  generalize checkN la = ca at *
  generalize val la = na at *
  have Vb := Lib.hid (NA.ofLim hb)
  generalize checkN lb = cb at *
  generalize val lb = nb at *
  have Vc := Lib.hid (NA.ofLim hc)
  generalize checkN lc' = cc at *
  generalize val lc' = nc at *
  obtain ⟨Ee, hEe⟩ : ∃ E, E = e2 ca cb := ⟨_, rfl⟩
  obtain ⟨nab, hnab⟩ : ∃ n, n = or0 Ee (na + nb) := ⟨_, rfl⟩
  obtain ⟨Ef, hEf⟩ : ∃ E, E = e2 cb ca := ⟨_, rfl⟩
  obtain ⟨nba, hnba⟩ : ∃ n, n = or0 Ef (nb + na) := ⟨_, rfl⟩
  obtain ⟨Eg, hEg⟩ : ∃ E, E = e2 cb cc := ⟨_, rfl⟩
  obtain ⟨nbc, hnbc⟩ : ∃ n, n = or0 Eg (nb + nc) := ⟨_, rfl⟩
  obtain ⟨Eh, hEh⟩ : ∃ E, E = e2 (ckN nab) cc := ⟨_, rfl⟩
  obtain ⟨nx, hnx⟩ : ∃ n, n = or0 Eh (nab + nc) := ⟨_, rfl⟩
  obtain ⟨Ei, hEi⟩ : ∃ E, E = e2 ca (ckN nbc) := ⟨_, rfl⟩
  obtain ⟨ny, hny⟩ : ∃ n, n = or0 Ei (na + nbc) := ⟨_, rfl⟩
  obtain ⟨Ej, hEj⟩ : ∃ E, E = e2 ca cb := ⟨_, rfl⟩
  obtain ⟨np, hnp⟩ : ∃ n, n = or0 Ej (na * nb) := ⟨_, rfl⟩
  obtain ⟨Ek, hEk⟩ : ∃ E, E = e2 cb ca := ⟨_, rfl⟩
  obtain ⟨nq, hnq⟩ : ∃ n, n = or0 Ek (nb * na) := ⟨_, rfl⟩
  obtain ⟨El, hEl⟩ : ∃ E, E = e2 cb cc := ⟨_, rfl⟩
  obtain ⟨nr, hnr⟩ : ∃ n, n = or0 El (nb * nc) := ⟨_, rfl⟩
  obtain ⟨Em, hEm⟩ : ∃ E, E = e2 (ckN np) cc := ⟨_, rfl⟩
  obtain ⟨ns, hns⟩ : ∃ n, n = or0 Em (np * nc) := ⟨_, rfl⟩
  obtain ⟨En, hEn⟩ : ∃ E, E = e2 ca (ckN nr) := ⟨_, rfl⟩
  obtain ⟨nt, hnt⟩ : ∃ n, n = or0 En (na * nr) := ⟨_, rfl⟩
  obtain ⟨Eo, hEo⟩ : ∃ E, E = e2 ca (ckN nbc) := ⟨_, rfl⟩
  obtain ⟨nu, hnu⟩ : ∃ n, n = or0 Eo (na * nbc) := ⟨_, rfl⟩
  obtain ⟨Ew, hEw⟩ : ∃ E, E = e2 ca cc := ⟨_, rfl⟩
  obtain ⟨nv, hnv⟩ : ∃ n, n = or0 Ew (na * nc) := ⟨_, rfl⟩
  obtain ⟨Ed, hEd⟩ : ∃ E, E = e2 (ckN np) (ckN nv) := ⟨_, rfl⟩
  obtain ⟨nz, hnz⟩ : ∃ n, n = or0 Ed (np + nv) := ⟨_, rfl⟩
  have K0 : Hid (∀ va vb w', NA w' va ca na → NA w' vb cb nb → Calls Tryd.prog 13 #[va, vb] w' (RetNE w' nab Ee)) := Lib.hid (by intro va vb w' h h2; rw [hnab, hEe]; exact nadd_any va vb _ _ _ _ w' h h2)
  have K1 : Hid (∀ va vb w', NA w' va cb nb → NA w' vb ca na → Calls Tryd.prog 13 #[va, vb] w' (RetNE w' nba Ef)) := Lib.hid (by intro va vb w' h h2; rw [hnba, hEf]; exact nadd_any va vb _ _ _ _ w' h h2)
  have K2 : Hid (∀ va vb w', NA w' va cb nb → NA w' vb cc nc → Calls Tryd.prog 13 #[va, vb] w' (RetNE w' nbc Eg)) := Lib.hid (by intro va vb w' h h2; rw [hnbc, hEg]; exact nadd_any va vb _ _ _ _ w' h h2)
  have K3 : Hid (∀ va vb w', NA w' va (ckN nab) nab → NA w' vb cc nc → Calls Tryd.prog 13 #[va, vb] w' (RetNE w' nx Eh)) := Lib.hid (by intro va vb w' h h2; rw [hnx, hEh]; exact nadd_any va vb _ _ _ _ w' h h2)
  have K4 : Hid (∀ va vb w', NA w' va ca na → NA w' vb (ckN nbc) nbc → Calls Tryd.prog 13 #[va, vb] w' (RetNE w' ny Ei)) := Lib.hid (by intro va vb w' h h2; rw [hny, hEi]; exact nadd_any va vb _ _ _ _ w' h h2)
  have K5 : Hid (∀ va vb w', NA w' va ca na → NA w' vb cb nb → Calls Tryd.prog 17 #[va, vb] w' (RetNE w' np Ej)) := Lib.hid (by intro va vb w' h h2; rw [hnp, hEj]; exact nmul_any va vb _ _ _ _ w' h h2)
  have K6 : Hid (∀ va vb w', NA w' va cb nb → NA w' vb ca na → Calls Tryd.prog 17 #[va, vb] w' (RetNE w' nq Ek)) := Lib.hid (by intro va vb w' h h2; rw [hnq, hEk]; exact nmul_any va vb _ _ _ _ w' h h2)
  have K7 : Hid (∀ va vb w', NA w' va cb nb → NA w' vb cc nc → Calls Tryd.prog 17 #[va, vb] w' (RetNE w' nr El)) := Lib.hid (by intro va vb w' h h2; rw [hnr, hEl]; exact nmul_any va vb _ _ _ _ w' h h2)
  have K8 : Hid (∀ va vb w', NA w' va (ckN np) np → NA w' vb cc nc → Calls Tryd.prog 17 #[va, vb] w' (RetNE w' ns Em)) := Lib.hid (by intro va vb w' h h2; rw [hns, hEm]; exact nmul_any va vb _ _ _ _ w' h h2)
  have K9 : Hid (∀ va vb w', NA w' va ca na → NA w' vb (ckN nr) nr → Calls Tryd.prog 17 #[va, vb] w' (RetNE w' nt En)) := Lib.hid (by intro va vb w' h h2; rw [hnt, hEn]; exact nmul_any va vb _ _ _ _ w' h h2)
  have K10 : Hid (∀ va vb w', NA w' va ca na → NA w' vb (ckN nbc) nbc → Calls Tryd.prog 17 #[va, vb] w' (RetNE w' nu Eo)) := Lib.hid (by intro va vb w' h h2; rw [hnu, hEo]; exact nmul_any va vb _ _ _ _ w' h h2)
  have K11 : Hid (∀ va vb w', NA w' va ca na → NA w' vb cc nc → Calls Tryd.prog 17 #[va, vb] w' (RetNE w' nv Ew)) := Lib.hid (by intro va vb w' h h2; rw [hnv, hEw]; exact nmul_any va vb _ _ _ _ w' h h2)
  have K12 : Hid (∀ va vb w', NA w' va (ckN np) np → NA w' vb (ckN nv) nv → Calls Tryd.prog 13 #[va, vb] w' (RetNE w' nz Ed)) := Lib.hid (by intro va vb w' h h2; rw [hnz, hEd]; exact nadd_any va vb _ _ _ _ w' h h2)
  have H1 : Hid (nab = nba) := Lib.hid (by rw [hnab, hnba, hEe, hEf, or0_turn, Nat.add_comm])
  have H3 : Hid (np = nq) := Lib.hid (by rw [hnp, hnq, hEj, hEk, or0_turn, Nat.mul_comm])
  have q1 : (Ee == 0) = (Ef == 0) := by rw [hEe, hEf]; exact e2_turn _ _
  have q2 : (Ej == 0) = (Ek == 0) := by rw [hEj, hEk]; exact e2_turn _ _
  have H2 : Hid (ok4 Ee Eg Eh Ei = true → nx = ny) := Lib.hid (by
    intro h
    obtain ⟨h1, h2, h3, h4⟩ := ok4_of h
    rw [hnx, hny, hnab, hnbc, h1, h2, h3, h4, or0_zero, or0_zero, or0_zero, or0_zero, Nat.add_assoc])
  have H4 : Hid (ok4 Ej El Em En = true → ns = nt) := Lib.hid (by
    intro h
    obtain ⟨h1, h2, h3, h4⟩ := ok4_of h
    rw [hns, hnt, hnp, hnr, h1, h2, h3, h4, or0_zero, or0_zero, or0_zero, or0_zero, Nat.mul_assoc])
  have H5 : Hid (ok5 Eg Eo Ej Ew Ed = true → nu = nz) := Lib.hid (by
    intro h
    obtain ⟨h1, h2, h3, h4, h5⟩ := ok5_of h
    rw [hnu, hnz, hnp, hnv, hnbc, h1, h2, h3, h4, h5, or0_zero, or0_zero, or0_zero, or0_zero, or0_zero, Nat.mul_add])
  have T1 := Lib.hid hT
  have B1 := Lib.hid (Below.refl w.heap.size w)
  clear hEd hnz hEw hnv hEo hnu hEn hnt hEm hns hEl hnr hEk hnq hEj hnp hEi hny hEh hnx hEg hnbc hEf hnba hEe hnab hT ha hb hc
  go_enter Tryd.func3, Tryd.ntmps3
  go_wp2_with (first
    | (go_at_call 13; (with_reducible refine (K0.out va vb _ Va.out Vb.out).mono ?_); rintro e w1 ⟨vab, rfl, hnab, hb⟩; have Vab := Lib.hid hnab; clear hnab; (try replace Va := Lib.hid (Va.out.below hb)); (try replace Vb := Lib.hid (Vb.out.below hb)); (try replace Vc := Lib.hid (Vc.out.below hb)); replace T1 := Lib.hid (T1.out.below hb); replace B1 := Lib.hid (bl_thru B1.out (Nat.le_refl _) hb); clear hb)
    | (go_at_call 13; (with_reducible refine (K1.out vb va _ Vb.out Va.out).mono ?_); rintro e w1 ⟨vba, rfl, hnba, hb⟩; have Vba := Lib.hid hnba; clear hnba; (try replace Va := Lib.hid (Va.out.below hb)); (try replace Vb := Lib.hid (Vb.out.below hb)); (try replace Vc := Lib.hid (Vc.out.below hb)); (try replace Vab := Lib.hid (Vab.out.below hb)); replace T1 := Lib.hid (T1.out.below hb); replace B1 := Lib.hid (bl_thru B1.out (Nat.le_refl _) hb); clear hb)
    | (go_at_call 13; (with_reducible refine (K2.out vb vc _ Vb.out Vc.out).mono ?_); rintro e w1 ⟨vbc, rfl, hnbc, hb⟩; have Vbc := Lib.hid hnbc; clear hnbc; (try replace Va := Lib.hid (Va.out.below hb)); (try replace Vb := Lib.hid (Vb.out.below hb)); (try replace Vc := Lib.hid (Vc.out.below hb)); (try replace Vab := Lib.hid (Vab.out.below hb)); (try replace Vba := Lib.hid (Vba.out.below hb)); replace T1 := Lib.hid (T1.out.below hb); replace B1 := Lib.hid (bl_thru B1.out (Nat.le_refl _) hb); clear hb)
    | (go_at_call 13; (with_reducible refine (K3.out vab vc _ (NA.ofNV Vab.out) Vc.out).mono ?_); rintro e w1 ⟨vx, rfl, hnx, hb⟩; have Vx := Lib.hid hnx; clear hnx; (try replace Va := Lib.hid (Va.out.below hb)); (try replace Vb := Lib.hid (Vb.out.below hb)); (try replace Vc := Lib.hid (Vc.out.below hb)); (try replace Vab := Lib.hid (Vab.out.below hb)); (try replace Vba := Lib.hid (Vba.out.below hb)); (try replace Vbc := Lib.hid (Vbc.out.below hb)); replace T1 := Lib.hid (T1.out.below hb); replace B1 := Lib.hid (bl_thru B1.out (Nat.le_refl _) hb); clear hb)
    | (go_at_call 13; (with_reducible refine (K4.out va vbc _ Va.out (NA.ofNV Vbc.out)).mono ?_); rintro e w1 ⟨vy, rfl, hny, hb⟩; have Vy := Lib.hid hny; clear hny; (try replace Va := Lib.hid (Va.out.below hb)); (try replace Vb := Lib.hid (Vb.out.below hb)); (try replace Vc := Lib.hid (Vc.out.below hb)); (try replace Vab := Lib.hid (Vab.out.below hb)); (try replace Vba := Lib.hid (Vba.out.below hb)); (try replace Vbc := Lib.hid (Vbc.out.below hb)); (try replace Vx := Lib.hid (Vx.out.below hb)); replace T1 := Lib.hid (T1.out.below hb); replace B1 := Lib.hid (bl_thru B1.out (Nat.le_refl _) hb); clear hb)
    | (go_at_call 14; refine (natLives_any _ T1.out).mono ?_; rintro e w1 ⟨rfl, hb⟩; (try replace Va := Lib.hid (Va.out.below hb)); (try replace Vb := Lib.hid (Vb.out.below hb)); (try replace Vc := Lib.hid (Vc.out.below hb)); (try replace Vab := Lib.hid (Vab.out.below hb)); (try replace Vba := Lib.hid (Vba.out.below hb)); (try replace Vbc := Lib.hid (Vbc.out.below hb)); (try replace Vx := Lib.hid (Vx.out.below hb)); (try replace Vy := Lib.hid (Vy.out.below hb)); (try replace Vp := Lib.hid (Vp.out.below hb)); (try replace Vq := Lib.hid (Vq.out.below hb)); (try replace Vr := Lib.hid (Vr.out.below hb)); (try replace Vs := Lib.hid (Vs.out.below hb)); (try replace Vt := Lib.hid (Vt.out.below hb)); (try replace Vu := Lib.hid (Vu.out.below hb)); (try replace Vv := Lib.hid (Vv.out.below hb)); (try replace Vz := Lib.hid (Vz.out.below hb)); replace T1 := Lib.hid (T1.out.below hb); replace B1 := Lib.hid (bl_thru B1.out (Nat.le_refl _) hb); clear hb)
    | (go_at_call 15; (with_reducible refine (eqT vab vba _ _ _ H1.out Vab.out Vba.out).mono ?_); rintro e w1 ⟨rfl, hb⟩; (try replace Va := Lib.hid (Va.out.below hb)); (try replace Vb := Lib.hid (Vb.out.below hb)); (try replace Vc := Lib.hid (Vc.out.below hb)); (try replace Vab := Lib.hid (Vab.out.below hb)); (try replace Vba := Lib.hid (Vba.out.below hb)); (try replace Vbc := Lib.hid (Vbc.out.below hb)); (try replace Vx := Lib.hid (Vx.out.below hb)); (try replace Vy := Lib.hid (Vy.out.below hb)); replace T1 := Lib.hid (T1.out.below hb); replace B1 := Lib.hid (bl_thru B1.out (Nat.le_refl _) hb); clear hb)
    | (go_at_call 16; (with_reducible refine (okB4 _ _ _ _ _ _ rfl).mono ?_); rintro e w1 ⟨rfl, hb⟩; (try replace Va := Lib.hid (Va.out.below hb)); (try replace Vb := Lib.hid (Vb.out.below hb)); (try replace Vc := Lib.hid (Vc.out.below hb)); (try replace Vab := Lib.hid (Vab.out.below hb)); (try replace Vba := Lib.hid (Vba.out.below hb)); (try replace Vbc := Lib.hid (Vbc.out.below hb)); (try replace Vx := Lib.hid (Vx.out.below hb)); (try replace Vy := Lib.hid (Vy.out.below hb)); (try replace Vp := Lib.hid (Vp.out.below hb)); (try replace Vq := Lib.hid (Vq.out.below hb)); (try replace Vr := Lib.hid (Vr.out.below hb)); (try replace Vs := Lib.hid (Vs.out.below hb)); (try replace Vt := Lib.hid (Vt.out.below hb)); (try replace Vu := Lib.hid (Vu.out.below hb)); (try replace Vv := Lib.hid (Vv.out.below hb)); (try replace Vz := Lib.hid (Vz.out.below hb)); replace T1 := Lib.hid (T1.out.below hb); replace B1 := Lib.hid (bl_thru B1.out (Nat.le_refl _) hb); clear hb)
    | (go_at_call 15; (with_reducible refine (eqT vx vy _ _ _ (H2.out ‹_›) Vx.out Vy.out).mono ?_); rintro e w1 ⟨rfl, hb⟩; (try replace Va := Lib.hid (Va.out.below hb)); (try replace Vb := Lib.hid (Vb.out.below hb)); (try replace Vc := Lib.hid (Vc.out.below hb)); (try replace Vab := Lib.hid (Vab.out.below hb)); (try replace Vba := Lib.hid (Vba.out.below hb)); (try replace Vbc := Lib.hid (Vbc.out.below hb)); (try replace Vx := Lib.hid (Vx.out.below hb)); (try replace Vy := Lib.hid (Vy.out.below hb)); replace T1 := Lib.hid (T1.out.below hb); replace B1 := Lib.hid (bl_thru B1.out (Nat.le_refl _) hb); clear hb)
    | (go_at_call 17; (with_reducible refine (K5.out va vb _ Va.out Vb.out).mono ?_); rintro e w1 ⟨vp, rfl, hnp, hb⟩; have Vp := Lib.hid hnp; clear hnp; (try replace Va := Lib.hid (Va.out.below hb)); (try replace Vb := Lib.hid (Vb.out.below hb)); (try replace Vc := Lib.hid (Vc.out.below hb)); (try replace Vab := Lib.hid (Vab.out.below hb)); (try replace Vba := Lib.hid (Vba.out.below hb)); (try replace Vbc := Lib.hid (Vbc.out.below hb)); (try replace Vx := Lib.hid (Vx.out.below hb)); (try replace Vy := Lib.hid (Vy.out.below hb)); replace T1 := Lib.hid (T1.out.below hb); replace B1 := Lib.hid (bl_thru B1.out (Nat.le_refl _) hb); clear hb)
    | (go_at_call 17; (with_reducible refine (K6.out vb va _ Vb.out Va.out).mono ?_); rintro e w1 ⟨vq, rfl, hnq, hb⟩; have Vq := Lib.hid hnq; clear hnq; (try replace Va := Lib.hid (Va.out.below hb)); (try replace Vb := Lib.hid (Vb.out.below hb)); (try replace Vc := Lib.hid (Vc.out.below hb)); (try replace Vab := Lib.hid (Vab.out.below hb)); (try replace Vba := Lib.hid (Vba.out.below hb)); (try replace Vbc := Lib.hid (Vbc.out.below hb)); (try replace Vx := Lib.hid (Vx.out.below hb)); (try replace Vy := Lib.hid (Vy.out.below hb)); (try replace Vp := Lib.hid (Vp.out.below hb)); replace T1 := Lib.hid (T1.out.below hb); replace B1 := Lib.hid (bl_thru B1.out (Nat.le_refl _) hb); clear hb)
    | (go_at_call 17; (with_reducible refine (K7.out vb vc _ Vb.out Vc.out).mono ?_); rintro e w1 ⟨vr, rfl, hnr, hb⟩; have Vr := Lib.hid hnr; clear hnr; (try replace Va := Lib.hid (Va.out.below hb)); (try replace Vb := Lib.hid (Vb.out.below hb)); (try replace Vc := Lib.hid (Vc.out.below hb)); (try replace Vab := Lib.hid (Vab.out.below hb)); (try replace Vba := Lib.hid (Vba.out.below hb)); (try replace Vbc := Lib.hid (Vbc.out.below hb)); (try replace Vx := Lib.hid (Vx.out.below hb)); (try replace Vy := Lib.hid (Vy.out.below hb)); (try replace Vp := Lib.hid (Vp.out.below hb)); (try replace Vq := Lib.hid (Vq.out.below hb)); replace T1 := Lib.hid (T1.out.below hb); replace B1 := Lib.hid (bl_thru B1.out (Nat.le_refl _) hb); clear hb)
    | (go_at_call 17; (with_reducible refine (K8.out vp vc _ (NA.ofNV Vp.out) Vc.out).mono ?_); rintro e w1 ⟨vs, rfl, hns, hb⟩; have Vs := Lib.hid hns; clear hns; (try replace Va := Lib.hid (Va.out.below hb)); (try replace Vb := Lib.hid (Vb.out.below hb)); (try replace Vc := Lib.hid (Vc.out.below hb)); (try replace Vab := Lib.hid (Vab.out.below hb)); (try replace Vba := Lib.hid (Vba.out.below hb)); (try replace Vbc := Lib.hid (Vbc.out.below hb)); (try replace Vx := Lib.hid (Vx.out.below hb)); (try replace Vy := Lib.hid (Vy.out.below hb)); (try replace Vp := Lib.hid (Vp.out.below hb)); (try replace Vq := Lib.hid (Vq.out.below hb)); (try replace Vr := Lib.hid (Vr.out.below hb)); replace T1 := Lib.hid (T1.out.below hb); replace B1 := Lib.hid (bl_thru B1.out (Nat.le_refl _) hb); clear hb)
    | (go_at_call 17; (with_reducible refine (K9.out va vr _ Va.out (NA.ofNV Vr.out)).mono ?_); rintro e w1 ⟨vt, rfl, hnt, hb⟩; have Vt := Lib.hid hnt; clear hnt; (try replace Va := Lib.hid (Va.out.below hb)); (try replace Vb := Lib.hid (Vb.out.below hb)); (try replace Vc := Lib.hid (Vc.out.below hb)); (try replace Vab := Lib.hid (Vab.out.below hb)); (try replace Vba := Lib.hid (Vba.out.below hb)); (try replace Vbc := Lib.hid (Vbc.out.below hb)); (try replace Vx := Lib.hid (Vx.out.below hb)); (try replace Vy := Lib.hid (Vy.out.below hb)); (try replace Vp := Lib.hid (Vp.out.below hb)); (try replace Vq := Lib.hid (Vq.out.below hb)); (try replace Vr := Lib.hid (Vr.out.below hb)); (try replace Vs := Lib.hid (Vs.out.below hb)); replace T1 := Lib.hid (T1.out.below hb); replace B1 := Lib.hid (bl_thru B1.out (Nat.le_refl _) hb); clear hb)
    | (go_at_call 15; (with_reducible refine (eqT vp vq _ _ _ H3.out Vp.out Vq.out).mono ?_); rintro e w1 ⟨rfl, hb⟩; (try replace Va := Lib.hid (Va.out.below hb)); (try replace Vb := Lib.hid (Vb.out.below hb)); (try replace Vc := Lib.hid (Vc.out.below hb)); (try replace Vab := Lib.hid (Vab.out.below hb)); (try replace Vba := Lib.hid (Vba.out.below hb)); (try replace Vbc := Lib.hid (Vbc.out.below hb)); (try replace Vx := Lib.hid (Vx.out.below hb)); (try replace Vy := Lib.hid (Vy.out.below hb)); (try replace Vp := Lib.hid (Vp.out.below hb)); (try replace Vq := Lib.hid (Vq.out.below hb)); (try replace Vr := Lib.hid (Vr.out.below hb)); (try replace Vs := Lib.hid (Vs.out.below hb)); (try replace Vt := Lib.hid (Vt.out.below hb)); replace T1 := Lib.hid (T1.out.below hb); replace B1 := Lib.hid (bl_thru B1.out (Nat.le_refl _) hb); clear hb)
    | (go_at_call 15; (with_reducible refine (eqT vs vt _ _ _ (H4.out ‹_›) Vs.out Vt.out).mono ?_); rintro e w1 ⟨rfl, hb⟩; (try replace Va := Lib.hid (Va.out.below hb)); (try replace Vb := Lib.hid (Vb.out.below hb)); (try replace Vc := Lib.hid (Vc.out.below hb)); (try replace Vab := Lib.hid (Vab.out.below hb)); (try replace Vba := Lib.hid (Vba.out.below hb)); (try replace Vbc := Lib.hid (Vbc.out.below hb)); (try replace Vx := Lib.hid (Vx.out.below hb)); (try replace Vy := Lib.hid (Vy.out.below hb)); (try replace Vp := Lib.hid (Vp.out.below hb)); (try replace Vq := Lib.hid (Vq.out.below hb)); (try replace Vr := Lib.hid (Vr.out.below hb)); (try replace Vs := Lib.hid (Vs.out.below hb)); (try replace Vt := Lib.hid (Vt.out.below hb)); replace T1 := Lib.hid (T1.out.below hb); replace B1 := Lib.hid (bl_thru B1.out (Nat.le_refl _) hb); clear hb)
    | (go_at_call 17; (with_reducible refine (K10.out va vbc _ Va.out (NA.ofNV Vbc.out)).mono ?_); rintro e w1 ⟨vu, rfl, hnu, hb⟩; have Vu := Lib.hid hnu; clear hnu; (try replace Va := Lib.hid (Va.out.below hb)); (try replace Vb := Lib.hid (Vb.out.below hb)); (try replace Vc := Lib.hid (Vc.out.below hb)); (try replace Vab := Lib.hid (Vab.out.below hb)); (try replace Vba := Lib.hid (Vba.out.below hb)); (try replace Vbc := Lib.hid (Vbc.out.below hb)); (try replace Vx := Lib.hid (Vx.out.below hb)); (try replace Vy := Lib.hid (Vy.out.below hb)); (try replace Vp := Lib.hid (Vp.out.below hb)); (try replace Vq := Lib.hid (Vq.out.below hb)); (try replace Vr := Lib.hid (Vr.out.below hb)); (try replace Vs := Lib.hid (Vs.out.below hb)); (try replace Vt := Lib.hid (Vt.out.below hb)); replace T1 := Lib.hid (T1.out.below hb); replace B1 := Lib.hid (bl_thru B1.out (Nat.le_refl _) hb); clear hb)
    | (go_at_call 17; (with_reducible refine (K11.out va vc _ Va.out Vc.out).mono ?_); rintro e w1 ⟨vv, rfl, hnv, hb⟩; have Vv := Lib.hid hnv; clear hnv; (try replace Va := Lib.hid (Va.out.below hb)); (try replace Vb := Lib.hid (Vb.out.below hb)); (try replace Vc := Lib.hid (Vc.out.below hb)); (try replace Vab := Lib.hid (Vab.out.below hb)); (try replace Vba := Lib.hid (Vba.out.below hb)); (try replace Vbc := Lib.hid (Vbc.out.below hb)); (try replace Vx := Lib.hid (Vx.out.below hb)); (try replace Vy := Lib.hid (Vy.out.below hb)); (try replace Vp := Lib.hid (Vp.out.below hb)); (try replace Vq := Lib.hid (Vq.out.below hb)); (try replace Vr := Lib.hid (Vr.out.below hb)); (try replace Vs := Lib.hid (Vs.out.below hb)); (try replace Vt := Lib.hid (Vt.out.below hb)); (try replace Vu := Lib.hid (Vu.out.below hb)); replace T1 := Lib.hid (T1.out.below hb); replace B1 := Lib.hid (bl_thru B1.out (Nat.le_refl _) hb); clear hb)
    | (go_at_call 13; (with_reducible refine (K12.out vp vv _ (NA.ofNV Vp.out) (NA.ofNV Vv.out)).mono ?_); rintro e w1 ⟨vz, rfl, hnz, hb⟩; have Vz := Lib.hid hnz; clear hnz; (try replace Va := Lib.hid (Va.out.below hb)); (try replace Vb := Lib.hid (Vb.out.below hb)); (try replace Vc := Lib.hid (Vc.out.below hb)); (try replace Vab := Lib.hid (Vab.out.below hb)); (try replace Vba := Lib.hid (Vba.out.below hb)); (try replace Vbc := Lib.hid (Vbc.out.below hb)); (try replace Vx := Lib.hid (Vx.out.below hb)); (try replace Vy := Lib.hid (Vy.out.below hb)); (try replace Vp := Lib.hid (Vp.out.below hb)); (try replace Vq := Lib.hid (Vq.out.below hb)); (try replace Vr := Lib.hid (Vr.out.below hb)); (try replace Vs := Lib.hid (Vs.out.below hb)); (try replace Vt := Lib.hid (Vt.out.below hb)); (try replace Vu := Lib.hid (Vu.out.below hb)); (try replace Vv := Lib.hid (Vv.out.below hb)); replace T1 := Lib.hid (T1.out.below hb); replace B1 := Lib.hid (bl_thru B1.out (Nat.le_refl _) hb); clear hb)
    | (go_at_call 16; (with_reducible refine (okB5 _ _ _ _ _ _ _ rfl).mono ?_); rintro e w1 ⟨rfl, hb⟩; (try replace Va := Lib.hid (Va.out.below hb)); (try replace Vb := Lib.hid (Vb.out.below hb)); (try replace Vc := Lib.hid (Vc.out.below hb)); (try replace Vab := Lib.hid (Vab.out.below hb)); (try replace Vba := Lib.hid (Vba.out.below hb)); (try replace Vbc := Lib.hid (Vbc.out.below hb)); (try replace Vx := Lib.hid (Vx.out.below hb)); (try replace Vy := Lib.hid (Vy.out.below hb)); (try replace Vp := Lib.hid (Vp.out.below hb)); (try replace Vq := Lib.hid (Vq.out.below hb)); (try replace Vr := Lib.hid (Vr.out.below hb)); (try replace Vs := Lib.hid (Vs.out.below hb)); (try replace Vt := Lib.hid (Vt.out.below hb)); (try replace Vu := Lib.hid (Vu.out.below hb)); (try replace Vv := Lib.hid (Vv.out.below hb)); (try replace Vz := Lib.hid (Vz.out.below hb)); replace T1 := Lib.hid (T1.out.below hb); replace B1 := Lib.hid (bl_thru B1.out (Nat.le_refl _) hb); clear hb)
    | (go_at_call 15; (with_reducible refine (eqT vu vz _ _ _ (H5.out ‹_›) Vu.out Vz.out).mono ?_); rintro e w1 ⟨rfl, hb⟩; (try replace Va := Lib.hid (Va.out.below hb)); (try replace Vb := Lib.hid (Vb.out.below hb)); (try replace Vc := Lib.hid (Vc.out.below hb)); (try replace Vab := Lib.hid (Vab.out.below hb)); (try replace Vba := Lib.hid (Vba.out.below hb)); (try replace Vbc := Lib.hid (Vbc.out.below hb)); (try replace Vx := Lib.hid (Vx.out.below hb)); (try replace Vy := Lib.hid (Vy.out.below hb)); (try replace Vp := Lib.hid (Vp.out.below hb)); (try replace Vq := Lib.hid (Vq.out.below hb)); (try replace Vr := Lib.hid (Vr.out.below hb)); (try replace Vs := Lib.hid (Vs.out.below hb)); (try replace Vt := Lib.hid (Vt.out.below hb)); (try replace Vu := Lib.hid (Vu.out.below hb)); (try replace Vv := Lib.hid (Vv.out.below hb)); (try replace Vz := Lib.hid (Vz.out.below hb)); replace T1 := Lib.hid (T1.out.below hb); replace B1 := Lib.hid (bl_thru B1.out (Nat.le_refl _) hb); clear hb))
  all_goals
    go_ret
    exact ⟨rfl, B1.out⟩
end Go.Proofs.YthlocmhfjandlaaDoor
