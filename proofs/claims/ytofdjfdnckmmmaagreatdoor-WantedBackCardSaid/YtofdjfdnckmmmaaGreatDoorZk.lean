/-
  SOME OF MY TEXTS in one: Zza Zzc Zzd Zd. Each says what it proves.
-/
import Derived.Test.YtofdjfdnckmmmaaGreatDoorZr
set_option linter.unusedVariables false
set_option linter.unusedSimpArgs false
/-
  THE WALKS of read.digits, read.power.
-/
namespace Go.Proofs.YtofdjfdnckmmmaaGreatDoor
open Go.RowKit Nt Fm Fl

/-- so many digits stand ahead -/
def dgN (s : List UInt8) : Nat := (s.takeWhile (decCs.contains ·)).length
theorem dgN_le (s : List UInt8) : dgN s ≤ s.length := takeW_le s
theorem rdigits_any (s : List UInt8) (S : ByteArray) (hS : S = ⟨s.toArray⟩) (w : World) (hsl : s.length ≤ 100000) :
    Calls Tryz.prog 56 #[.string S] w fun e w' => e = .returned (.int .i64 ((dgN s : Nat) : Int)) ∧ Below w.heap.size w w' := by
  have TL := Lib.hid (fun w' => trimLeft_any S decCs (by decide) (by decide) w')
  have hd : S.data.toList = s := by rw [hS]
  rw [hd] at TL
  obtain ⟨R, hR⟩ : ∃ R : ByteArray, R = ⟨(s.dropWhile (decCs.contains ·)).toArray⟩ := ⟨_, rfl⟩
  rw [← hR, show (⟨decCs.toArray⟩ : ByteArray) = ⟨#[48, 49, 50, 51, 52, 53, 54, 55, 56, 57]⟩ by rfl] at TL
  have hz : S.size = s.length := by rw [hS]; rfl
  have hrz : R.size = (s.dropWhile (decCs.contains ·)).length := by rw [hR]; rfl
  have hle := dropW_len (p := (decCs.contains ·)) s
  have hn : s.length = dgN s + (s.dropWhile (decCs.contains ·)).length := by
    unfold dgN
    have := congrArg List.length (List.takeWhile_append_dropWhile (p := (decCs.contains ·)) (l := s))
    rw [List.length_append] at this
    exact this.symm
  generalize dgN s = n at *
  generalize (s.dropWhile (decCs.contains ·)).length = b at *
  generalize s.length = a at *
  have hkz : (a : Int) - (b : Int) = (n : Int) := by omega
  clear hd hR hS
  go_enter Tryz.func56, Tryz.ntmps56
  go_wp2_with (go_at_call 58; refine (TL.out _).mono ?_; rintro e w1 ⟨rfl, hb⟩; have HB := Lib.hid hb; clear hb)
  go_ret
  exact ⟨by first | rfl | (congr 2; omega), HB.out⟩
/-- behind a sign -/
def pwT (l : List UInt8) : List UInt8 := if (Lib.hasPrefix l [45] || Lib.hasPrefix l [43]) = true then l.drop 1 else l
/-- is an exponent in its form? -/
def pwG (l : List UInt8) : Bool := !(decide (dgN (pwT l) = 0) || decide (6 < dgN (pwT l)) || !decide (dgN (pwT l) = (pwT l).length))
def pwOK : List UInt8 → Bool
  | [] => true
  | c :: l => (c == 101 || c == 69) && pwG l
/-- .. what it counts -/
def pwV (l : List UInt8) : Int := if Lib.hasPrefix l [45] = true then -((dcN 0 (pwT l) : Nat) : Int) else ((dcN 0 (pwT l) : Nat) : Int)
def pwK : List UInt8 → Int
  | [] => 0
  | c :: l => if pwOK (c :: l) = true then pwV l else 0
theorem pwG_dgt {l : List UInt8} (h : pwG l = true) : pwT l ≠ [] ∧ (pwT l).length ≤ 6 ∧ ∀ c ∈ pwT l, dgt c := by
  unfold pwG at h
  simp at h
  obtain ⟨⟨h1, h2⟩, h3⟩ := h
  refine ⟨fun e => by rw [e] at h1; exact h1 rfl, by omega, ?_⟩
  have h4 : (pwT l).takeWhile (decCs.contains ·) = pwT l := (List.takeWhile_sublist _).eq_of_length (by unfold dgN at h3; exact h3)
  intro c hc
  rw [← h4] at hc
  have := takeW_mem hc
  unfold decCs at this
  unfold dgt
  simp at this
  rcases this with rfl | rfl | rfl | rfl | rfl | rfl | rfl | rfl | rfl | rfl <;> decide
def RetIB (w : World) (k : Int) (b : Bool) (e : Ending) (w' : World) : Prop := e = .returned (.tuple #[.int .i64 k, .bool b]) ∧ Below w.heap.size w w'
theorem power_pre (c : UInt8) (l : List UInt8) (S : ByteArray) (hS : S = ⟨(c :: l).toArray⟩) (hsl : l.length ≤ 2000) :
    ∃ T T6 : ByteArray, S.toList.isEmpty = false ∧ S.size = l.length + 1 ∧ ∃ hS0 : 0 < S.size, ((S[0]'hS0).toNat : Int) = (c.toNat : Int) ∧ S.extract 1 (l.length + 1) = T ∧ T.size = l.length ∧ T6.size = (pwT l).length ∧
    Hid (∀ w', Calls Tryz.prog 55 #[.string T, .string ⟨#[45]⟩] w' fun e w2 => e = .returned (.bool (Lib.hasPrefix l [45])) ∧ w' = w2) ∧
    Hid (∀ w', Calls Tryz.prog 55 #[.string T, .string ⟨#[43]⟩] w' fun e w2 => e = .returned (.bool (Lib.hasPrefix l [43])) ∧ w' = w2) ∧
    Hid (∀ w', Calls Tryz.prog 56 #[.string T6] w' fun e w2 => e = .returned (.int .i64 ((dgN (pwT l) : Nat) : Int)) ∧ Below w'.heap.size w' w2) ∧
    Hid (∀ w', pwG l = true → Calls Tryz.prog 92 #[.string T6] w' fun e w2 => e = .returned (.tuple #[.int .i64 ((dcN 0 (pwT l) : Nat) : Int), .nilIface]) ∧ Below w'.heap.size w' w2) ∧
    Hid ((Lib.hasPrefix l [45] || Lib.hasPrefix l [43]) = true → (1 : Int) ≤ ((l.length : Nat) : Int) ∧ T.extract 1 l.length = T6) ∧
    Hid ((Lib.hasPrefix l [45] || Lib.hasPrefix l [43]) = false → T6 = T) ∧
    Hid (pwG l = true → ((dcN 0 (pwT l) : Nat) : Int) ≤ 999999) ∧
    (!(decide (dgN (pwT l) = 0) || decide (6 < dgN (pwT l)) || !decide (dgN (pwT l) = (pwT l).length))) = pwG l ∧ dgN (pwT l) ≤ (pwT l).length := by
  obtain ⟨T, hT⟩ : ∃ T : ByteArray, T = ⟨l.toArray⟩ := ⟨_, rfl⟩
  have hx : S.extract 1 (l.length + 1) = T := by
    rw [hT, hS]
    apply ByteArray.ext
    simp [ByteArray.data_extract]
    done
  obtain ⟨T6, hT6⟩ : ∃ T : ByteArray, T = ⟨(pwT l).toArray⟩ := ⟨_, rfl⟩
  have l6 : (pwT l).length ≤ l.length := by unfold pwT; split; (rw [List.length_drop]; omega); omega
  have h6 : pwT l = if (Lib.hasPrefix l [45] || Lib.hasPrefix l [43]) = true then l.drop 1 else l := rfl
  have HG := fun h : pwG l = true => pwG_dgt h
  refine ⟨T, T6, by rw [empt _ _ hS]; rfl, by rw [hS]; rfl, by rw [hS]; exact Nat.succ_pos _, by subst hS; rfl, hx, by rw [hT]; rfl, by rw [hT6]; rfl, Lib.hid (fun w' => hasPrefix_any l [45] T hT w'), Lib.hid (fun w' => hasPrefix_any l [43] T hT w'), Lib.hid (fun w' => rdigits_any (pwT l) T6 hT6 w' (by omega)), Lib.hid (fun w' h => atoi_any (pwT l) T6 hT6 (HG h).1 (HG h).2.2 (by have := (HG h).2.1; omega) w'), Lib.hid (fun h => ?_), Lib.hid (fun h => ?_), Lib.hid (fun h => ?_), rfl, dgN_le _⟩
  · have k1 : 1 ≤ l.length := by
      rcases Bool.or_eq_true _ _ ▸ h with k | k
      · exact hasP_one k
      · exact hasP_one k
    have k2 : pwT l = l.drop 1 := by rw [h6, if_pos h]
    refine ⟨by omega, ?_⟩
    rw [hT6, k2, hT]
    apply ByteArray.ext
    simp [ByteArray.data_extract]
    exact List.take_of_length_le (by simp)
  · have k2 : pwT l = l := by rw [h6, h]; rfl
    rw [hT6, hT, k2]
  · obtain ⟨-, k1, k2⟩ := HG h
    have k3 := dcN_lt (pwT l) 0 k2
    have k4 : (10 : Nat) ^ (pwT l).length ≤ 10 ^ 6 := Nat.pow_le_pow_right (by omega) k1
    have k5 : (10 : Nat) ^ 6 = 1000000 := by decide
    omega
end Go.Proofs.YtofdjfdnckmmmaaGreatDoor

/-
  THE WALK of read.power behind its letter: good ones.
-/
namespace Go.Proofs.YtofdjfdnckmmmaaGreatDoor
open Go.RowKit Nt Fm Fl
-- printed by gen_rpow.py
set_option maxRecDepth 100000 in
set_option maxHeartbeats 4000000 in
theorem power_true_down_101 (l : List UInt8) (S : ByteArray) (hS : S = ⟨(101 :: l).toArray⟩) (hsl : l.length ≤ 2000) (w : World) (hg : pwG l = true) (hd : Lib.hasPrefix l [45] = true) :
    Calls Tryz.prog 57 #[.string S] w (RetIB w (if pwG l = true then pwV l else 0) (pwG l)) := by
  obtain ⟨T, T6, hne, hz, hS0, h0, hx, zT, z6, HP1, HP2, DG, AT, A6, A6', hdn, hq, hn2⟩ := power_pre 101 l S hS hsl
  rw [hg]
  unfold RetIB pwV
  rw [hd] at HP1 A6 A6' ⊢
  rw [hg] at hq
  obtain ⟨n, hn⟩ : ∃ n, n = dgN (pwT l) := ⟨_, rfl⟩
  obtain ⟨lq, hlq⟩ : ∃ lq, lq = (pwT l).length := ⟨_, rfl⟩
  obtain ⟨ll, hll⟩ : ∃ ll, ll = l.length := ⟨_, rfl⟩
  rw [← hn] at DG hq hn2
  rw [← hlq] at hq z6 hn2
  rw [← hll] at hz hx zT A6 hsl
  replace h0 : ((S[0]'hS0).toNat : Int) = 101 := h0
  have B : Hid (Below w.heap.size w w) := Lib.hid (Below.refl _ _)
  obtain ⟨hx1, hx2⟩ := A6.out rfl
  clear A6'
  simp only [Bool.not_eq_true', Bool.not_eq_false', Bool.or_eq_true, Bool.or_eq_false_iff, decide_eq_true_eq, decide_eq_false_iff_not, Bool.not_eq_false] at hq
  obtain ⟨⟨q1, q2⟩, q3⟩ := hq
  subst q3
  have k1 : ((n : Int) == 0) = false := by rw [beq_eq_false_iff_ne]; omega
  have k2 : (n : Int) ≤ 6 := by omega
  have hd1 := hdn.out hg
  obtain ⟨dn, hdn2⟩ : ∃ dn, dn = dcN 0 (pwT l) := ⟨_, rfl⟩
  rw [← hdn2] at AT hd1 ⊢
  replace AT := Lib.hid (fun w' => AT.out w' hg)
  have hw1 : IntKind.i64.wrap (-(dn : Int)) = -(dn : Int) := IntWalk.i64_in _ (by omega)
  clear hdn hdn2
  clear hS hg hd hn hlq hll
  simp only [Bool.false_eq_true, if_true, if_false]
  go_enter Tryz.func57, Tryz.ntmps57
  go_wp2_with fail
  refine (HP1.out _).mono ?_
  rintro e w1 ⟨rfl, rfl⟩
  go_wp2_with fail
  refine (DG.out _).mono ?_
  rintro e w1 ⟨rfl, hb1⟩
  replace B : Hid (Below w.heap.size w w1) := Lib.hid (bl_thru B.out (Nat.le_refl _) hb1)
  clear hb1
  go_wp2_with fail
  refine (AT.out _).mono ?_
  rintro e w2 ⟨rfl, hb1⟩
  replace B : Hid (Below w.heap.size w w2) := Lib.hid (bl_thru B.out (Nat.le_refl _) hb1)
  clear hb1
  go_wp2_with fail
  go_ret2
  exact ⟨rfl, B.out⟩
set_option maxRecDepth 100000 in
set_option maxHeartbeats 4000000 in
theorem power_true_down_69 (l : List UInt8) (S : ByteArray) (hS : S = ⟨(69 :: l).toArray⟩) (hsl : l.length ≤ 2000) (w : World) (hg : pwG l = true) (hd : Lib.hasPrefix l [45] = true) :
    Calls Tryz.prog 57 #[.string S] w (RetIB w (if pwG l = true then pwV l else 0) (pwG l)) := by
  obtain ⟨T, T6, hne, hz, hS0, h0, hx, zT, z6, HP1, HP2, DG, AT, A6, A6', hdn, hq, hn2⟩ := power_pre 69 l S hS hsl
  rw [hg]
  unfold RetIB pwV
  rw [hd] at HP1 A6 A6' ⊢
  rw [hg] at hq
  obtain ⟨n, hn⟩ : ∃ n, n = dgN (pwT l) := ⟨_, rfl⟩
  obtain ⟨lq, hlq⟩ : ∃ lq, lq = (pwT l).length := ⟨_, rfl⟩
  obtain ⟨ll, hll⟩ : ∃ ll, ll = l.length := ⟨_, rfl⟩
  rw [← hn] at DG hq hn2
  rw [← hlq] at hq z6 hn2
  rw [← hll] at hz hx zT A6 hsl
  replace h0 : ((S[0]'hS0).toNat : Int) = 69 := h0
  have B : Hid (Below w.heap.size w w) := Lib.hid (Below.refl _ _)
  obtain ⟨hx1, hx2⟩ := A6.out rfl
  clear A6'
  simp only [Bool.not_eq_true', Bool.not_eq_false', Bool.or_eq_true, Bool.or_eq_false_iff, decide_eq_true_eq, decide_eq_false_iff_not, Bool.not_eq_false] at hq
  obtain ⟨⟨q1, q2⟩, q3⟩ := hq
  subst q3
  have k1 : ((n : Int) == 0) = false := by rw [beq_eq_false_iff_ne]; omega
  have k2 : (n : Int) ≤ 6 := by omega
  have hd1 := hdn.out hg
  obtain ⟨dn, hdn2⟩ : ∃ dn, dn = dcN 0 (pwT l) := ⟨_, rfl⟩
  rw [← hdn2] at AT hd1 ⊢
  replace AT := Lib.hid (fun w' => AT.out w' hg)
  have hw1 : IntKind.i64.wrap (-(dn : Int)) = -(dn : Int) := IntWalk.i64_in _ (by omega)
  clear hdn hdn2
  clear hS hg hd hn hlq hll
  simp only [Bool.false_eq_true, if_true, if_false]
  go_enter Tryz.func57, Tryz.ntmps57
  go_wp2_with fail
  refine (HP1.out _).mono ?_
  rintro e w1 ⟨rfl, rfl⟩
  go_wp2_with fail
  refine (DG.out _).mono ?_
  rintro e w1 ⟨rfl, hb1⟩
  replace B : Hid (Below w.heap.size w w1) := Lib.hid (bl_thru B.out (Nat.le_refl _) hb1)
  clear hb1
  go_wp2_with fail
  refine (AT.out _).mono ?_
  rintro e w2 ⟨rfl, hb1⟩
  replace B : Hid (Below w.heap.size w w2) := Lib.hid (bl_thru B.out (Nat.le_refl _) hb1)
  clear hb1
  go_wp2_with fail
  go_ret2
  exact ⟨rfl, B.out⟩
set_option maxRecDepth 100000 in
set_option maxHeartbeats 4000000 in
theorem power_true_up_101 (l : List UInt8) (S : ByteArray) (hS : S = ⟨(101 :: l).toArray⟩) (hsl : l.length ≤ 2000) (w : World) (hg : pwG l = true) (hd : Lib.hasPrefix l [45] = false) (hu : Lib.hasPrefix l [43] = true) :
    Calls Tryz.prog 57 #[.string S] w (RetIB w (if pwG l = true then pwV l else 0) (pwG l)) := by
  obtain ⟨T, T6, hne, hz, hS0, h0, hx, zT, z6, HP1, HP2, DG, AT, A6, A6', hdn, hq, hn2⟩ := power_pre 101 l S hS hsl
  rw [hg]
  unfold RetIB pwV
  rw [hd] at HP1 A6 A6' ⊢
  rw [hg] at hq
  rw [hu] at HP2 A6 A6'
  obtain ⟨n, hn⟩ : ∃ n, n = dgN (pwT l) := ⟨_, rfl⟩
  obtain ⟨lq, hlq⟩ : ∃ lq, lq = (pwT l).length := ⟨_, rfl⟩
  obtain ⟨ll, hll⟩ : ∃ ll, ll = l.length := ⟨_, rfl⟩
  rw [← hn] at DG hq hn2
  rw [← hlq] at hq z6 hn2
  rw [← hll] at hz hx zT A6 hsl
  replace h0 : ((S[0]'hS0).toNat : Int) = 101 := h0
  have B : Hid (Below w.heap.size w w) := Lib.hid (Below.refl _ _)
  obtain ⟨hx1, hx2⟩ := A6.out rfl
  clear A6'
  simp only [Bool.not_eq_true', Bool.not_eq_false', Bool.or_eq_true, Bool.or_eq_false_iff, decide_eq_true_eq, decide_eq_false_iff_not, Bool.not_eq_false] at hq
  obtain ⟨⟨q1, q2⟩, q3⟩ := hq
  subst q3
  have k1 : ((n : Int) == 0) = false := by rw [beq_eq_false_iff_ne]; omega
  have k2 : (n : Int) ≤ 6 := by omega
  have hd1 := hdn.out hg
  obtain ⟨dn, hdn2⟩ : ∃ dn, dn = dcN 0 (pwT l) := ⟨_, rfl⟩
  rw [← hdn2] at AT hd1 ⊢
  replace AT := Lib.hid (fun w' => AT.out w' hg)
  have hw1 : IntKind.i64.wrap (-(dn : Int)) = -(dn : Int) := IntWalk.i64_in _ (by omega)
  clear hdn hdn2
  clear hS hg hd hn hlq hll
  simp only [Bool.false_eq_true, if_true, if_false]
  go_enter Tryz.func57, Tryz.ntmps57
  go_wp2_with fail
  refine (HP1.out _).mono ?_
  rintro e w1 ⟨rfl, rfl⟩
  go_wp2_with fail
  refine (HP2.out _).mono ?_
  rintro e w1 ⟨rfl, rfl⟩
  go_wp2_with fail
  refine (DG.out _).mono ?_
  rintro e w1 ⟨rfl, hb1⟩
  replace B : Hid (Below w.heap.size w w1) := Lib.hid (bl_thru B.out (Nat.le_refl _) hb1)
  clear hb1
  go_wp2_with fail
  refine (AT.out _).mono ?_
  rintro e w2 ⟨rfl, hb1⟩
  replace B : Hid (Below w.heap.size w w2) := Lib.hid (bl_thru B.out (Nat.le_refl _) hb1)
  clear hb1
  go_wp2_with fail
  go_ret2
  exact ⟨rfl, B.out⟩
set_option maxRecDepth 100000 in
set_option maxHeartbeats 4000000 in
theorem power_true_up_69 (l : List UInt8) (S : ByteArray) (hS : S = ⟨(69 :: l).toArray⟩) (hsl : l.length ≤ 2000) (w : World) (hg : pwG l = true) (hd : Lib.hasPrefix l [45] = false) (hu : Lib.hasPrefix l [43] = true) :
    Calls Tryz.prog 57 #[.string S] w (RetIB w (if pwG l = true then pwV l else 0) (pwG l)) := by
  obtain ⟨T, T6, hne, hz, hS0, h0, hx, zT, z6, HP1, HP2, DG, AT, A6, A6', hdn, hq, hn2⟩ := power_pre 69 l S hS hsl
  rw [hg]
  unfold RetIB pwV
  rw [hd] at HP1 A6 A6' ⊢
  rw [hg] at hq
  rw [hu] at HP2 A6 A6'
  obtain ⟨n, hn⟩ : ∃ n, n = dgN (pwT l) := ⟨_, rfl⟩
  obtain ⟨lq, hlq⟩ : ∃ lq, lq = (pwT l).length := ⟨_, rfl⟩
  obtain ⟨ll, hll⟩ : ∃ ll, ll = l.length := ⟨_, rfl⟩
  rw [← hn] at DG hq hn2
  rw [← hlq] at hq z6 hn2
  rw [← hll] at hz hx zT A6 hsl
  replace h0 : ((S[0]'hS0).toNat : Int) = 69 := h0
  have B : Hid (Below w.heap.size w w) := Lib.hid (Below.refl _ _)
  obtain ⟨hx1, hx2⟩ := A6.out rfl
  clear A6'
  simp only [Bool.not_eq_true', Bool.not_eq_false', Bool.or_eq_true, Bool.or_eq_false_iff, decide_eq_true_eq, decide_eq_false_iff_not, Bool.not_eq_false] at hq
  obtain ⟨⟨q1, q2⟩, q3⟩ := hq
  subst q3
  have k1 : ((n : Int) == 0) = false := by rw [beq_eq_false_iff_ne]; omega
  have k2 : (n : Int) ≤ 6 := by omega
  have hd1 := hdn.out hg
  obtain ⟨dn, hdn2⟩ : ∃ dn, dn = dcN 0 (pwT l) := ⟨_, rfl⟩
  rw [← hdn2] at AT hd1 ⊢
  replace AT := Lib.hid (fun w' => AT.out w' hg)
  have hw1 : IntKind.i64.wrap (-(dn : Int)) = -(dn : Int) := IntWalk.i64_in _ (by omega)
  clear hdn hdn2
  clear hS hg hd hn hlq hll
  simp only [Bool.false_eq_true, if_true, if_false]
  go_enter Tryz.func57, Tryz.ntmps57
  go_wp2_with fail
  refine (HP1.out _).mono ?_
  rintro e w1 ⟨rfl, rfl⟩
  go_wp2_with fail
  refine (HP2.out _).mono ?_
  rintro e w1 ⟨rfl, rfl⟩
  go_wp2_with fail
  refine (DG.out _).mono ?_
  rintro e w1 ⟨rfl, hb1⟩
  replace B : Hid (Below w.heap.size w w1) := Lib.hid (bl_thru B.out (Nat.le_refl _) hb1)
  clear hb1
  go_wp2_with fail
  refine (AT.out _).mono ?_
  rintro e w2 ⟨rfl, hb1⟩
  replace B : Hid (Below w.heap.size w w2) := Lib.hid (bl_thru B.out (Nat.le_refl _) hb1)
  clear hb1
  go_wp2_with fail
  go_ret2
  exact ⟨rfl, B.out⟩
set_option maxRecDepth 100000 in
set_option maxHeartbeats 4000000 in
theorem power_true_none_101 (l : List UInt8) (S : ByteArray) (hS : S = ⟨(101 :: l).toArray⟩) (hsl : l.length ≤ 2000) (w : World) (hg : pwG l = true) (hd : Lib.hasPrefix l [45] = false) (hu : Lib.hasPrefix l [43] = false) :
    Calls Tryz.prog 57 #[.string S] w (RetIB w (if pwG l = true then pwV l else 0) (pwG l)) := by
  obtain ⟨T, T6, hne, hz, hS0, h0, hx, zT, z6, HP1, HP2, DG, AT, A6, A6', hdn, hq, hn2⟩ := power_pre 101 l S hS hsl
  rw [hg]
  unfold RetIB pwV
  rw [hd] at HP1 A6 A6' ⊢
  rw [hg] at hq
  rw [hu] at HP2 A6 A6'
  obtain ⟨n, hn⟩ : ∃ n, n = dgN (pwT l) := ⟨_, rfl⟩
  obtain ⟨lq, hlq⟩ : ∃ lq, lq = (pwT l).length := ⟨_, rfl⟩
  obtain ⟨ll, hll⟩ : ∃ ll, ll = l.length := ⟨_, rfl⟩
  rw [← hn] at DG hq hn2
  rw [← hlq] at hq z6 hn2
  rw [← hll] at hz hx zT A6 hsl
  replace h0 : ((S[0]'hS0).toNat : Int) = 101 := h0
  have B : Hid (Below w.heap.size w w) := Lib.hid (Below.refl _ _)
  obtain rfl := A6'.out rfl
  clear A6
  obtain rfl : lq = ll := z6.symm.trans zT
  simp only [Bool.not_eq_true', Bool.not_eq_false', Bool.or_eq_true, Bool.or_eq_false_iff, decide_eq_true_eq, decide_eq_false_iff_not, Bool.not_eq_false] at hq
  obtain ⟨⟨q1, q2⟩, q3⟩ := hq
  subst q3
  have k1 : ((n : Int) == 0) = false := by rw [beq_eq_false_iff_ne]; omega
  have k2 : (n : Int) ≤ 6 := by omega
  have hd1 := hdn.out hg
  obtain ⟨dn, hdn2⟩ : ∃ dn, dn = dcN 0 (pwT l) := ⟨_, rfl⟩
  rw [← hdn2] at AT hd1 ⊢
  replace AT := Lib.hid (fun w' => AT.out w' hg)
  have hw1 : IntKind.i64.wrap (-(dn : Int)) = -(dn : Int) := IntWalk.i64_in _ (by omega)
  clear hdn hdn2
  clear hS hg hd hn hlq hll
  simp only [Bool.false_eq_true, if_true, if_false]
  go_enter Tryz.func57, Tryz.ntmps57
  go_wp2_with fail
  refine (HP1.out _).mono ?_
  rintro e w1 ⟨rfl, rfl⟩
  go_wp2_with fail
  refine (HP2.out _).mono ?_
  rintro e w1 ⟨rfl, rfl⟩
  go_wp2_with fail
  refine (DG.out _).mono ?_
  rintro e w1 ⟨rfl, hb1⟩
  replace B : Hid (Below w.heap.size w w1) := Lib.hid (bl_thru B.out (Nat.le_refl _) hb1)
  clear hb1
  go_wp2_with fail
  refine (AT.out _).mono ?_
  rintro e w2 ⟨rfl, hb1⟩
  replace B : Hid (Below w.heap.size w w2) := Lib.hid (bl_thru B.out (Nat.le_refl _) hb1)
  clear hb1
  go_wp2_with fail
  go_ret2
  exact ⟨rfl, B.out⟩
set_option maxRecDepth 100000 in
set_option maxHeartbeats 4000000 in
theorem power_true_none_69 (l : List UInt8) (S : ByteArray) (hS : S = ⟨(69 :: l).toArray⟩) (hsl : l.length ≤ 2000) (w : World) (hg : pwG l = true) (hd : Lib.hasPrefix l [45] = false) (hu : Lib.hasPrefix l [43] = false) :
    Calls Tryz.prog 57 #[.string S] w (RetIB w (if pwG l = true then pwV l else 0) (pwG l)) := by
  obtain ⟨T, T6, hne, hz, hS0, h0, hx, zT, z6, HP1, HP2, DG, AT, A6, A6', hdn, hq, hn2⟩ := power_pre 69 l S hS hsl
  rw [hg]
  unfold RetIB pwV
  rw [hd] at HP1 A6 A6' ⊢
  rw [hg] at hq
  rw [hu] at HP2 A6 A6'
  obtain ⟨n, hn⟩ : ∃ n, n = dgN (pwT l) := ⟨_, rfl⟩
  obtain ⟨lq, hlq⟩ : ∃ lq, lq = (pwT l).length := ⟨_, rfl⟩
  obtain ⟨ll, hll⟩ : ∃ ll, ll = l.length := ⟨_, rfl⟩
  rw [← hn] at DG hq hn2
  rw [← hlq] at hq z6 hn2
  rw [← hll] at hz hx zT A6 hsl
  replace h0 : ((S[0]'hS0).toNat : Int) = 69 := h0
  have B : Hid (Below w.heap.size w w) := Lib.hid (Below.refl _ _)
  obtain rfl := A6'.out rfl
  clear A6
  obtain rfl : lq = ll := z6.symm.trans zT
  simp only [Bool.not_eq_true', Bool.not_eq_false', Bool.or_eq_true, Bool.or_eq_false_iff, decide_eq_true_eq, decide_eq_false_iff_not, Bool.not_eq_false] at hq
  obtain ⟨⟨q1, q2⟩, q3⟩ := hq
  subst q3
  have k1 : ((n : Int) == 0) = false := by rw [beq_eq_false_iff_ne]; omega
  have k2 : (n : Int) ≤ 6 := by omega
  have hd1 := hdn.out hg
  obtain ⟨dn, hdn2⟩ : ∃ dn, dn = dcN 0 (pwT l) := ⟨_, rfl⟩
  rw [← hdn2] at AT hd1 ⊢
  replace AT := Lib.hid (fun w' => AT.out w' hg)
  have hw1 : IntKind.i64.wrap (-(dn : Int)) = -(dn : Int) := IntWalk.i64_in _ (by omega)
  clear hdn hdn2
  clear hS hg hd hn hlq hll
  simp only [Bool.false_eq_true, if_true, if_false]
  go_enter Tryz.func57, Tryz.ntmps57
  go_wp2_with fail
  refine (HP1.out _).mono ?_
  rintro e w1 ⟨rfl, rfl⟩
  go_wp2_with fail
  refine (HP2.out _).mono ?_
  rintro e w1 ⟨rfl, rfl⟩
  go_wp2_with fail
  refine (DG.out _).mono ?_
  rintro e w1 ⟨rfl, hb1⟩
  replace B : Hid (Below w.heap.size w w1) := Lib.hid (bl_thru B.out (Nat.le_refl _) hb1)
  clear hb1
  go_wp2_with fail
  refine (AT.out _).mono ?_
  rintro e w2 ⟨rfl, hb1⟩
  replace B : Hid (Below w.heap.size w w2) := Lib.hid (bl_thru B.out (Nat.le_refl _) hb1)
  clear hb1
  go_wp2_with fail
  go_ret2
  exact ⟨rfl, B.out⟩
end Go.Proofs.YtofdjfdnckmmmaaGreatDoor

/-
  THE WALK of read.power behind its letter: bad ones.
-/
namespace Go.Proofs.YtofdjfdnckmmmaaGreatDoor
open Go.RowKit Nt Fm Fl
-- printed by gen_rpow.py
set_option maxRecDepth 100000 in
set_option maxHeartbeats 4000000 in
theorem power_false_down_101 (l : List UInt8) (S : ByteArray) (hS : S = ⟨(101 :: l).toArray⟩) (hsl : l.length ≤ 2000) (w : World) (hg : pwG l = false) (hd : Lib.hasPrefix l [45] = true) :
    Calls Tryz.prog 57 #[.string S] w (RetIB w (if pwG l = true then pwV l else 0) (pwG l)) := by
  obtain ⟨T, T6, hne, hz, hS0, h0, hx, zT, z6, HP1, HP2, DG, AT, A6, A6', hdn, hq, hn2⟩ := power_pre 101 l S hS hsl
  rw [hg]
  unfold RetIB pwV
  rw [hd] at HP1 A6 A6' ⊢
  rw [hg] at hq
  obtain ⟨n, hn⟩ : ∃ n, n = dgN (pwT l) := ⟨_, rfl⟩
  obtain ⟨lq, hlq⟩ : ∃ lq, lq = (pwT l).length := ⟨_, rfl⟩
  obtain ⟨ll, hll⟩ : ∃ ll, ll = l.length := ⟨_, rfl⟩
  rw [← hn] at DG hq hn2
  rw [← hlq] at hq z6 hn2
  rw [← hll] at hz hx zT A6 hsl
  replace h0 : ((S[0]'hS0).toNat : Int) = 101 := h0
  have B : Hid (Below w.heap.size w w) := Lib.hid (Below.refl _ _)
  obtain ⟨hx1, hx2⟩ := A6.out rfl
  clear A6'
  simp only [Bool.not_eq_true', Bool.not_eq_false', Bool.or_eq_true, Bool.or_eq_false_iff, decide_eq_true_eq, decide_eq_false_iff_not, Bool.not_eq_false] at hq
  clear AT hdn
  have k1 : ((n : Int) == 0) = decide (n = 0) := by rw [Bool.eq_iff_iff]; simp
  clear hS hg hd hn hlq hll
  simp only [Bool.false_eq_true, if_true, if_false]
  go_enter Tryz.func57, Tryz.ntmps57
  go_wp2_with fail
  refine (HP1.out _).mono ?_
  rintro e w1 ⟨rfl, rfl⟩
  go_wp2_with fail
  refine (DG.out _).mono ?_
  rintro e w1 ⟨rfl, hb1⟩
  replace B : Hid (Below w.heap.size w w1) := Lib.hid (bl_thru B.out (Nat.le_refl _) hb1)
  clear hb1
  rcases (show n = 0 ∨ (n ≠ 0 ∧ 6 < n) ∨ (n ≠ 0 ∧ n ≤ 6 ∧ n ≠ lq) by omega) with q | ⟨q, q2⟩ | ⟨q, q2, q3⟩
  · subst q
    have k2 : (((0 : Nat) : Int) == 0) = true := rfl
    clear hq k1
    go_wp2_with fail
    go_ret2
    exact ⟨rfl, B.out⟩
  · have k2 : ((n : Int) == 0) = false := by rw [beq_eq_false_iff_ne]; omega
    have k3 : 6 < (n : Int) := by omega
    clear hq k1
    go_wp2_with fail
    go_ret2
    exact ⟨rfl, B.out⟩
  · have k2 : ((n : Int) == 0) = false := by rw [beq_eq_false_iff_ne]; omega
    have k3 : (n : Int) ≤ 6 := by omega
    have k4 : ((n : Int) != (lq : Int)) = true := by rw [bne_iff_ne]; omega
    clear hq k1
    go_wp2_with fail
    go_ret2
    exact ⟨rfl, B.out⟩
set_option maxRecDepth 100000 in
set_option maxHeartbeats 4000000 in
theorem power_false_down_69 (l : List UInt8) (S : ByteArray) (hS : S = ⟨(69 :: l).toArray⟩) (hsl : l.length ≤ 2000) (w : World) (hg : pwG l = false) (hd : Lib.hasPrefix l [45] = true) :
    Calls Tryz.prog 57 #[.string S] w (RetIB w (if pwG l = true then pwV l else 0) (pwG l)) := by
  obtain ⟨T, T6, hne, hz, hS0, h0, hx, zT, z6, HP1, HP2, DG, AT, A6, A6', hdn, hq, hn2⟩ := power_pre 69 l S hS hsl
  rw [hg]
  unfold RetIB pwV
  rw [hd] at HP1 A6 A6' ⊢
  rw [hg] at hq
  obtain ⟨n, hn⟩ : ∃ n, n = dgN (pwT l) := ⟨_, rfl⟩
  obtain ⟨lq, hlq⟩ : ∃ lq, lq = (pwT l).length := ⟨_, rfl⟩
  obtain ⟨ll, hll⟩ : ∃ ll, ll = l.length := ⟨_, rfl⟩
  rw [← hn] at DG hq hn2
  rw [← hlq] at hq z6 hn2
  rw [← hll] at hz hx zT A6 hsl
  replace h0 : ((S[0]'hS0).toNat : Int) = 69 := h0
  have B : Hid (Below w.heap.size w w) := Lib.hid (Below.refl _ _)
  obtain ⟨hx1, hx2⟩ := A6.out rfl
  clear A6'
  simp only [Bool.not_eq_true', Bool.not_eq_false', Bool.or_eq_true, Bool.or_eq_false_iff, decide_eq_true_eq, decide_eq_false_iff_not, Bool.not_eq_false] at hq
  clear AT hdn
  have k1 : ((n : Int) == 0) = decide (n = 0) := by rw [Bool.eq_iff_iff]; simp
  clear hS hg hd hn hlq hll
  simp only [Bool.false_eq_true, if_true, if_false]
  go_enter Tryz.func57, Tryz.ntmps57
  go_wp2_with fail
  refine (HP1.out _).mono ?_
  rintro e w1 ⟨rfl, rfl⟩
  go_wp2_with fail
  refine (DG.out _).mono ?_
  rintro e w1 ⟨rfl, hb1⟩
  replace B : Hid (Below w.heap.size w w1) := Lib.hid (bl_thru B.out (Nat.le_refl _) hb1)
  clear hb1
  rcases (show n = 0 ∨ (n ≠ 0 ∧ 6 < n) ∨ (n ≠ 0 ∧ n ≤ 6 ∧ n ≠ lq) by omega) with q | ⟨q, q2⟩ | ⟨q, q2, q3⟩
  · subst q
    have k2 : (((0 : Nat) : Int) == 0) = true := rfl
    clear hq k1
    go_wp2_with fail
    go_ret2
    exact ⟨rfl, B.out⟩
  · have k2 : ((n : Int) == 0) = false := by rw [beq_eq_false_iff_ne]; omega
    have k3 : 6 < (n : Int) := by omega
    clear hq k1
    go_wp2_with fail
    go_ret2
    exact ⟨rfl, B.out⟩
  · have k2 : ((n : Int) == 0) = false := by rw [beq_eq_false_iff_ne]; omega
    have k3 : (n : Int) ≤ 6 := by omega
    have k4 : ((n : Int) != (lq : Int)) = true := by rw [bne_iff_ne]; omega
    clear hq k1
    go_wp2_with fail
    go_ret2
    exact ⟨rfl, B.out⟩
set_option maxRecDepth 100000 in
set_option maxHeartbeats 4000000 in
theorem power_false_up_101 (l : List UInt8) (S : ByteArray) (hS : S = ⟨(101 :: l).toArray⟩) (hsl : l.length ≤ 2000) (w : World) (hg : pwG l = false) (hd : Lib.hasPrefix l [45] = false) (hu : Lib.hasPrefix l [43] = true) :
    Calls Tryz.prog 57 #[.string S] w (RetIB w (if pwG l = true then pwV l else 0) (pwG l)) := by
  obtain ⟨T, T6, hne, hz, hS0, h0, hx, zT, z6, HP1, HP2, DG, AT, A6, A6', hdn, hq, hn2⟩ := power_pre 101 l S hS hsl
  rw [hg]
  unfold RetIB pwV
  rw [hd] at HP1 A6 A6' ⊢
  rw [hg] at hq
  rw [hu] at HP2 A6 A6'
  obtain ⟨n, hn⟩ : ∃ n, n = dgN (pwT l) := ⟨_, rfl⟩
  obtain ⟨lq, hlq⟩ : ∃ lq, lq = (pwT l).length := ⟨_, rfl⟩
  obtain ⟨ll, hll⟩ : ∃ ll, ll = l.length := ⟨_, rfl⟩
  rw [← hn] at DG hq hn2
  rw [← hlq] at hq z6 hn2
  rw [← hll] at hz hx zT A6 hsl
  replace h0 : ((S[0]'hS0).toNat : Int) = 101 := h0
  have B : Hid (Below w.heap.size w w) := Lib.hid (Below.refl _ _)
  obtain ⟨hx1, hx2⟩ := A6.out rfl
  clear A6'
  simp only [Bool.not_eq_true', Bool.not_eq_false', Bool.or_eq_true, Bool.or_eq_false_iff, decide_eq_true_eq, decide_eq_false_iff_not, Bool.not_eq_false] at hq
  clear AT hdn
  have k1 : ((n : Int) == 0) = decide (n = 0) := by rw [Bool.eq_iff_iff]; simp
  clear hS hg hd hn hlq hll
  simp only [Bool.false_eq_true, if_true, if_false]
  go_enter Tryz.func57, Tryz.ntmps57
  go_wp2_with fail
  refine (HP1.out _).mono ?_
  rintro e w1 ⟨rfl, rfl⟩
  go_wp2_with fail
  refine (HP2.out _).mono ?_
  rintro e w1 ⟨rfl, rfl⟩
  go_wp2_with fail
  refine (DG.out _).mono ?_
  rintro e w1 ⟨rfl, hb1⟩
  replace B : Hid (Below w.heap.size w w1) := Lib.hid (bl_thru B.out (Nat.le_refl _) hb1)
  clear hb1
  rcases (show n = 0 ∨ (n ≠ 0 ∧ 6 < n) ∨ (n ≠ 0 ∧ n ≤ 6 ∧ n ≠ lq) by omega) with q | ⟨q, q2⟩ | ⟨q, q2, q3⟩
  · subst q
    have k2 : (((0 : Nat) : Int) == 0) = true := rfl
    clear hq k1
    go_wp2_with fail
    go_ret2
    exact ⟨rfl, B.out⟩
  · have k2 : ((n : Int) == 0) = false := by rw [beq_eq_false_iff_ne]; omega
    have k3 : 6 < (n : Int) := by omega
    clear hq k1
    go_wp2_with fail
    go_ret2
    exact ⟨rfl, B.out⟩
  · have k2 : ((n : Int) == 0) = false := by rw [beq_eq_false_iff_ne]; omega
    have k3 : (n : Int) ≤ 6 := by omega
    have k4 : ((n : Int) != (lq : Int)) = true := by rw [bne_iff_ne]; omega
    clear hq k1
    go_wp2_with fail
    go_ret2
    exact ⟨rfl, B.out⟩
set_option maxRecDepth 100000 in
set_option maxHeartbeats 4000000 in
theorem power_false_up_69 (l : List UInt8) (S : ByteArray) (hS : S = ⟨(69 :: l).toArray⟩) (hsl : l.length ≤ 2000) (w : World) (hg : pwG l = false) (hd : Lib.hasPrefix l [45] = false) (hu : Lib.hasPrefix l [43] = true) :
    Calls Tryz.prog 57 #[.string S] w (RetIB w (if pwG l = true then pwV l else 0) (pwG l)) := by
  obtain ⟨T, T6, hne, hz, hS0, h0, hx, zT, z6, HP1, HP2, DG, AT, A6, A6', hdn, hq, hn2⟩ := power_pre 69 l S hS hsl
  rw [hg]
  unfold RetIB pwV
  rw [hd] at HP1 A6 A6' ⊢
  rw [hg] at hq
  rw [hu] at HP2 A6 A6'
  obtain ⟨n, hn⟩ : ∃ n, n = dgN (pwT l) := ⟨_, rfl⟩
  obtain ⟨lq, hlq⟩ : ∃ lq, lq = (pwT l).length := ⟨_, rfl⟩
  obtain ⟨ll, hll⟩ : ∃ ll, ll = l.length := ⟨_, rfl⟩
  rw [← hn] at DG hq hn2
  rw [← hlq] at hq z6 hn2
  rw [← hll] at hz hx zT A6 hsl
  replace h0 : ((S[0]'hS0).toNat : Int) = 69 := h0
  have B : Hid (Below w.heap.size w w) := Lib.hid (Below.refl _ _)
  obtain ⟨hx1, hx2⟩ := A6.out rfl
  clear A6'
  simp only [Bool.not_eq_true', Bool.not_eq_false', Bool.or_eq_true, Bool.or_eq_false_iff, decide_eq_true_eq, decide_eq_false_iff_not, Bool.not_eq_false] at hq
  clear AT hdn
  have k1 : ((n : Int) == 0) = decide (n = 0) := by rw [Bool.eq_iff_iff]; simp
  clear hS hg hd hn hlq hll
  simp only [Bool.false_eq_true, if_true, if_false]
  go_enter Tryz.func57, Tryz.ntmps57
  go_wp2_with fail
  refine (HP1.out _).mono ?_
  rintro e w1 ⟨rfl, rfl⟩
  go_wp2_with fail
  refine (HP2.out _).mono ?_
  rintro e w1 ⟨rfl, rfl⟩
  go_wp2_with fail
  refine (DG.out _).mono ?_
  rintro e w1 ⟨rfl, hb1⟩
  replace B : Hid (Below w.heap.size w w1) := Lib.hid (bl_thru B.out (Nat.le_refl _) hb1)
  clear hb1
  rcases (show n = 0 ∨ (n ≠ 0 ∧ 6 < n) ∨ (n ≠ 0 ∧ n ≤ 6 ∧ n ≠ lq) by omega) with q | ⟨q, q2⟩ | ⟨q, q2, q3⟩
  · subst q
    have k2 : (((0 : Nat) : Int) == 0) = true := rfl
    clear hq k1
    go_wp2_with fail
    go_ret2
    exact ⟨rfl, B.out⟩
  · have k2 : ((n : Int) == 0) = false := by rw [beq_eq_false_iff_ne]; omega
    have k3 : 6 < (n : Int) := by omega
    clear hq k1
    go_wp2_with fail
    go_ret2
    exact ⟨rfl, B.out⟩
  · have k2 : ((n : Int) == 0) = false := by rw [beq_eq_false_iff_ne]; omega
    have k3 : (n : Int) ≤ 6 := by omega
    have k4 : ((n : Int) != (lq : Int)) = true := by rw [bne_iff_ne]; omega
    clear hq k1
    go_wp2_with fail
    go_ret2
    exact ⟨rfl, B.out⟩
set_option maxRecDepth 100000 in
set_option maxHeartbeats 4000000 in
theorem power_false_none_101 (l : List UInt8) (S : ByteArray) (hS : S = ⟨(101 :: l).toArray⟩) (hsl : l.length ≤ 2000) (w : World) (hg : pwG l = false) (hd : Lib.hasPrefix l [45] = false) (hu : Lib.hasPrefix l [43] = false) :
    Calls Tryz.prog 57 #[.string S] w (RetIB w (if pwG l = true then pwV l else 0) (pwG l)) := by
  obtain ⟨T, T6, hne, hz, hS0, h0, hx, zT, z6, HP1, HP2, DG, AT, A6, A6', hdn, hq, hn2⟩ := power_pre 101 l S hS hsl
  rw [hg]
  unfold RetIB pwV
  rw [hd] at HP1 A6 A6' ⊢
  rw [hg] at hq
  rw [hu] at HP2 A6 A6'
  obtain ⟨n, hn⟩ : ∃ n, n = dgN (pwT l) := ⟨_, rfl⟩
  obtain ⟨lq, hlq⟩ : ∃ lq, lq = (pwT l).length := ⟨_, rfl⟩
  obtain ⟨ll, hll⟩ : ∃ ll, ll = l.length := ⟨_, rfl⟩
  rw [← hn] at DG hq hn2
  rw [← hlq] at hq z6 hn2
  rw [← hll] at hz hx zT A6 hsl
  replace h0 : ((S[0]'hS0).toNat : Int) = 101 := h0
  have B : Hid (Below w.heap.size w w) := Lib.hid (Below.refl _ _)
  obtain rfl := A6'.out rfl
  clear A6
  obtain rfl : lq = ll := z6.symm.trans zT
  simp only [Bool.not_eq_true', Bool.not_eq_false', Bool.or_eq_true, Bool.or_eq_false_iff, decide_eq_true_eq, decide_eq_false_iff_not, Bool.not_eq_false] at hq
  clear AT hdn
  have k1 : ((n : Int) == 0) = decide (n = 0) := by rw [Bool.eq_iff_iff]; simp
  clear hS hg hd hn hlq hll
  simp only [Bool.false_eq_true, if_true, if_false]
  go_enter Tryz.func57, Tryz.ntmps57
  go_wp2_with fail
  refine (HP1.out _).mono ?_
  rintro e w1 ⟨rfl, rfl⟩
  go_wp2_with fail
  refine (HP2.out _).mono ?_
  rintro e w1 ⟨rfl, rfl⟩
  go_wp2_with fail
  refine (DG.out _).mono ?_
  rintro e w1 ⟨rfl, hb1⟩
  replace B : Hid (Below w.heap.size w w1) := Lib.hid (bl_thru B.out (Nat.le_refl _) hb1)
  clear hb1
  rcases (show n = 0 ∨ (n ≠ 0 ∧ 6 < n) ∨ (n ≠ 0 ∧ n ≤ 6 ∧ n ≠ lq) by omega) with q | ⟨q, q2⟩ | ⟨q, q2, q3⟩
  · subst q
    have k2 : (((0 : Nat) : Int) == 0) = true := rfl
    clear hq k1
    go_wp2_with fail
    go_ret2
    exact ⟨rfl, B.out⟩
  · have k2 : ((n : Int) == 0) = false := by rw [beq_eq_false_iff_ne]; omega
    have k3 : 6 < (n : Int) := by omega
    clear hq k1
    go_wp2_with fail
    go_ret2
    exact ⟨rfl, B.out⟩
  · have k2 : ((n : Int) == 0) = false := by rw [beq_eq_false_iff_ne]; omega
    have k3 : (n : Int) ≤ 6 := by omega
    have k4 : ((n : Int) != (lq : Int)) = true := by rw [bne_iff_ne]; omega
    clear hq k1
    go_wp2_with fail
    go_ret2
    exact ⟨rfl, B.out⟩
set_option maxRecDepth 100000 in
set_option maxHeartbeats 4000000 in
theorem power_false_none_69 (l : List UInt8) (S : ByteArray) (hS : S = ⟨(69 :: l).toArray⟩) (hsl : l.length ≤ 2000) (w : World) (hg : pwG l = false) (hd : Lib.hasPrefix l [45] = false) (hu : Lib.hasPrefix l [43] = false) :
    Calls Tryz.prog 57 #[.string S] w (RetIB w (if pwG l = true then pwV l else 0) (pwG l)) := by
  obtain ⟨T, T6, hne, hz, hS0, h0, hx, zT, z6, HP1, HP2, DG, AT, A6, A6', hdn, hq, hn2⟩ := power_pre 69 l S hS hsl
  rw [hg]
  unfold RetIB pwV
  rw [hd] at HP1 A6 A6' ⊢
  rw [hg] at hq
  rw [hu] at HP2 A6 A6'
  obtain ⟨n, hn⟩ : ∃ n, n = dgN (pwT l) := ⟨_, rfl⟩
  obtain ⟨lq, hlq⟩ : ∃ lq, lq = (pwT l).length := ⟨_, rfl⟩
  obtain ⟨ll, hll⟩ : ∃ ll, ll = l.length := ⟨_, rfl⟩
  rw [← hn] at DG hq hn2
  rw [← hlq] at hq z6 hn2
  rw [← hll] at hz hx zT A6 hsl
  replace h0 : ((S[0]'hS0).toNat : Int) = 69 := h0
  have B : Hid (Below w.heap.size w w) := Lib.hid (Below.refl _ _)
  obtain rfl := A6'.out rfl
  clear A6
  obtain rfl : lq = ll := z6.symm.trans zT
  simp only [Bool.not_eq_true', Bool.not_eq_false', Bool.or_eq_true, Bool.or_eq_false_iff, decide_eq_true_eq, decide_eq_false_iff_not, Bool.not_eq_false] at hq
  clear AT hdn
  have k1 : ((n : Int) == 0) = decide (n = 0) := by rw [Bool.eq_iff_iff]; simp
  clear hS hg hd hn hlq hll
  simp only [Bool.false_eq_true, if_true, if_false]
  go_enter Tryz.func57, Tryz.ntmps57
  go_wp2_with fail
  refine (HP1.out _).mono ?_
  rintro e w1 ⟨rfl, rfl⟩
  go_wp2_with fail
  refine (HP2.out _).mono ?_
  rintro e w1 ⟨rfl, rfl⟩
  go_wp2_with fail
  refine (DG.out _).mono ?_
  rintro e w1 ⟨rfl, hb1⟩
  replace B : Hid (Below w.heap.size w w1) := Lib.hid (bl_thru B.out (Nat.le_refl _) hb1)
  clear hb1
  rcases (show n = 0 ∨ (n ≠ 0 ∧ 6 < n) ∨ (n ≠ 0 ∧ n ≤ 6 ∧ n ≠ lq) by omega) with q | ⟨q, q2⟩ | ⟨q, q2, q3⟩
  · subst q
    have k2 : (((0 : Nat) : Int) == 0) = true := rfl
    clear hq k1
    go_wp2_with fail
    go_ret2
    exact ⟨rfl, B.out⟩
  · have k2 : ((n : Int) == 0) = false := by rw [beq_eq_false_iff_ne]; omega
    have k3 : 6 < (n : Int) := by omega
    clear hq k1
    go_wp2_with fail
    go_ret2
    exact ⟨rfl, B.out⟩
  · have k2 : ((n : Int) == 0) = false := by rw [beq_eq_false_iff_ne]; omega
    have k3 : (n : Int) ≤ 6 := by omega
    have k4 : ((n : Int) != (lq : Int)) = true := by rw [bne_iff_ne]; omega
    clear hq k1
    go_wp2_with fail
    go_ret2
    exact ⟨rfl, B.out⟩
end Go.Proofs.YtofdjfdnckmmmaaGreatDoor

/-
  THE WALKS of read.digits, read.power.
-/
namespace Go.Proofs.YtofdjfdnckmmmaaGreatDoor
open Go.RowKit Nt Fm Fl
-- (so far)
theorem power_one (l : List UInt8) (S : ByteArray) (c : UInt8) (hS : S = ⟨(c :: l).toArray⟩) (hc : c = 101 ∨ c = 69) (hsl : l.length ≤ 2000) (w : World) :
    Calls Tryz.prog 57 #[.string S] w (RetIB w (if pwG l = true then pwV l else 0) (pwG l)) := by
  rcases Bool.eq_false_or_eq_true (pwG l) with hg | hg
  · rcases Bool.eq_false_or_eq_true (Lib.hasPrefix l [45]) with hd | hd
    · rcases hc with rfl | rfl
      · exact power_true_down_101 l S hS hsl w hg hd
      · exact power_true_down_69 l S hS hsl w hg hd
    · rcases Bool.eq_false_or_eq_true (Lib.hasPrefix l [43]) with hu | hu
      · rcases hc with rfl | rfl
        · exact power_true_up_101 l S hS hsl w hg hd hu
        · exact power_true_up_69 l S hS hsl w hg hd hu
      · rcases hc with rfl | rfl
        · exact power_true_none_101 l S hS hsl w hg hd hu
        · exact power_true_none_69 l S hS hsl w hg hd hu
  · rcases Bool.eq_false_or_eq_true (Lib.hasPrefix l [45]) with hd | hd
    · rcases hc with rfl | rfl
      · exact power_false_down_101 l S hS hsl w hg hd
      · exact power_false_down_69 l S hS hsl w hg hd
    · rcases Bool.eq_false_or_eq_true (Lib.hasPrefix l [43]) with hu | hu
      · rcases hc with rfl | rfl
        · exact power_false_up_101 l S hS hsl w hg hd hu
        · exact power_false_up_69 l S hS hsl w hg hd hu
      · rcases hc with rfl | rfl
        · exact power_false_none_101 l S hS hsl w hg hd hu
        · exact power_false_none_69 l S hS hsl w hg hd hu
set_option maxHeartbeats 4000000 in
theorem rpower_any (e : List UInt8) (S : ByteArray) (hS : S = ⟨e.toArray⟩) (hsl : e.length ≤ 2000) (w : World) :
    Calls Tryz.prog 57 #[.string S] w (RetIB w (pwK e) (pwOK e)) := by
  cases e with
  | nil =>
    have hne : S.toList.isEmpty = true := by rw [empt _ _ hS]; rfl
    unfold RetIB pwK pwOK
    clear hS
    go_enter Tryz.func57, Tryz.ntmps57
    go_wp2
    go_ret2
    exact ⟨rfl, Below.refl _ _⟩
  | cons c l =>
    by_cases hc : c = 101 ∨ c = 69
    · have h := power_one l S c hS hc (by simp at hsl; omega) w
      have h1 : pwOK (c :: l) = pwG l := by
        unfold pwOK
        rcases hc with rfl | rfl
        · rfl
        · rfl
      have h2 : pwK (c :: l) = if pwG l = true then pwV l else 0 := by show (if pwOK (c :: l) = true then pwV l else 0) = _; rw [h1]
      rw [h1, h2]
      exact h
    · have hne : S.toList.isEmpty = false := by rw [empt _ _ hS]; rfl
      have hz : S.size = l.length + 1 := by rw [hS]; rfl
      have hS0 : 0 < S.size := by omega
      have h0 : ((S[0]'hS0).toNat : Int) = (c.toNat : Int) := by subst hS; rfl
      have h5 : pwOK (c :: l) = false := by
        show ((c == 101 || c == 69) && pwG l) = false
        have h1 : (c == 101) = false := by rw [beq_eq_false_iff_ne]; exact fun h => hc (Or.inl h)
        have h2 : (c == 69) = false := by rw [beq_eq_false_iff_ne]; exact fun h => hc (Or.inr h)
        rw [h1, h2]; rfl
      have h6 : pwK (c :: l) = 0 := by show (if pwOK (c :: l) = true then pwV l else 0) = _; rw [h5]; rfl
      obtain ⟨cz, hcz⟩ : ∃ cz : Int, cz = (c.toNat : Int) := ⟨_, rfl⟩
      rw [← hcz] at h0
      have h1 : (cz != 101) = true := by
        rw [bne_iff_ne]; intro h; exact hc (Or.inl (UInt8.toNat_inj.1 (by rw [show (101 : UInt8).toNat = 101 from rfl]; omega)))
      have h2 : (cz != 69) = true := by
        rw [bne_iff_ne]; intro h; exact hc (Or.inr (UInt8.toNat_inj.1 (by rw [show (69 : UInt8).toNat = 69 from rfl]; omega)))
      rw [h5, h6]
      unfold RetIB
      clear hS hc h5 h6 hcz hsl
      go_enter Tryz.func57, Tryz.ntmps57
      go_wp2
      all_goals first
        | (go_ret2; exact ⟨rfl, Below.refl _ _⟩; done)
        | (exfalso; simp_all; done)
        | trace_state
end Go.Proofs.YtofdjfdnckmmmaaGreatDoor
