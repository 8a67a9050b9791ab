/-
  THE WALK of nat.digit: one digit of a long division.
-/
import Derived.Test.YtofdjfdnckmmmaaGreatDoorNs
import Derived.Test.YtofdjfdnckmmmaaGreatDoorQd
set_option linter.unusedVariables false
set_option linter.unusedSimpArgs false
namespace Go.Proofs.YtofdjfdnckmmmaaGreatDoor
open Go.RowKit Nt

/-- but for one block all is as it was -/
structure Kp (g : Nat) (w w' : World) : Prop where
  os : w'.os = w.os
  tape : w'.tape = w.tape
  output : w'.output = w.output
  size : w'.heap.size = w.heap.size
  block : ∀ k, k ≠ g → w'.heap[k]? = w.heap[k]?
theorem Kp.refl (g : Nat) (w : World) : Kp g w w := ⟨rfl, rfl, rfl, rfl, fun _ _ => rfl⟩
theorem Kp.trans {g : Nat} {a b c : World} (h : Kp g a b) (k : Kp g b c) : Kp g a c := ⟨k.os.trans h.os, k.tape.trans h.tape, k.output.trans h.output, k.size.trans h.size, fun i hi => (k.block i hi).trans (h.block i hi)⟩
theorem Kp.drewN {g n : Nat} {w w' : World} (h : Kp g w w') : Kp g w (w'.drewN n) := ⟨h.os, h.tape, h.output, h.size, h.block⟩
theorem Kp.of_drewN {g n : Nat} {w w' : World} (h : Kp g (w.drewN n) w') : Kp g w w' := ⟨h.os, h.tape, h.output, h.size, h.block⟩
theorem Kp.below {g B : Nat} {w w' : World} (h : Kp g w w') (hB : B ≤ g) : Below B w w' := ⟨h.os, h.tape, h.output, Nat.le_of_eq h.size.symm, fun k hk => h.block k (by omega)⟩
theorem Kp.cell {g : Nat} {w w' : World} (h : Kp g w w') (b o : Nat) (hb : b ≠ g) : w'.cell? ⟨b, o, none⟩ = w.cell? ⟨b, o, none⟩ := by
  have h1 : Below 0 w w' := h.below (Nat.zero_le _)
  unfold World.cell?
  rw [h.block b hb]
theorem Kp.setCell {g o : Nat} {w w' : World} (h : Kp g w w') (v : Value) : Kp g w (w'.setCell ⟨g, o, none⟩ v) :=
  h.trans ⟨rfl, rfl, rfl, by simp [World.setCell], fun k hk => Below.heap_setCell _ _ _ _ (by first | exact hk | exact Ne.symm hk | omega)⟩

theorem getD_mid (A u C : List Nat) (i : Nat) (h : i < u.length) : (A ++ (u ++ C)).getD (A.length + i) 0 = u.getD i 0 := by
  simp [List.getD, List.getElem?_append_right, List.getElem?_append_left h]
theorem set_mid (A u C : List Nat) (i d : Nat) (h : i < u.length) : (A ++ (u ++ C)).set (A.length + i) d = A ++ (u.set i d ++ C) := by
  rw [List.set_append_right _ _ (by omega), Nat.add_sub_cancel_left, List.set_append_left _ _ h]
theorem own_mid {w : World} {base g n cap j : Nat} {A u C : List Nat} (h : w.ownsRow base 102 1 (.slice (some ⟨g, 0, none⟩) n cap) n (lc (A ++ (u ++ C)))) (hA : A.length = j) (i : Nat) (hi : i < u.length) :
    w.cell? ⟨g, j + i, none⟩ = some (.int .u32 ((u.getD i 0 : Nat) : Int)) ∧ w.frozen? ⟨g, j + i, none⟩ = false := by
  subst hA
  have hn : (A ++ (u ++ C)).length = n := by have := h.1; rw [lc_length] at this; omega
  rw [List.length_append, List.length_append] at hn
  have := own_cell h (A.length + i) (by omega)
  rwa [getD_mid A u C i hi] at this
theorem own_mid_store {w : World} {base g n cap j : Nat} {A u C : List Nat} (h : w.ownsRow base 102 1 (.slice (some ⟨g, 0, none⟩) n cap) n (lc (A ++ (u ++ C)))) (hA : A.length = j) (i d : Nat) (hi : i < u.length) {X : Int} (hX : X = (d : Int)) :
    (w.setCell ⟨g, j + i, none⟩ (.int .u32 X)).ownsRow base 102 1 (.slice (some ⟨g, 0, none⟩) n cap) n (lc (A ++ (u.set i d ++ C))) := by
  subst hA
  have := own_store h (A.length + i) d hX
  rwa [set_mid A u C i d hi] at this

theorem take_set_succ {u : List Nat} {i d : Nat} (h : i < u.length) : (u.set i d).take (i + 1) = u.take i ++ [d] := by
  rw [List.take_succ_eq_append_getElem (by simpa using h), List.take_set_of_le (Nat.le_refl _)]
  simp
theorem take_set_same {u : List Nat} {i d : Nat} : (u.set i d).drop (i + 1) = u.drop (i + 1) := List.drop_set_of_lt (by omega)
theorem val_take_getD (v : List Nat) (i : Nat) : val (v.take (i + 1)) = val (v.take i) + 2 ^ (32 * i) * v.getD i 0 := by
  by_cases h : i < v.length
  · rw [val_take_succ v i h]; simp [List.getD, h]
  · rw [List.take_of_length_le (by omega), List.take_of_length_le (by omega)]
    simp [List.getD, List.getElem?_eq_none (Nat.le_of_not_lt h)]
theorem getD_of_drop {u u' : List Nat} {i : Nat} (h : u'.drop i = u.drop i) : u'.getD i 0 = u.getD i 0 := by
  have := congrArg (fun l => l.getD 0 0) h
  simpa [List.getD] using this

/-- what is subtracted, below limb i -/
def SubRel (u v : List Nat) (g i c bo : Nat) (u' : List Nat) : Prop :=
  u'.length = u.length ∧ Lims u' ∧ c < 4294967296 ∧ bo ≤ 1 ∧ u'.drop i = u.drop i ∧ (v.length < i → c = 0) ∧
    val (u'.take i) + g * val (v.take i) = val (u.take i) + 2 ^ (32 * i) * (bo + c)
theorem SubRel.start {u v : List Nat} (g : Nat) (hu : Lims u) : SubRel u v g 0 0 0 u := ⟨rfl, hu, by decide, by decide, rfl, fun _ => rfl, by simp [val]⟩
theorem SubRel.step {u v u' : List Nat} {g i c bo C ui vi ui' bo' : Nat} (h : SubRel u v g i c bo u') (hi : i < u.length) (hv : Lims v) (hg : g < 4294967296) (hui : ui = u'.getD i 0) (hvi : vi = v.getD i 0) (hC : C = c + g * vi)
    (hx : ui' + C % 4294967296 + bo = ui + 4294967296 * bo') (hu' : ui' < 4294967296) (hb' : bo' ≤ 1) : SubRel u v g (i + 1) (C / 4294967296) bo' (u'.set i ui') := by
  obtain ⟨h1, h2, h3, h4, h5, h6, h7⟩ := h
  have hv1 : vi < 4294967296 := by rw [hvi]; exact hv.getD i
  obtain ⟨-, hc'⟩ := Qd.carry_lt hC h3 hg hv1
  have hl := Qd.sub_limb hC rfl rfl hx
  refine ⟨by rw [List.length_set]; exact h1, lims_set h2 _ _ hu', hc', hb', ?_, ?_, ?_⟩
  · rw [take_set_same]
    have := congrArg (fun l => l.drop 1) h5
    simpa [List.drop_drop] using this
  · intro h0
    have : vi = 0 := by rw [hvi]; simp [List.getD, List.getElem?_eq_none (show v.length ≤ i by omega)]
    subst this
    rw [hC]; omega
  · rw [take_set_succ (by omega), val_snoc, List.length_take, Nat.min_eq_left (by omega), val_take_getD v, val_take_getD u, ← hvi, ← getD_of_drop h5, ← hui, pow32_succ]
    generalize 2 ^ (32 * i) = W at *
    have e : W * (bo + c + (ui' + g * vi)) = W * (ui + 4294967296 * (bo' + C / 4294967296)) := by rw [hl]
    generalize C / 4294967296 = c' at *
    simp only [Nat.mul_add, Nat.mul_left_comm g W] at *
    simp only [Nat.mul_assoc, Nat.mul_left_comm W 4294967296] at *
    omega
theorem SubRel.fin {u v u' : List Nat} {g c bo : Nat} (h : SubRel u v g u.length c bo u') (hl : u.length = v.length + 1) : val u' + g * val v = val u + 2 ^ (32 * u.length) * bo := by
  obtain ⟨h1, h2, h3, h4, h5, h6, h7⟩ := h
  rw [h6 (by omega), Nat.add_zero, List.take_of_length_le (by omega), List.take_of_length_le (by omega), List.take_of_length_le (by omega)] at h7
  exact h7
/-- what is added, below limb i -/
def AddRel (u v : List Nat) (i s : Nat) (u' : List Nat) : Prop :=
  u'.length = u.length ∧ Lims u' ∧ s ≤ 1 ∧ u'.drop i = u.drop i ∧ val (u'.take i) + 2 ^ (32 * i) * s = val (u.take i) + val (v.take i)
theorem AddRel.start {u v : List Nat} (hu : Lims u) : AddRel u v 0 0 u := ⟨rfl, hu, by decide, rfl, by simp [val]⟩
theorem AddRel.step {u v u' : List Nat} {i s ui vi S : Nat} (h : AddRel u v i s u') (hi : i < u.length) (hv : Lims v) (hui : ui = u'.getD i 0) (hvi : vi = v.getD i 0) (hS : S = s + ui + vi) : AddRel u v (i + 1) (S / 4294967296) (u'.set i (S % 4294967296)) := by
  obtain ⟨h1, h2, h3, h4, h5⟩ := h
  have hv1 : vi < 4294967296 := by rw [hvi]; exact hv.getD i
  have hu1 : ui < 4294967296 := by rw [hui]; exact h2.getD i
  refine ⟨by rw [List.length_set]; exact h1, lims_set h2 _ _ (Nat.mod_lt _ (by decide)), by omega, ?_, ?_⟩
  · rw [take_set_same]
    have := congrArg (fun l => l.drop 1) h4
    simpa [List.drop_drop] using this
  · rw [take_set_succ (by omega), val_snoc, List.length_take, Nat.min_eq_left (by omega), val_take_getD v, val_take_getD u, ← hvi, ← getD_of_drop h4, ← hui, pow32_succ]
    generalize 2 ^ (32 * i) = W at *
    have hdm := Nat.div_add_mod S 4294967296
    generalize S / 4294967296 = d at *
    generalize S % 4294967296 = r at *
    have e : W * (4294967296 * d + r) = W * (s + ui + vi) := by rw [hdm, hS]
    simp only [Nat.mul_add] at *
    simp only [Nat.mul_assoc, Nat.mul_left_comm W 4294967296] at *
    omega
theorem AddRel.fin {u v u' : List Nat} {s : Nat} (h : AddRel u v u.length s u') (hl : u.length = v.length + 1) : val u' + 2 ^ (32 * u.length) * s = val u + val v := by
  obtain ⟨h1, h2, h3, h4, h5⟩ := h
  rw [List.take_of_length_le (by omega), List.take_of_length_le (by omega), List.take_of_length_le (by omega)] at h5
  exact h5
theorem dat_of {u v : List Nat} {m : Nat} (hu : u.length = m + 3) (hv : v.length = m + 2) (hul : Lims u) (hvl : Lims v) (htop : 2147483648 ≤ v.getD (m + 1) 0) (hlt : val u < val v * 4294967296) :
    Qd.Dat (2 ^ (32 * m)) (val (u.take m)) (val (v.take m)) (u.getD m 0) (u.getD (m + 2) 0 * 4294967296 + u.getD (m + 1) 0) (v.getD m 0) (v.getD (m + 1) 0) (val u) (val v) := by
  have a1 := val_lt (hul.take m)
  have a2 := val_lt (hvl.take m)
  rw [List.length_take, Nat.min_eq_left (by omega)] at a1 a2
  refine ⟨Nat.two_pow_pos _, a1, a2, hul.getD m, hvl.getD m, htop, hvl.getD (m + 1), ?_, ?_, hlt⟩
  · have e := val_take_getD u (m + 2)
    rw [List.take_of_length_le (by omega), val_take_getD u (m + 1), val_take_getD u m, show m + 2 = (m + 1) + 1 from rfl, pow32_succ (m + 1), pow32_succ m] at e
    rw [e]
    generalize 2 ^ (32 * m) = W
    generalize u.getD m 0 = a
    generalize u.getD (m + 1) 0 = b
    generalize u.getD (m + 1 + 1) 0 = c
    simp only [Nat.mul_add]
    simp only [Nat.mul_assoc, Nat.mul_left_comm W 4294967296, Nat.mul_comm c]
    omega
  · have e := val_take_getD v (m + 1)
    rw [List.take_of_length_le (by omega), val_take_getD v m, pow32_succ m] at e
    rw [e]
    generalize 2 ^ (32 * m) = W
    simp only [Nat.mul_add]
    simp only [Nat.mul_assoc, Nat.mul_left_comm W 4294967296]
    omega
theorem and_32 (C : Nat) (h : C < 18446744073709551616) : bits .and .u64 (C : Int) 4294967295 = ((C % 4294967296 : Nat) : Int) := by
  rw [show (4294967295 : Int) = ((4294967295 : Nat) : Int) from rfl, bits_and_u64_nat _ _ h (by decide)]
  congr 1
  exact Nat.and_two_pow_sub_one_eq_mod C 32
/-- what is known of it at the entry -/
structure DigitIn (A u C v : List Nat) (m j : Nat) : Prop where
  hA : A.length = j
  hu : u.length = m + 3
  hv : v.length = m + 2
  ul : Lims u
  vl : Lims v
  top : 2147483648 ≤ v.getD (m + 1) 0
  lt : val u < val v * 4294967296
set_option maxRecDepth 100000 in
set_option maxHeartbeats 16000000 in
theorem digit_any (A u C v : List Nat) (m j g cu N cap base bv ov cv : Nat) (w : World) (HD : Hid (DigitIn A u C v m j))
    (HOWN : Hid (w.ownsRow base 102 1 (.slice (some ⟨g, 0, none⟩) N cap) N (lc (A ++ (u ++ C))))) (hcu : m + 3 ≤ cu) (hcum : cu ≤ 9223372036854775807) (hcv : m + 2 ≤ cv) (hcvm : cv ≤ 9223372036854775807) (hj : j ≤ 10000000000000)
    (hm : m ≤ 10000000000000) (hbg : bv ≠ g) (HC : Hid (∀ i, i < m + 2 → w.cell? ⟨bv, ov + i, none⟩ = some (.int .u32 ((v.getD i 0 : Nat) : Int)))) :
    Calls Tryz.prog 142 #[.slice (some ⟨g, j, none⟩) (m + 3) cu, .slice (some ⟨bv, ov, none⟩) (m + 2) cv] w fun e w' =>
      e = .returned (.int .u32 ((val u / val v : Nat) : Int)) ∧ Kp g w w' ∧ ∃ u', u'.length = m + 3 ∧ Lims u' ∧ val u' = val u % val v ∧ w'.ownsRow base 102 1 (.slice (some ⟨g, 0, none⟩) N cap) N (lc (A ++ (u' ++ C))) := by
  have DAT := Lib.hid (dat_of HD.out.hu HD.out.hv HD.out.ul HD.out.vl HD.out.top HD.out.lt)
  obtain ⟨u0, hu0⟩ : ∃ x, x = u.getD m 0 := ⟨_, rfl⟩
  obtain ⟨u1, hu1⟩ : ∃ x, x = u.getD (m + 1) 0 := ⟨_, rfl⟩
  obtain ⟨u2, hu2⟩ : ∃ x, x = u.getD (m + 2) 0 := ⟨_, rfl⟩
  obtain ⟨v0, hv0⟩ : ∃ x, x = v.getD m 0 := ⟨_, rfl⟩
  obtain ⟨v1, hv1⟩ : ∃ x, x = v.getD (m + 1) 0 := ⟨_, rfl⟩
  have bu0 : u0 < 4294967296 := by rw [hu0]; exact HD.out.ul.getD _
  have bu1 : u1 < 4294967296 := by rw [hu1]; exact HD.out.ul.getD _
  have bu2 : u2 < 4294967296 := by rw [hu2]; exact HD.out.ul.getD _
  have bv0 : v0 < 4294967296 := by rw [hv0]; exact HD.out.vl.getD _
  have bv1 : v1 < 4294967296 := by rw [hv1]; exact HD.out.vl.getD _
  have bv1' : 2147483648 ≤ v1 := by rw [hv1]; exact HD.out.top
  have ru : ∀ i, i < m + 3 → w.cell? ⟨g, j + i, none⟩ = some (.int .u32 ((u.getD i 0 : Nat) : Int)) := fun i hi => by
    exact (own_mid HOWN.out HD.out.hA i (by rw [HD.out.hu]; exact hi)).1
  have cu0 := ru m (by omega)
  have cu1 := ru (m + 1) (by omega)
  have cu2 := ru (m + 2) (by omega)
  have cv0 := HC.out m (by omega)
  have cv1 := HC.out (m + 1) (by omega)
  rw [← hu0] at cu0
  rw [← hu1] at cu1
  rw [← hu2] at cu2
  rw [← hv0] at cv0
  rw [← hv1] at cv1
  rw [← hu0, ← hu1, ← hu2, ← hv0, ← hv1] at DAT
  clear hu0 hu1 hu2 hv0 hv1 ru
  obtain ⟨T, hT⟩ : ∃ T, T = u2 * 4294967296 + u1 := ⟨_, rfl⟩
  rw [← hT] at DAT
  have bT : T < 18446744073709551616 := by rw [hT]; omega
  have eT : bits .or .u64 ((u2 : Int) * 4294967296) (u1 : Int) = (T : Int) := by rw [or_32 _ _ (by omega) (by omega) (by omega) (by omega), hT]; omega
  obtain ⟨d, hd⟩ : ∃ d, d = T / v1 := ⟨_, rfl⟩
  have ed : (T : Int) / (v1 : Int) = (d : Int) := by rw [hd]; exact (Int.natCast_ediv T v1).symm
  have bd : d ≤ 18446744073709551615 := by rw [hd]; exact Nat.le_trans (Nat.div_le_self _ _) (by omega)
  obtain ⟨g0, hg0⟩ : ∃ g0, g0 = min d 4294967295 := ⟨_, rfl⟩
  obtain ⟨st1, st2⟩ := Qd.start DAT.out
  rw [← hd, ← hg0] at st1 st2
  have bg0 : g0 ≤ 4294967295 := by omega
  have eg0 : (if (4294967295 : Int) < (d : Int) then (4294967295 : Int) else (d : Int)) = (g0 : Int) := by split <;> omega
  obtain ⟨p0, hp0⟩ : ∃ p, p = g0 * v1 := ⟨_, rfl⟩
  rw [← hp0] at st1 st2
  have ep0 : (g0 : Int) * (v1 : Int) = (p0 : Int) := by rw [hp0]; simp
  have ST := Lib.hid st1
  have bvz : ((v1 : Int) == 0) = false := by rw [beq_eq_false_iff_ne]; omega
  clear st1 hT hd hg0 hp0
  go_enter Tryz.func142, Tryz.ntmps142
  go_wp2
  go_quiet (fail)
  go_wp2
  go_loopw [7, 8] (fun gv rv wr => ∃ gg r k : Nat, gv = .int .u64 ((gg : Nat) : Int) ∧ rv = .int .u64 ((r : Nat) : Int) ∧ r ≤ 18446744073709551615 ∧ Hid (Qd.GRel T v1 (val u) (val v) gg r) ∧ wr = w.drewN k)
    (fun gv _ _ => (intOf gv).toNat)
  case atStart => exact ⟨g0, T - p0, _, rfl, by first | rfl | (congr 1; omega), by omega, ST, rfl⟩
  case round =>
    obtain ⟨gg, r, k, rfl, rfl, hr, HREL, rfl⟩ := hrel
    have hgg : gg ≤ 4294967295 := by have := HREL.out.2.1; omega
    obtain ⟨P, hP⟩ : ∃ P, P = gg * v0 := ⟨_, rfl⟩
    have eP : (gg : Int) * (v0 : Int) = (P : Int) := by rw [hP]; simp
    have bP : P ≤ 18446744065119617025 := by rw [hP]; exact (Nat.mul_le_mul (by omega) (by omega) : gg * v0 ≤ 4294967295 * 4294967295)
    by_cases hstep : r < 4294967296 ∧ r * 4294967296 + u0 < P
    · obtain ⟨hr1, hr2⟩ := hstep
      obtain ⟨S, hS⟩ : ∃ S, S = r * 4294967296 + u0 := ⟨_, rfl⟩
      rw [← hS] at hr2
      have eS : bits .or .u64 ((r : Int) * 4294967296) (u0 : Int) = (S : Int) := by rw [or_32 _ _ (by omega) (by omega) (by omega) (by omega), hS]; omega
      have d1 : decide ((r : Int) < 4294967296) = true := by simp; omega
      have d2 : decide ((S : Int) < (P : Int)) = true := by simp; omega
      have hgp : 1 ≤ gg := by
        rcases Nat.eq_zero_or_pos gg with h0 | h0
        · rw [h0, Nat.zero_mul] at hP; omega
        · exact h0
      have hgq : gg - 1 + 1 = gg := by omega
      have NEXT := Lib.hid (Qd.step DAT.out (g := gg - 1) (r := r) (by rw [hgq]; exact HREL.out) (by rw [hgq, ← hP, ← hS]; exact hr2))
      clear hS hP HREL hgq
      go_wp2
      go_quiet (fail)
      go_wp2
      go_roundw
      case rel => exact ⟨gg - 1, r + v1, _, by go_num, by go_num, by omega, NEXT, rfl⟩
      case measure => simp [intOf] <;> omega
    · have FIN := Lib.hid (Qd.exit DAT.out HREL.out (by omega))
      have hcase : 4294967296 ≤ r ∨ (r < 4294967296 ∧ P ≤ r * 4294967296 + u0) := by omega
      clear hP HREL hstep DAT
      rcases hcase with hr1 | ⟨hr1, hr2⟩
      case' inr =>
        obtain ⟨S, hS⟩ : ∃ S, S = r * 4294967296 + u0 := ⟨_, rfl⟩
        rw [← hS] at hr2
        have eS : bits .or .u64 ((r : Int) * 4294967296) (u0 : Int) = (S : Int) := by rw [or_32 _ _ (by omega) (by omega) (by omega) (by omega), hS]; omega
        have d1 : decide ((r : Int) < 4294967296) = true := by simp; omega
        have d2 : decide (S < P) = false := by simp; omega
        clear hS
        go_wp2
        go_quiet (fail)
        clear cu0 cu1 cu2 cv0 cv1 eT ed eg0 ep0 eP bvz eS bT bd bg0 st2 bP
        go_wp2
        clear d1 d2 hr1 hr2
      case' inl =>
        have d1 : decide ((r : Int) < 4294967296) = false := by simp; omega
        go_wp2
        go_quiet (fail)
        clear cu0 cu1 cu2 cv0 cv1 eT ed eg0 ep0 eP bvz bT bd bg0 st2 bP
        go_wp2
        clear d1 hr1
      all_goals
        go_loopw [9, 10, 83] (fun cr br iv wr => ∃ (i c bo : Nat) (u' : List Nat), i ≤ m + 3 ∧ iv = .int .i64 ((i : Nat) : Int) ∧ cr = .int .u64 ((c : Nat) : Int) ∧ br = .int .i64 ((bo : Nat) : Int) ∧ c < 4294967296 ∧ bo ≤ 1 ∧ Hid (SubRel u v gg i c bo u') ∧ Hid (Kp g w wr) ∧ Hid (wr.ownsRow base 102 1 (.slice (some ⟨g, 0, none⟩) N cap) N (lc (A ++ (u' ++ C)))))
          (fun _ _ iv _ => m + 3 - (intOf iv).toNat)
        case atStart => exact ⟨0, 0, 0, u, Nat.zero_le _, rfl, rfl, rfl, by decide, by decide, Lib.hid (SubRel.start gg HD.out.ul), Lib.hid (Kp.refl g w).drewN, HOWN.out⟩
        case round =>
          obtain ⟨i, c, bo, u', hi0, rfl, rfl, rfl, hc, hbo, REL, KP, OW⟩ := hrel
          by_cases hi : i < m + 3
          · obtain ⟨ui, hui⟩ : ∃ x, x = u'.getD i 0 := ⟨_, rfl⟩
            have bui : ui < 4294967296 := by rw [hui]; exact REL.out.2.1.getD i
            obtain ⟨cui, fui⟩ := own_mid OW.out HD.out.hA i (by rw [REL.out.1, HD.out.hu]; exact hi)
            rw [← hui] at cui
            obtain ⟨vi, hvi⟩ : ∃ x, x = v.getD i 0 := ⟨_, rfl⟩
            have bvi : vi < 4294967296 := by rw [hvi]; exact HD.out.vl.getD i
            obtain ⟨Q, hQ⟩ : ∃ Q, Q = gg * vi := ⟨_, rfl⟩
            have eQ : (gg : Int) * (vi : Int) = (Q : Int) := by rw [hQ]; simp
            have bQ : Q ≤ 18446744065119617025 := by rw [hQ]; exact (Nat.mul_le_mul (by omega) (by omega) : gg * vi ≤ 4294967295 * 4294967295)
            obtain ⟨C1, hC1⟩ : ∃ C1, C1 = c + gg * vi := ⟨_, rfl⟩
            have bC1 : C1 < 18446744073709551616 := by rw [hC1, ← hQ]; omega
            have eC : (c : Int) + (Q : Int) = (C1 : Int) := by rw [hC1, hQ]; simp
            obtain ⟨p, hp⟩ : ∃ p, p = C1 % 4294967296 := ⟨_, rfl⟩
            have bp : p < 4294967296 := by omega
            have ep : bits .and .u64 (C1 : Int) 4294967295 = (p : Int) := by rw [and_32 _ bC1, hp]
            obtain ⟨c1, hc1⟩ : ∃ c1, c1 = C1 / 4294967296 := ⟨_, rfl⟩
            have ec1 : (C1 : Int) / 4294967296 = (c1 : Int) := by omega
            have bc1 : c1 < 4294967296 := by rw [hc1]; omega
            have NEXT : Hid (∀ ui' bo', ui' + p + bo = ui + 4294967296 * bo' → ui' < 4294967296 → bo' ≤ 1 → SubRel u v gg (i + 1) c1 bo' (u'.set i ui')) := by
              intro ui' bo' a1 a2 a3
              rw [hc1]
              exact REL.out.step (by rw [HD.out.hu]; exact hi) HD.out.vl (by omega) hui hvi hC1 (by rw [← hp]; exact a1) a2 a3
            have KPN : Hid (∀ x, Kp g w (wr.setCell ⟨g, j + i, none⟩ x)) := fun x => KP.out.setCell x
            have OWN : Hid (∀ (d : Nat) (X : Int), X = (d : Int) → (wr.setCell ⟨g, j + i, none⟩ (.int .u32 X)).ownsRow base 102 1 (.slice (some ⟨g, 0, none⟩) N cap) N (lc (A ++ (u'.set i d ++ C)))) :=
              fun d X hX => own_mid_store OW.out HD.out.hA i d (by rw [REL.out.1, HD.out.hu]; exact hi) hX
            by_cases hiv : i < m + 2
            · have cvi := (KP.out.cell bv (ov + i) hbg).trans (HC.out i hiv)
              rw [← hvi] at cvi
              by_cases hx : ui < p + bo
              · clear hui hvi hQ hC1 hp hc1 REL
                go_wp2
                go_roundw
                case rel => exact ⟨i + 1, c1, 1, _, by omega, by go_num, by first | rfl | go_num, by first | rfl | go_num, bc1, by decide, NEXT.out (ui + 4294967296 - p - bo) 1 (by omega) (by omega) (by decide), KPN.out _, OWN.out _ _ (by omega)⟩
                case measure => simp [intOf] <;> omega
              · clear hui hvi hQ hC1 hp hc1 REL
                go_wp2
                go_roundw
                case rel => exact ⟨i + 1, c1, 0, _, by omega, by go_num, by first | rfl | go_num, by first | rfl | go_num, bc1, by decide, NEXT.out (ui - p - bo) 0 (by omega) (by omega) (by decide), KPN.out _, OWN.out _ _ (by omega)⟩
                case measure => simp [intOf] <;> omega
            · have hv0 : vi = 0 := by rw [hvi]; simp [List.getD, List.getElem?_eq_none (show v.length ≤ i by rw [HD.out.hv]; omega)]
              have hCc : C1 = c := by rw [hC1, hv0]; omega
              rw [hCc] at ep ec1
              by_cases hx : ui < p + bo
              · clear hui hvi hQ hC1 hp hc1 REL eC eQ hCc hv0
                go_wp2
                go_roundw
                case rel => exact ⟨i + 1, c1, 1, _, by omega, by go_num, by first | rfl | go_num, by first | rfl | go_num, bc1, by decide, NEXT.out (ui + 4294967296 - p - bo) 1 (by omega) (by omega) (by decide), KPN.out _, OWN.out _ _ (by omega)⟩
                case measure => simp [intOf] <;> omega
              · clear hui hvi hQ hC1 hp hc1 REL eC eQ hCc hv0
                go_wp2
                go_roundw
                case rel => exact ⟨i + 1, c1, 0, _, by omega, by go_num, by first | rfl | go_num, by first | rfl | go_num, bc1, by decide, NEXT.out (ui - p - bo) 0 (by omega) (by omega) (by decide), KPN.out _, OWN.out _ _ (by omega)⟩
                case measure => simp [intOf] <;> omega
          · obtain rfl : i = m + 3 := by omega
            have hfin := SubRel.fin (u := u) (v := v) (g := gg) (c := c) (bo := bo) (by rw [HD.out.hu]; exact REL.out) (by rw [HD.out.hu, HD.out.hv])
            have hWM := val_lt REL.out.2.1
            have hVM := val_lt HD.out.vl
            have hu' := REL.out.1
            rw [HD.out.hu] at hu'
            rw [hu'] at hWM
            rw [HD.out.hv] at hVM
            rw [HD.out.hu] at hfin
            have hul' := REL.out.2.1
            have hbo2 : bo = 0 ∨ bo = 1 := by omega
            rcases hbo2 with rfl | rfl
            · obtain ⟨q1, q2⟩ := Qd.done0 FIN.out (by omega)
              have Q1 := Lib.hid q1
              have Q2 := Lib.hid q2
              have HU := Lib.hid hu'
              have HL := Lib.hid hul'
              clear q1 q2 hu' hul' hfin hWM hVM REL
              go_wp2
              go_ret
              exact ⟨by rw [← Q1.out]; first | rfl | go_num, KP.out, u', HU.out, HL.out, Q2.out, OW.out⟩
            · have FF := Lib.hid hfin
              have WM := Lib.hid (And.intro hWM (Nat.lt_of_lt_of_le hVM (Nat.pow_le_pow_right (n := 2) (by decide) (show 32 * (m + 2) ≤ 32 * (m + 3) by omega))))
              have HU := Lib.hid hu'
              have HL := Lib.hid hul'
              clear hu' hul' hfin hWM hVM REL
              go_wp2
              clear hi hi0 hbo hc hr
              go_loopw [13, 127] (fun sr iv wr => ∃ (i s : Nat) (t : List Nat), i ≤ m + 3 ∧ iv = .int .i64 ((i : Nat) : Int) ∧ sr = .int .u64 ((s : Nat) : Int) ∧ s ≤ 1 ∧ Hid (AddRel u' v i s t) ∧ Hid (Kp g w wr) ∧ Hid (wr.ownsRow base 102 1 (.slice (some ⟨g, 0, none⟩) N cap) N (lc (A ++ (t ++ C)))))
                (fun _ iv _ => m + 3 - (intOf iv).toNat)
              case atStart => exact ⟨0, 0, u', Nat.zero_le _, rfl, rfl, by decide, Lib.hid (AddRel.start HL.out), KP, OW⟩
              case round =>
                clear KP OW
                obtain ⟨i, s, t, hi0, rfl, rfl, hs, REL, KP, OW⟩ := hrel
                by_cases hi : i < m + 3
                · obtain ⟨ui, hui⟩ : ∃ x, x = t.getD i 0 := ⟨_, rfl⟩
                  have bui : ui < 4294967296 := by rw [hui]; exact REL.out.2.1.getD i
                  obtain ⟨cui, fui⟩ := own_mid OW.out HD.out.hA i (by rw [REL.out.1, HU.out]; exact hi)
                  rw [← hui] at cui
                  obtain ⟨vi, hvi⟩ : ∃ x, x = v.getD i 0 := ⟨_, rfl⟩
                  have bvi : vi < 4294967296 := by rw [hvi]; exact HD.out.vl.getD i
                  obtain ⟨A1, hA1⟩ : ∃ A1, A1 = s + ui := ⟨_, rfl⟩
                  have eA : (s : Int) + (ui : Int) = (A1 : Int) := by omega
                  have bA : A1 ≤ 4294967296 := by omega
                  obtain ⟨S, hS⟩ : ∃ S, S = A1 + vi := ⟨_, rfl⟩
                  have eS : (A1 : Int) + (vi : Int) = (S : Int) := by omega
                  have bS : S ≤ 8589934591 := by omega
                  obtain ⟨s1, hs1⟩ : ∃ s1, s1 = S / 4294967296 := ⟨_, rfl⟩
                  have es1 : (S : Int) / 4294967296 = (s1 : Int) := by omega
                  have bs1 : s1 ≤ 1 := by omega
                  obtain ⟨x1, hx1⟩ : ∃ x1, x1 = S % 4294967296 := ⟨_, rfl⟩
                  have ex1 : (S : Int) % 4294967296 = (x1 : Int) := by omega
                  have NEXT : Hid (AddRel u' v (i + 1) s1 (t.set i x1)) := by
                    rw [hs1, hx1]
                    exact REL.out.step (by rw [HU.out]; exact hi) HD.out.vl hui hvi (by omega)
                  have KPN : Hid (∀ x, Kp g w (wr.setCell ⟨g, j + i, none⟩ x)) := fun x => KP.out.setCell x
                  have OWN : Hid (∀ (X : Int), X = (x1 : Int) → (wr.setCell ⟨g, j + i, none⟩ (.int .u32 X)).ownsRow base 102 1 (.slice (some ⟨g, 0, none⟩) N cap) N (lc (A ++ (t.set i x1 ++ C)))) :=
                    fun X hX => own_mid_store OW.out HD.out.hA i x1 (by rw [REL.out.1, HU.out]; exact hi) hX
                  by_cases hiv : i < m + 2
                  · have cvi := (KP.out.cell bv (ov + i) hbg).trans (HC.out i hiv)
                    rw [← hvi] at cvi
                    clear hui hvi REL hA1 hS hs1 hx1
                    go_wp2
                    go_roundw
                    case rel => exact ⟨i + 1, s1, _, by omega, by go_num, by first | rfl | go_num, bs1, NEXT, KPN.out _, OWN.out _ (by first | rfl | omega)⟩
                    case measure => simp [intOf] <;> omega
                  · have hv0 : vi = 0 := by rw [hvi]; simp [List.getD, List.getElem?_eq_none (show v.length ≤ i by rw [HD.out.hv]; omega)]
                    have hSA : S = A1 := by omega
                    subst hSA
                    clear hui hvi REL hA1 hS hs1 hx1 hv0 eS
                    go_wp2
                    go_roundw
                    case rel => exact ⟨i + 1, s1, _, by omega, by go_num, by first | rfl | go_num, bs1, NEXT, KPN.out _, OWN.out _ (by first | rfl | omega)⟩
                    case measure => simp [intOf] <;> omega
                · obtain rfl : i = m + 3 := by omega
                  have hfin := AddRel.fin (u := u') (v := v) (s := s) (by rw [HU.out]; exact REL.out) (by rw [HU.out, HD.out.hv])
                  have hwm := val_lt REL.out.2.1
                  have ht := REL.out.1
                  rw [HU.out] at ht
                  rw [ht] at hwm
                  rw [HU.out] at hfin
                  obtain ⟨q1, q2, q3⟩ := Qd.done1 FIN.out (by have := FF.out; omega) WM.out.1 WM.out.2 hfin hwm
                  have Q2 := Lib.hid q2
                  have Q3 := Lib.hid q3
                  have HT := Lib.hid ht
                  have HTL := Lib.hid REL.out.2.1
                  clear q2 q3 ht hfin hwm REL
                  go_wp2
                  go_ret
                  exact ⟨by rw [← Q2.out]; go_num, KP.out, t, HT.out, HTL.out, Q3.out, OW.out⟩
end Go.Proofs.YtofdjfdnckmmmaaGreatDoor
