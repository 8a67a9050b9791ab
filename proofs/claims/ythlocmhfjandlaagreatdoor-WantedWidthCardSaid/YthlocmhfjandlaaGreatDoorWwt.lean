/-
  THE WALK of ulpkeep.WantedWidth.
-/
import Derived.Test.YthlocmhfjandlaaGreatDoorWls
import Derived.Test.YthlocmhfjandlaaGreatDoorTm
set_option linter.unusedVariables false
set_option linter.unusedSimpArgs false
namespace Go.Proofs.YthlocmhfjandlaaGreatDoor
open Go.RowKit Go.Lib Nt Fm Fl

set_option maxRecDepth 100000 in
set_option maxHeartbeats 8000000 in
theorem wwidth_t (v : Int) (mi pl bl ze al : Bool) (wd pr x E c : Int) (d0 : -9223372036854775808 ≤ wd) (d1 : wd ≤ 9223372036854775807) (c0 : 0 ≤ c) (c5 : c ≤ 5) (S T R U : ByteArray) (n t p u : Nat) (z1 : S.size = n) (z2 : T.size = t) (z3 : R.size = p) (z4 : U.size = u) (q1 : n ≤ 100000) (q2 : t ≤ 100000) (q3 : p ≤ 100000) (q4 : u ≤ 100000)
    (w : World) (hT : Tab w) (hT10 : Tab10 w)
    (F1 : Hid (∀ w' : World, Tab w' → Tab10 w' → Calls Tryz.prog 45 #[.agg #[.int .i64 v, .bool mi, .bool pl, .bool bl, .bool ze, .bool al, .int .i64 wd, .int .i64 pr], .int .u64 x] w' fun e w2 => e = .returned (.tuple #[.string S, .int .i64 E]) ∧ Below w'.heap.size w' w2))
    (F2 : Hid (E = 0 → ∀ w' : World, Tab w' → Tab10 w' → Calls Tryz.prog 45 #[.agg #[.int .i64 v, .bool mi, .bool pl, .bool bl, .bool ze, .bool al, .int .i64 0, .int .i64 pr], .int .u64 x] w' fun e w2 => e = .returned (.tuple #[.string T, .int .i64 0]) ∧ Below w'.heap.size w' w2))
    (CL : Hid (∀ w' : World, Calls Tryz.prog 24 #[.int .u64 x] w' fun e w2 => e = .returned (.int .i64 c) ∧ w' = w2))
    (RP : Hid (∀ X (w' : World), X = (p : Int) → Calls Tryz.prog 51 #[.string ⟨#[32]⟩, .int .i64 X] w' fun e w2 => e = .returned (.string R) ∧ Below w'.heap.size w' w2))
    (TR : Hid (∀ w' : World, Calls Tryz.prog 38 #[.string S, .string ⟨#[32]⟩] w' fun e w2 => e = .returned (.string U) ∧ Below w'.heap.size w' w2))
    (hc : (E = 1 ∧ S = ⟨#[]⟩) ∨ (E = 0 ∧ n = t + p ∧ ((n : Int) = max (t : Int) wd) ∧ (wd ≤ (t : Int) → S = T) ∧ wd ≤ 200 ∧ 0 ≤ wd ∧
      ((mi = true ∧ T ++ R = S) ∨ (mi = false ∧ ze = false ∧ R ++ T = S) ∨ (mi = false ∧ ze = true ∧ 4 ≤ c ∧ R ++ T = S) ∨ (mi = false ∧ ze = true ∧ ¬ 4 ≤ c ∧ bl = true) ∨ (mi = false ∧ ze = true ∧ ¬ 4 ≤ c ∧ bl = false ∧ U = S)))) :
    Calls Tryz.prog 12 #[.agg #[.int .i64 v, .bool mi, .bool pl, .bool bl, .bool ze, .bool al, .int .i64 wd, .int .i64 pr], .int .u64 x] w fun e w' => e = .returned (.bool true) ∧ Below w.heap.size w w' := by
  have LI := Lib.hid (fun w' h1 h2 => wantedLives_any w' h1 h2)
  have HT := Lib.hid hT
  have H10 := Lib.hid hT10
  clear hT hT10
  rcases hc with ⟨rfl, rfl⟩ | ⟨rfl, g1, g2, g3, g4, g5, hc⟩
  · go_enter Tryz.func12, Tryz.ntmps12
    go_wp2_with fail
    refine (F1.out _ (tab_al HT.out) (t10_al H10.out)).mono ?_
    rintro e w3 ⟨rfl, hb⟩
    have B : Hid (Below w.heap.size w w3) := Lib.hid (bl_thru ((Below.refl w.heap.size w).alloc (Nat.le_refl _) _) (Nat.le_refl _) hb)
    clear hb
    go_wp2_with (go_at_call 44; refine (LI.out _ (HT.out.below B.out) (H10.out.below B.out)).mono ?_; rintro e w9 ⟨rfl, hb⟩; replace B : Hid (Below w.heap.size w w9) := Lib.hid (bl_thru B.out (Nat.le_refl _) hb); clear hb)
    all_goals first
      | (go_ret; exact ⟨rfl, B.out⟩; done)
      | (exfalso; omega)
      | trace_state
  · have hwt : (wd ≤ (t : Int) ∧ S = T) ∨ ¬ wd ≤ (t : Int) := by
      by_cases h : wd ≤ (t : Int)
      · exact Or.inl ⟨h, g3 h⟩
      · exact Or.inr h
    have G1 := Lib.hid (⟨g1, g2⟩ : n = t + p ∧ ((n : Int) = max (t : Int) wd))
    clear g3 g1 g2
    rcases hwt with ⟨hw, hST⟩ | hw
    · have HST := Lib.hid (⟨hST, trivial⟩ : S = T ∧ True)
      have hq : (S.toList == T.toList) = true := by rw [hST]; simp
      clear hST
      rcases hc with ⟨rfl, h1⟩ | ⟨rfl, rfl, h1⟩ | ⟨rfl, rfl, hcc, h1⟩ | ⟨rfl, rfl, hcc, rfl⟩ | ⟨rfl, rfl, hcc, rfl, h1⟩
      all_goals
        go_enter Tryz.func12, Tryz.ntmps12
        go_wp2_with fail
        refine (F1.out _ (tab_al HT.out) (t10_al H10.out)).mono ?_
        rintro e w3 ⟨rfl, hb⟩
        have X := Lib.hid ((Bx8.new w _ _ _ _ _ _ _ _ _).below hb)
        have B : Hid (Below w.heap.size w w3) := Lib.hid (bl_thru ((Below.refl w.heap.size w).alloc (Nat.le_refl _) _) (Nat.le_refl _) hb)
        clear hb
        go_wp2_with fail
        refine (LI.out _ (HT.out.below B.out) (H10.out.below B.out)).mono ?_
        rintro e w4 ⟨rfl, hb⟩
        replace X := Lib.hid (X.out.below hb)
        replace B : Hid (Below w.heap.size w w4) := Lib.hid (bl_thru B.out (Nat.le_refl _) hb)
        clear hb
        obtain ⟨c0', c1, c2, c3, c4, c5', c6, c7⟩ := X.out.cells
        go_wp2_with fail
        refine (F2.out (by trivial) _ (tab_al (HT.out.below B.out)) (t10_al (H10.out.below B.out))).mono ?_
        rintro e w5 ⟨rfl, hb⟩
        replace X := Lib.hid (X.out.below (bl_thru ((Below.refl w4.heap.size w4).alloc (Nat.le_refl _) _) (Nat.le_refl _) hb))
        replace B : Hid (Below w.heap.size w w5) := Lib.hid (bl_thru (B.out.alloc B.out.size _) (Nat.le_refl _) hb)
        clear hb c0' c1 c2 c3 c4 c5' c6 c7
        obtain ⟨c0', c1, c2, c3, c4, c5', c6, c7⟩ := X.out.cells
        go_wp2_with (first
          | (go_at_call 51; refine (RP.out _ _ (by have := G1.out.1; omega)).mono ?_; rintro e w9 ⟨rfl, hb⟩; replace B := Lib.hid (bl_thru B.out (Nat.le_refl _) hb); clear hb)
          | (go_at_call 38; refine (TR.out _).mono ?_; rintro e w9 ⟨rfl, hb⟩; replace X := Lib.hid (X.out.below hb); replace B := Lib.hid (bl_thru B.out (Nat.le_refl _) hb); clear hb c0' c1 c2 c3 c4 c5' c6 c7; obtain ⟨c0', c1, c2, c3, c4, c5', c6, c7⟩ := X.out.cells)
          | (go_at_call 24; refine (CL.out _).mono ?_; rintro e w9 ⟨rfl, rfl⟩))
        all_goals first
          | (go_ret; exact ⟨rfl, B.out⟩; done)
          | (exfalso; omega)
          | (exfalso; have k1 := G1.out.1; have k2 := G1.out.2; omega)
          | (exfalso; rename_i hh; rcases hh with hh | hh <;> first | omega | (rw [hq] at hh; exact absurd hh (by decide)))
          | (exfalso; have k1 := G1.out.1; have k2 := G1.out.2; simp_all; omega)
          | (exfalso; simp_all; done)
          | (exfalso; simp_all; omega)
          | trace_state
    · rcases hc with ⟨rfl, h1⟩ | ⟨rfl, rfl, h1⟩ | ⟨rfl, rfl, hcc, h1⟩ | ⟨rfl, rfl, hcc, rfl⟩ | ⟨rfl, rfl, hcc, rfl, h1⟩
      all_goals
        go_enter Tryz.func12, Tryz.ntmps12
        go_wp2_with fail
        refine (F1.out _ (tab_al HT.out) (t10_al H10.out)).mono ?_
        rintro e w3 ⟨rfl, hb⟩
        have X := Lib.hid ((Bx8.new w _ _ _ _ _ _ _ _ _).below hb)
        have B : Hid (Below w.heap.size w w3) := Lib.hid (bl_thru ((Below.refl w.heap.size w).alloc (Nat.le_refl _) _) (Nat.le_refl _) hb)
        clear hb
        go_wp2_with fail
        refine (LI.out _ (HT.out.below B.out) (H10.out.below B.out)).mono ?_
        rintro e w4 ⟨rfl, hb⟩
        replace X := Lib.hid (X.out.below hb)
        replace B : Hid (Below w.heap.size w w4) := Lib.hid (bl_thru B.out (Nat.le_refl _) hb)
        clear hb
        obtain ⟨c0', c1, c2, c3, c4, c5', c6, c7⟩ := X.out.cells
        go_wp2_with fail
        refine (F2.out (by trivial) _ (tab_al (HT.out.below B.out)) (t10_al (H10.out.below B.out))).mono ?_
        rintro e w5 ⟨rfl, hb⟩
        replace X := Lib.hid (X.out.below (bl_thru ((Below.refl w4.heap.size w4).alloc (Nat.le_refl _) _) (Nat.le_refl _) hb))
        replace B : Hid (Below w.heap.size w w5) := Lib.hid (bl_thru (B.out.alloc B.out.size _) (Nat.le_refl _) hb)
        clear hb c0' c1 c2 c3 c4 c5' c6 c7
        obtain ⟨c0', c1, c2, c3, c4, c5', c6, c7⟩ := X.out.cells
        go_wp2_with (first
          | (go_at_call 51; refine (RP.out _ _ (by have := G1.out.1; omega)).mono ?_; rintro e w9 ⟨rfl, hb⟩; replace B := Lib.hid (bl_thru B.out (Nat.le_refl _) hb); clear hb)
          | (go_at_call 38; refine (TR.out _).mono ?_; rintro e w9 ⟨rfl, hb⟩; replace X := Lib.hid (X.out.below hb); replace B := Lib.hid (bl_thru B.out (Nat.le_refl _) hb); clear hb c0' c1 c2 c3 c4 c5' c6 c7; obtain ⟨c0', c1, c2, c3, c4, c5', c6, c7⟩ := X.out.cells)
          | (go_at_call 24; refine (CL.out _).mono ?_; rintro e w9 ⟨rfl, rfl⟩))
        all_goals first
          | (go_ret; exact ⟨rfl, B.out⟩; done)
          | (exfalso; omega)
          | (exfalso; have k1 := G1.out.1; have k2 := G1.out.2; omega)
          | (exfalso; rename_i hh; rcases hh with hh | hh <;> first | omega | (rw [hq] at hh; exact absurd hh (by decide)))
          | (exfalso; have k1 := G1.out.1; have k2 := G1.out.2; simp_all; omega)
          | (exfalso; simp_all; done)
          | (exfalso; simp_all; omega)
          | trace_state
end Go.Proofs.YthlocmhfjandlaaGreatDoor
