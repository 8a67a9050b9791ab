/-
  THE WALK of the law ReadForms, joined.
-/
import Derived.Test.YthlocmhfjandlaaDoorRfw
set_option linter.unusedVariables false
set_option linter.unusedSimpArgs false
namespace Go.Proofs.YthlocmhfjandlaaDoor
open Go.RowKit Nt Fm Fl

theorem rf_num {s : List UInt8} {S : ByteArray} (hS : S = ⟨s.toArray⟩) {mode x e : Int} {c : Bool} (h1 : readE s mode = e) (h2 : readV s mode = x) (h3 : readC s mode = c) :
    Hid (∀ w' : World, Tab w' → Calls Tryd.prog 34 #[.string S, .int .i64 mode] w' fun en w2 => en = .returned (.tuple #[.int .u64 x, .bool c, .int .i64 e]) ∧ Below w'.heap.size w' w2) :=
  Lib.hid (fun w' h => by
    have := rnumber_any s S hS mode w' h
    unfold RetUBE at this
    rw [h1, h2, h3] at this
    exact this)
theorem rf_neg {x : Int} (x0 : 0 ≤ x) (x1 : x < 9223372036854775808) :
    Hid (∀ w' : World, Calls Tryd.prog 27 #[.int .u64 x] w' fun e w2 => e = .returned (.int .u64 (x + 9223372036854775808)) ∧ w' = w2) :=
  Lib.hid (fun w' => by
    have := neg_any x x0 (by omega) w'
    unfold fneg at this
    rw [if_neg (by omega)] at this
    exact this)
theorem rf_ten_text {s : List UInt8} {D : ByteArray} (hD : D = ⟨(rDig s).toArray⟩) {m : Nat} {c : UInt8} (hm : (rExp s - 1).natAbs = m) (hc : c = if rExp s - 1 < 0 then 45 else 43) :
    ((D ++ ⟨#[48, 101]⟩) ++ ⟨#[c]⟩) ++ ⟨(e4 m).toArray⟩ = ⟨(tenT s).toArray⟩ := by
  subst hD hm hc
  apply ByteArray.ext
  unfold tenT
  simp
theorem rf_front {s : List UInt8} {S : ByteArray} (hS : S = ⟨s.toArray⟩) : (⟨#[48, 48]⟩ : ByteArray) ++ S = ⟨(48 :: 48 :: s).toArray⟩ ∧ (⟨#[45]⟩ : ByteArray) ++ S = ⟨(45 :: s).toArray⟩ := by
  subst hS
  constructor <;> (apply ByteArray.ext; simp)
theorem rf_parse {s : List UInt8} {S : ByteArray} (hS : S = ⟨s.toArray⟩) {neg : Bool} {D : ByteArray} {k er : Int} (h1 : er = rErr s) (h2 : neg = if rErr s = 0 then rNeg s else false) (h3 : D = ⟨(if rErr s = 0 then rDig s else []).toArray⟩) (h4 : k = if rErr s = 0 then rExp s else 0) :
    Hid (∀ w' : World, Calls Tryd.prog 32 #[.string S] w' fun e w2 => e = .returned (.tuple #[.bool neg, .string D, .int .i64 k, .int .i64 er]) ∧ Below w'.heap.size w' w2) :=
  Lib.hid (fun w' => by
    have := rparse_any (rpc_self s) S hS w'
    subst h1 h2 h3 h4
    exact this)
set_option maxRecDepth 100000 in
theorem walkReadForms (S : ByteArray) (mode : Int) (mode0 : -9223372036854775808 ≤ mode) (mode1 : mode ≤ 9223372036854775807) (w : World) (hT : Tab w) (hT10 : Tab10 w) (zs : S.size ≤ 140737488355328) :
    Calls Tryd.prog 10 #[.string S, .int .i64 mode] w fun e w' => e = .returned (.bool true) ∧ Below w.heap.size w w' := by
  obtain ⟨s, hs⟩ : ∃ s, s = S.data.toList := ⟨_, rfl⟩
  have hS : S = ⟨s.toArray⟩ := by rw [hs]
  have zS : S.size = s.length := by rw [hS]; rfl
  obtain ⟨d1, d2, d3⟩ := rdig_spec s
  obtain ⟨f1, f2⟩ := rf_front hS
  by_cases hg : rErr s = 0 ∧ rNeg s = false ∧ s.length ≤ 900 ∧ -9000 ≤ rExp s ∧ rExp s ≤ 9000
  · obtain ⟨he, hneg, hl, k0, k1⟩ := hg
    obtain ⟨D, hD⟩ : ∃ D : ByteArray, D = ⟨(rDig s).toArray⟩ := ⟨_, rfl⟩
    have zD : D.size = (rDig s).length := by rw [hD]; rfl
    have PA := rf_parse (s := s) hS (neg := false) (D := D) (k := rExp s) (er := 0) he.symm (by rw [if_pos he, hneg]) (by rw [if_pos he, hD]) (by rw [if_pos he])
    by_cases hk : knownB mode = true
    · obtain ⟨v1, v2, v3⟩ := rf_val hneg he mode hk
      obtain ⟨b0, b1, b2⟩ := rf_low hneg he mode hk
      obtain ⟨n1, n2, n3⟩ := rf_noughts hneg he hl mode hk
      obtain ⟨m1, m2, m3⟩ := rf_dashed hneg he hl mode hk
      have N1 := rf_num hS v1 rfl rfl (mode := mode)
      have N2 := rf_num f1 n1 n2 n3 (mode := mode)
      have N3 := rf_num f2 m1 m2 m3 (mode := flipM mode)
      have NG := rf_neg b0 b1
      by_cases hd : rDig s = []
      · have hv := b2 hd
        have hD0 : D = ⟨#[]⟩ := by rw [hD, hd]
        rw [hD0] at PA
        rw [hv] at N1 N2 N3 NG
        by_cases h1 : mode = 1
        · subst h1
          exact rf_none_up S _ _ (rExp s) _ _ w hT (by omega) k0 k1 rfl rfl PA N1 N2 N3 NG
        · by_cases h2 : mode = 2
          · subst h2
            exact rf_none_down S _ _ (rExp s) _ _ w hT (by omega) k0 k1 rfl rfl PA N1 N2 N3 NG
          · have hf : flipM mode = mode := by unfold flipM; rw [if_neg h1, if_neg h2]
            rw [hf] at N3
            exact rf_none_else S _ _ mode (by rw [beq_eq_false_iff_ne]; exact h1) (by rw [beq_eq_false_iff_ne]; exact h2) (rExp s) _ _ w hT (by omega) k0 k1 rfl rfl PA N1 N2 N3 NG
      · obtain ⟨t1, t2, t3⟩ := rf_ten hneg he hl hd mode hk k0 k1
        have hD1 : D.toList.isEmpty = false := by
          rw [ByteArray.toList_eq, hD]
          cases h : rDig s with
          | nil => exact absurd h hd
          | cons a b => rfl
        have zT1 : (D ++ ⟨#[48, 101]⟩ : ByteArray).size ≤ 902 := by
          rw [ByteArray.size_append]
          have : (⟨#[48, 101]⟩ : ByteArray).size = 2 := rfl
          omega
        have zT2 : ∀ c : UInt8, ((D ++ ⟨#[48, 101]⟩ : ByteArray) ++ ⟨#[c]⟩).size ≤ 903 := by
          intro c
          rw [ByteArray.size_append]
          have : (⟨#[c]⟩ : ByteArray).size = 1 := rfl
          omega
        obtain ⟨m, hm⟩ : ∃ m, m = (rExp s - 1).natAbs := ⟨_, rfl⟩
        by_cases hp : rExp s - 1 < 0
        · have hx : rExp s = -(m : Int) + 1 := by omega
          have N4 := rf_num (rf_ten_text hD hm.symm (c := 45) (by rw [if_pos hp])) t1 t2 t3 (mode := mode)
          rw [hx] at PA
          by_cases h1 : mode = 1
          · subst h1
            exact rf_n_up S _ _ _ _ _ D m (by omega) (by omega) _ _ _ w hT (by omega) (by omega) hD1 (by omega) (by omega) rfl rfl rfl rfl rfl zT1 (zT2 45) PA N1 N2 N3 N4 NG
          · by_cases h2 : mode = 2
            · subst h2
              exact rf_n_down S _ _ _ _ _ D m (by omega) (by omega) _ _ _ w hT (by omega) (by omega) hD1 (by omega) (by omega) rfl rfl rfl rfl rfl zT1 (zT2 45) PA N1 N2 N3 N4 NG
            · have hf : flipM mode = mode := by unfold flipM; rw [if_neg h1, if_neg h2]
              rw [hf] at N3
              exact rf_n_else S _ _ _ _ _ mode (by rw [beq_eq_false_iff_ne]; exact h1) (by rw [beq_eq_false_iff_ne]; exact h2) D m (by omega) (by omega) _ _ _ w hT (by omega) (by omega) hD1 (by omega) (by omega) rfl rfl rfl rfl rfl zT1 (zT2 45) PA N1 N2 N3 N4 NG
        · have hx : rExp s = (m : Int) + 1 := by omega
          have N4 := rf_num (rf_ten_text hD hm.symm (c := 43) (by rw [if_neg hp])) t1 t2 t3 (mode := mode)
          rw [hx] at PA
          by_cases h1 : mode = 1
          · subst h1
            exact rf_p_up S _ _ _ _ _ D m (by omega) _ _ _ w hT (by omega) (by omega) hD1 (by omega) (by omega) rfl rfl rfl rfl rfl zT1 (zT2 43) PA N1 N2 N3 N4 NG
          · by_cases h2 : mode = 2
            · subst h2
              exact rf_p_down S _ _ _ _ _ D m (by omega) _ _ _ w hT (by omega) (by omega) hD1 (by omega) (by omega) rfl rfl rfl rfl rfl zT1 (zT2 43) PA N1 N2 N3 N4 NG
            · have hf : flipM mode = mode := by unfold flipM; rw [if_neg h1, if_neg h2]
              rw [hf] at N3
              exact rf_p_else S _ _ _ _ _ mode (by rw [beq_eq_false_iff_ne]; exact h1) (by rw [beq_eq_false_iff_ne]; exact h2) D m (by omega) _ _ _ w hT (by omega) (by omega) hD1 (by omega) (by omega) rfl rfl rfl rfl rfl zT1 (zT2 43) PA N1 N2 N3 N4 NG
    · have hk0 : knownB mode = false := by simpa using hk
      have h1 : mode ≠ 1 := fun h => hk (by rw [h]; decide)
      have h2 : mode ≠ 2 := fun h => hk (by rw [h]; decide)
      have N1 := rf_num hS (rf_bad s mode hk0) rfl rfl
      have N2 := rf_num f1 (rf_bad (48 :: 48 :: s) mode hk0) rfl rfl
      have N3 := rf_num f2 (rf_bad (45 :: s) mode hk0) rfl rfl
      exact rf_unknown S _ _ mode (by rw [beq_eq_false_iff_ne]; exact h1) (by rw [beq_eq_false_iff_ne]; exact h2) D (rExp s) _ _ _ _ _ _ w hT (by omega) (by omega) k0 k1 rfl rfl PA N1 N2 N3
  · have PA := rf_parse (s := s) hS rfl rfl rfl rfl
    refine rf_asks S mode _ _ _ _ w hT zs ?_ (Lib.hid ⟨trivial, ?_⟩) PA
    · show (if rErr s = 0 then rDig s else []).toArray.size ≤ 1000
      split
      · rename_i h
        have := (rErr_parts h).2.2
        simp; omega
      · simp
    · by_cases he : rErr s = 0
      · rw [if_pos he, if_pos he]
        cases hn : rNeg s
        · by_cases hl : s.length ≤ 900
          · by_cases k0 : -9000 ≤ rExp s
            · by_cases k1 : rExp s ≤ 9000
              · exact absurd ⟨he, hn, hl, k0, k1⟩ hg
              · exact Or.inr (Or.inr (Or.inr (Or.inr (Or.inr (by omega)))))
            · exact Or.inr (Or.inr (Or.inr (Or.inr (Or.inl (by omega)))))
          · exact Or.inr (Or.inr (Or.inl (by omega)))
        · exact Or.inr (Or.inl rfl)
      · exact Or.inl he
end Go.Proofs.YthlocmhfjandlaaDoor
