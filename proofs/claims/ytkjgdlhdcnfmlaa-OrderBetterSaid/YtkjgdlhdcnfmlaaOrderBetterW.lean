/-
  THE WALK of the law OrderBetter.
-/
import Derived.Test.YtkjgdlhdcnfmlaaOrderLives
namespace Go.Proofs.Ytkjgdlhdcnfmlaa
open Go.RowKit Fl

theorem cls_nan : fcls 9221120237041090560 = 5 := by decide
theorem onan_iff (x y : Int) : onan x y = true ↔ fcls x = 5 ∨ fcls y = 5 := by unfold onan; simp
/-- the lesser one for the sign s by the keys -/
theorem oleast_form (x y s : Int) : oleast x y s = if fcls x = 5 ∨ fcls y = 5 then 9221120237041090560 else if otot x y * s ≤ 0 then x else y := by
  unfold oleast
  by_cases h : fcls x = 5 ∨ fcls y = 5
  · rw [if_pos h, if_pos ((onan_iff x y).2 h)]
  · rw [if_neg h, if_neg (fun h2 => h ((onan_iff x y).1 h2))]
theorem oleast_cls {x y s : Int} : fcls (oleast x y s) = 5 ↔ fcls x = 5 ∨ fcls y = 5 := by
  rw [oleast_form]
  by_cases h : fcls x = 5 ∨ fcls y = 5
  · rw [if_pos h]; exact ⟨fun _ => h, fun _ => cls_nan⟩
  · rw [if_neg h]; split <;> simp [h] <;> omega
theorem otot_mul {x y s : Int} (hs : s = 1 ∨ s = -1) : (otot x y * s ≤ 0) ↔ okey x * s ≤ okey y * s := by
  unfold otot sgnc; rcases hs with rfl | rfl <;> omega
theorem oleast_comm {x y s : Int} (hs : s = 1 ∨ s = -1) (h0 : 0 ≤ x) (h1 : x ≤ 18446744073709551615) (y0 : 0 ≤ y) (y1 : y ≤ 18446744073709551615) : oleast y x s = oleast x y s := by
  rw [oleast_form, oleast_form]
  by_cases h : fcls x = 5 ∨ fcls y = 5
  · rw [if_pos h, if_pos (by omega)]
  · rw [if_neg h, if_neg (by omega)]
    have a := @otot_mul x y s hs
    have b := @otot_mul y x s hs
    have k := okey_inj h0 h1 y0 y1
    by_cases c : okey x * s ≤ okey y * s <;> by_cases d : okey y * s ≤ okey x * s
    · rw [if_pos (a.2 c), if_pos (b.2 d)]; exact (k (by rcases hs with rfl | rfl <;> omega)).symm
    · rw [if_pos (a.2 c), if_neg (fun h => d (b.1 h))]
    · rw [if_neg (fun h => c (a.1 h)), if_pos (b.2 d)]
    · omega
theorem oleast_assoc {x y z s : Int} (hs : s = 1 ∨ s = -1) (h0 : 0 ≤ x) (h1 : x ≤ 18446744073709551615) (y0 : 0 ≤ y) (y1 : y ≤ 18446744073709551615) (z0 : 0 ≤ z) (z1 : z ≤ 18446744073709551615) :
    oleast (oleast x y s) z s = oleast x (oleast y z s) s := by
  by_cases h : fcls x = 5 ∨ fcls y = 5 ∨ fcls z = 5
  · have e1 : fcls (oleast x y s) = 5 ∨ fcls z = 5 := by rw [oleast_cls]; omega
    have e2 : fcls x = 5 ∨ fcls (oleast y z s) = 5 := by rw [oleast_cls]; omega
    rw [oleast_form (oleast x y s), if_pos e1, oleast_form x (oleast y z s), if_pos e2]
  · have e1 : ¬ (fcls (oleast x y s) = 5 ∨ fcls z = 5) := by rw [oleast_cls]; omega
    have e2 : ¬ (fcls x = 5 ∨ fcls (oleast y z s) = 5) := by rw [oleast_cls]; omega
    rw [oleast_form (oleast x y s), if_neg e1, oleast_form x (oleast y z s), if_neg e2]
    have f1 : oleast x y s = if otot x y * s ≤ 0 then x else y := by rw [oleast_form, if_neg (by omega)]
    have f2 : oleast y z s = if otot y z * s ≤ 0 then y else z := by rw [oleast_form, if_neg (by omega)]
    have a := @otot_mul x y s hs
    have b := @otot_mul y z s hs
    have c := @otot_mul x z s hs
    have k := okey_inj h0 h1 z0 z1
    by_cases ca : okey x * s ≤ okey y * s <;> by_cases cb : okey y * s ≤ okey z * s <;> by_cases cc : okey x * s ≤ okey z * s
    all_goals
      first | rw [if_pos (a.2 ca)] at f1 | rw [if_neg (fun h => ca (a.1 h))] at f1
      first | rw [if_pos (b.2 cb)] at f2 | rw [if_neg (fun h => cb (b.1 h))] at f2
      rw [f1, f2]
      try rw [if_pos (a.2 ca)]
      try rw [if_neg (fun h => ca (a.1 h))]
      try rw [if_pos (b.2 cb)]
      try rw [if_neg (fun h => cb (b.1 h))]
      try rw [if_pos (c.2 cc)]
      try rw [if_neg (fun h => cc (c.1 h))]
      try omega
/-- both are there -/
theorem better_ways {x y : Int} (h0 : 0 ≤ x) (h1 : x ≤ 18446744073709551615) (y0 : 0 ≤ y) (y1 : y ≤ 18446744073709551615) :
    (oleast x y 1 = 9221120237041090560 ∧ oleast x y (-1) = 9221120237041090560) ∨
    (oleast x y 1 = x ∧ oleast x y (-1) = y ∧ (x == 9221120237041090560) = false) ∨
    (oleast x y 1 = y ∧ oleast x y (-1) = x ∧ (y == 9221120237041090560) = false ∧ (y == x) = false) := by
  by_cases h : fcls x = 5 ∨ fcls y = 5
  · left; rw [oleast_form, if_pos h, oleast_form, if_pos h]; exact ⟨rfl, rfl⟩
  · right
    have hx : (x == 9221120237041090560) = false := by rw [beq_eq_false_iff_ne]; intro e; subst e; exact h (Or.inl cls_nan)
    have hy : (y == 9221120237041090560) = false := by rw [beq_eq_false_iff_ne]; intro e; subst e; exact h (Or.inr cls_nan)
    rw [oleast_form, if_neg h, oleast_form, if_neg h]
    have a := @otot_mul x y 1 (by omega)
    have b := @otot_mul x y (-1) (by omega)
    have k := okey_inj h0 h1 y0 y1
    by_cases c : okey x ≤ okey y <;> by_cases d : okey y ≤ okey x
    · left
      have e := k (by omega)
      subst e
      simp [hx]
    · left; rw [if_pos (a.2 (by omega)), if_neg (fun h => by have := b.1 h; omega)]; exact ⟨rfl, rfl, hx⟩
    · right; rw [if_neg (fun h => by have := a.1 h; omega), if_pos (b.2 (by omega))]
      refine ⟨rfl, rfl, hy, ?_⟩
      rw [beq_eq_false_iff_ne]; intro e; subst e; omega
    · omega

set_option maxHeartbeats 2000000 in
theorem walkOrderBetter (x : Int) (h0 : 0 ≤ x) (h1 : x ≤ 18446744073709551615) (y : Int) (y0 : 0 ≤ y) (y1 : y ≤ 18446744073709551615) (z : Int) (z0 : 0 ≤ z) (z1 : z ≤ 18446744073709551615) (w : World) :
    Calls Try.prog 9 #[.int .u64 x, .int .u64 y, .int .u64 z] w fun e w' => e = .returned (.bool true) ∧ Below w.heap.size w w' := by
  have q1 := @oleast_comm x y 1 (by omega) h0 h1 y0 y1
  have q2 := @oleast_comm x y (-1) (by omega) h0 h1 y0 y1
  have q3 := (@oleast_assoc x y z 1 (by omega) h0 h1 y0 y1 z0 z1).symm
  have q4 := (@oleast_assoc x y z (-1) (by omega) h0 h1 y0 y1 z0 z1).symm
  have b1 := @oleast_bd x y 1 h0 h1 y0 y1
  have b2 := @oleast_bd x y (-1) h0 h1 y0 y1
  have b3 := @oleast_bd y z 1 y0 y1 z0 z1
  have b4 := @oleast_bd y z (-1) y0 y1 z0 z1
  have hw := better_ways h0 h1 y0 y1
  generalize hA : oleast x y 1 = A at *
  generalize hB : oleast x y (-1) = B at *
  rcases hw with ⟨c1, c2⟩ | ⟨c1, c2, c3⟩ | ⟨c1, c2, c3, c4⟩
  all_goals
    subst c1 c2
    go_enter Try.func9, Try.ntmps9
    go_wp2_with (first
      | (go_at_call 23; refine (orderLives_any _).mono ?_; rintro e w' ⟨rfl, rfl⟩)
      | (go_at_call 25; refine (min_any _ _ (by omega) (by omega) (by omega) (by omega) _).mono ?_; rintro e w' ⟨rfl, rfl⟩)
      | (go_at_call 26; refine (max_any _ _ (by omega) (by omega) (by omega) (by omega) _).mono ?_; rintro e w' ⟨rfl, rfl⟩))
    all_goals (go_ret; exact ⟨rfl, Below.refl _ _⟩)
end Go.Proofs.Ytkjgdlhdcnfmlaa
