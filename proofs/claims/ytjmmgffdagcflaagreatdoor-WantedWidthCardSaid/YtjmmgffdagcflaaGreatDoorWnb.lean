/-
  PLAIN: no blank in what is told of a number.
-/
import Derived.Test.YtjmmgffdagcflaaGreatDoorWantedSignsW
set_option linter.unusedVariables false
set_option linter.unusedSimpArgs false
namespace Go.Proofs.YtjmmgffdagcflaaGreatDoor
open Go.RowKit Go.Lib Nt Fm Fl

/-- no byte is a blank -/
def Nb (l : List UInt8) : Prop := ∀ c ∈ l, c ≠ 32
theorem Nb.app {a b : List UInt8} (h : Nb a) (k : Nb b) : Nb (a ++ b) := by
  intro c hc
  rcases List.mem_append.1 hc with g | g
  · exact h c g
  · exact k c g
theorem Nb.rep (n : Nat) (b : UInt8) (h : b ≠ 32) : Nb (List.replicate n b) := by
  intro c hc
  rw [List.eq_of_mem_replicate hc]
  exact h
theorem Nb.sub {a b : List UInt8} (h : Nb b) (k : ∀ c ∈ a, c ∈ b) : Nb a := fun c hc => h c (k c hc)
theorem Nb.nil : Nb [] := fun c hc => absurd hc (by simp)
theorem Nb.cons {b : UInt8} {l : List UInt8} (h : b ≠ 32) (k : Nb l) : Nb (b :: l) := by
  intro c hc
  rcases List.mem_cons.1 hc with g | g
  · rw [g]; exact h
  · exact k c g
theorem Nb.dgt {l : List UInt8} (h : ∀ c ∈ l, dgt c) : Nb l := by
  intro c hc e
  have := (h c hc).1
  rw [e] at this
  exact absurd this (by decide)
theorem nb_dec (n : Nat) : Nb (Lib.decDigits n) := Nb.dgt (dec_dgt n)
theorem nb_pt {s : List UInt8} (h : Nb s) (p : Nat) : Nb (pt s p) := by
  unfold pt
  have k := (Nb.rep (p + 1 - s.length) 48 (by decide)).app h
  split
  · exact h
  · exact (k.sub (fun c hc => List.mem_of_mem_take hc)).app (Nb.cons (by decide) (k.sub (fun c hc => List.mem_of_mem_drop hc)))
theorem nb_sg (x : Int) : Nb (sgS x) := by unfold sgS; split; · exact Nb.cons (by decide) Nb.nil
                                           · exact Nb.nil
theorem nb_fx (x p m : Int) : Nb (fxS x p m) := by
  unfold fxS
  split
  · exact (nb_sg x).app (nb_pt (nb_dec _) _)
  · exact Nb.nil
theorem nb_dgS (q g : Nat) : Nb (dgS q g) := by
  unfold dgS
  split
  · exact (nb_dec q).sub (fun c hc => List.mem_of_mem_take hc)
  · exact nb_dec q
theorem nb_dgT (d : D) (g : Nat) (m : Int) : Nb (dgT d g m) := by
  unfold dgT
  split
  · exact Nb.rep _ _ (by decide)
  · exact nb_dgS _ _
theorem nb_pw (p : Int) : Nb (pwS p) := by
  unfold pwS
  refine Nb.cons (by split <;> decide) (Nb.app ?_ (nb_dec _))
  split
  · exact Nb.cons (by decide) Nb.nil
  · exact Nb.nil
theorem nb_sc (x g m : Int) : Nb (scS x g m) := by
  unfold scS
  split
  · unfold scT
    exact (nb_sg x).app ((nb_pt (nb_dgT _ _ _) _).app (Nb.app (Nb.cons (by decide) Nb.nil) (nb_pw _)))
  · exact Nb.nil
theorem nb_itoa (p : Int) : Nb (Lib.itoa p) := by
  unfold Lib.itoa
  split
  · exact Nb.cons (by decide) (nb_dec _)
  · exact nb_dec _
theorem nb_hexd : ∀ n : Fin 16, hexd n.val ≠ 32 := by decide
theorem nb_hxD (M : Nat) : ∀ k, Nb (hxD M k)
  | 0 => Nb.nil
  | k + 1 => by rw [hxD]; exact Nb.cons (nb_hexd ⟨_, Nat.mod_lt _ (by omega)⟩) (nb_hxD M k)
theorem nb_hxE (p : Int) : Nb (hxE p) := by
  unfold hxE
  refine Nb.app ?_ (nb_itoa p)
  split
  · exact Nb.cons (by decide) (Nb.cons (by decide) Nb.nil)
  · exact Nb.cons (by decide) Nb.nil
theorem nb_hxW (x : Int) (d : D) (n : Nat) : Nb (hxW x d n) := by
  unfold hxW
  refine Nb.app ?_ ?_
  · unfold hxP
    split
    · exact Nb.cons (by decide) (Nb.cons (by decide) (Nb.cons (by decide) Nb.nil))
    · exact Nb.cons (by decide) (Nb.cons (by decide) Nb.nil)
  · have h1 : Nb (if 0 < n then [46] ++ List.replicate n 48 else []) := by
      split
      · exact Nb.app (Nb.cons (by decide) Nb.nil) (Nb.rep _ _ (by decide))
      · exact Nb.nil
    have h2 : Nb (if 0 < n then [46] else []) := by
      split
      · exact Nb.cons (by decide) Nb.nil
      · exact Nb.nil
    split
    · exact ((Nb.cons (by decide) Nb.nil).app h1).app (Nb.cons (by decide) (Nb.cons (by decide) (Nb.cons (by decide) Nb.nil)))
    · exact (((Nb.cons (by decide) Nb.nil).app h2).app (nb_hxD _ _)).app (nb_hxE _)
theorem nb_wA {s : List UInt8} (h : Nb s) (c : UInt8) : Nb (wA c s) := h.sub (fun b hb => by rw [← wAB c s]; exact List.mem_append_left _ hb)
theorem nb_wB {s : List UInt8} (h : Nb s) (c : UInt8) : Nb (wB c s) := h.sub (fun b hb => by rw [← wAB c s]; exact List.mem_append_right _ hb)
theorem nb_ins {s : List UInt8} (h : Nb s) (c : UInt8) : Nb (wIns c s) := by
  unfold wIns
  exact ((nb_wA h c).app (Nb.cons (by decide) Nb.nil)).app (nb_wB h c)
theorem nb_cutM {m : List UInt8} (h : Nb m) : Nb (wCutM m) := by
  unfold wCutM Lib.trimSuffix Lib.trimRightB
  have h1 : Nb ((m.reverse.dropWhile (· == 48)).reverse) := h.sub (fun b hb => by
    have := (List.dropWhile_sublist (· == 48) (l := m.reverse)).subset (List.mem_reverse.1 hb)
    exact List.mem_reverse.1 this)
  split
  · split
    · exact h1.sub (fun b hb => List.mem_of_mem_take hb)
    · exact h1
  · exact h
theorem nb_cut {s : List UInt8} (h : Nb s) : Nb (wCut s) := (nb_cutM (nb_wA h 101)).app (nb_wB h 101)
theorem nb_gen (al : Bool) (x : Int) (g : Nat) : Nb (wGen al x g) := by
  have key : Nb (if -4 ≤ dgP (valD x) g 0 ∧ dgP (valD x) g 0 < (g : Int) then fxS x ((g : Int) - 1 - dgP (valD x) g 0) 0 else scS x g 0) := by
    split
    · exact nb_fx _ _ _
    · exact nb_sc _ _ _
  unfold wGen
  simp only
  split
  · exact key
  · exact nb_cut key
theorem nb_val {f : Spc} {y : Int} (hy : hasV y = true) : Nb (wVal f y) := by
  have h0 : Nb (wVal0 f y) := by
    have hc : fcls y ≠ 5 ∧ fcls y ≠ 4 := wf_fin (of_decide_eq_true hy)
    unfold wVal0
    split
    · exact nb_fx _ _ _
    split
    · exact nb_sc _ _ _
    split
    · exact nb_gen _ _ _
    split
    · unfold hxT
      rw [if_neg hc.1, if_neg hc.2]
      exact nb_hxW _ _ _
    · unfold hfS
      split
      · exact nb_hxW _ _ _
      · exact Nb.nil
  unfold wVal
  by_cases h : (f.al = true ∧ 46 ∉ wVal0 f y)
  · rw [if_pos h]; exact nb_ins h0 _
  · rw [if_neg h]; exact h0
theorem nb_body {f : Spc} {x : Int} : Nb (wBody f x) := by
  unfold wBody
  split
  · exact Nb.cons (by decide) (Nb.cons (by decide) (Nb.cons (by decide) Nb.nil))
  split
  · exact Nb.cons (by decide) (Nb.cons (by decide) (Nb.cons (by decide) Nb.nil))
  · rename_i h5 h4
    refine nb_val ?_
    unfold hasV
    refine decide_eq_true ?_
    have e : fabs (fabs x) = fabs x := by unfold fabs; omega
    rw [e]
    by_cases h1 : fabs x = 9218868437227405312
    · exact absurd (wf_c4 h1) h4
    · by_cases h2 : 9218868437227405312 < fabs x
      · exact absurd (wf_c5 h2) h5
      · omega
theorem trim_nb {l : List UInt8} (h : Nb l) : Lib.trimS l [32] = l := by
  have key : ∀ m : List UInt8, Nb m → m.dropWhile ([32].contains ·) = m := by
    intro m hm
    cases m with
    | nil => rfl
    | cons c m =>
      rw [List.dropWhile_cons_of_neg]
      have := hm c (by simp)
      simp [this]
  unfold Lib.trimS Lib.trimLeftS Lib.trimRightS
  have h2 : Nb l.reverse := h.sub (fun c hc => List.mem_reverse.1 hc)
  rw [key _ h2, List.reverse_reverse, key _ h]
end Go.Proofs.YtjmmgffdagcflaaGreatDoor
