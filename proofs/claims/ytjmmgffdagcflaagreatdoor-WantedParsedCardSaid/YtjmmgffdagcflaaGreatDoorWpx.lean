/-
  wanted.Parse: its contract.
-/
import Derived.Test.YtjmmgffdagcflaaGreatDoorWpw
set_option linter.unusedVariables false
set_option linter.unusedSimpArgs false
namespace Go.Proofs.YtjmmgffdagcflaaGreatDoor
open Go.RowKit Go.MapKept Go.ChangeMaps Nt Fm Fl

theorem wnN_le (s : List UInt8) : wnN s ≤ 100000 := wnF_le _ _ (by omega)
theorem wpR_le : ∀ (st : Fg) (l : List UInt8), (fpS st l).2.length ≤ l.length
  | st, [] => by obtain ⟨a, b, c, d, e⟩ := st; simp [fpS]
  | (mi, pl, bl, ze, al), c :: l => by
    simp only [fpS]
    have h := fun st => wpR_le st l
    repeat' split
    all_goals first
      | (refine Nat.le_trans (h _) ?_; simp)
      | exact Nat.le_refl _
theorem trimP_le (s p : List UInt8) : (Lib.trimPrefix s p).length ≤ s.length := by
  unfold Lib.trimPrefix
  split
  · simp
  · exact Nat.le_refl _
set_option maxRecDepth 100000 in
set_option maxHeartbeats 4000000 in
theorem wparse_no (S T : ByteArray) (w : World)
    (CP : Hid (∀ w' : World, Calls Tryz.prog 59 #[.string S, .string ⟨#[37]⟩] w' fun e w2 => e = .returned (.tuple #[.string T, .bool false]) ∧ w' = w2)) :
    Calls Tryz.prog 22 #[.string S] w fun e w' => e = .returned (.tuple #[spz.v, .int .i64 5]) ∧ Below w.heap.size w w' := by
  go_enter Tryz.func22, Tryz.ntmps22
  go_wp2_with (go_at_call 59; refine (CP.out _).mono ?_; rintro e w1 ⟨rfl, rfl⟩)
  first
    | (go_ret2; exact ⟨rfl, by go_grown⟩; done)
    | (refine bodyPost_ret (v := .tuple #[.agg #[.int .i64 0, .bool false, .bool false, .bool false, .bool false, .bool false, .int .i64 0, .int .i64 0], .int .i64 5]) (by simp [results, Tryz.results22, go_sem]) rfl ?_
       exact ⟨rfl, by go_grown⟩)
theorem vbB_ways (l : List UInt8) : (vbB l = true ∧ ∃ c, l = [c] ∧ 0 ≤ Lib.indexByte [101, 102, 103, 97] c) ∨ (vbB l = false ∧ (l.length ≠ 1 ∨ ∃ c, l = [c] ∧ Lib.indexByte [101, 102, 103, 97] c < 0)) := by
  have key : ∀ c : UInt8, (vbB [c] = true ∧ 0 ≤ Lib.indexByte [101, 102, 103, 97] c) ∨ (vbB [c] = false ∧ Lib.indexByte [101, 102, 103, 97] c < 0) := by
    intro c
    have h := w_has c [101, 102, 103, 97]
    by_cases g : c ∈ [101, 102, 103, 97]
    · rw [decide_eq_true g] at h
      refine Or.inl ⟨?_, of_decide_eq_true h⟩
      simp only [vbB]
      simp at g
      rcases g with rfl | rfl | rfl | rfl <;> rfl
    · rw [decide_eq_false g] at h
      have := of_decide_eq_false h
      refine Or.inr ⟨?_, by omega⟩
      simp only [vbB]
      simp at g
      simp [g]
  match l with
  | [] => exact Or.inr ⟨rfl, Or.inl (by simp)⟩
  | [c] => rcases key c with ⟨h1, h2⟩ | ⟨h1, h2⟩
           · exact Or.inl ⟨h1, c, rfl, h2⟩
           · exact Or.inr ⟨h1, Or.inr ⟨c, rfl, h2⟩⟩
  | _ :: _ :: _ => exact Or.inr ⟨rfl, Or.inl (by simp)⟩
theorem wparse_any (s : List UInt8) (S : ByteArray) (hS : S = ⟨s.toArray⟩) (hl : s.length ≤ 1000000000000000) (w : World) :
    Calls Tryz.prog 22 #[.string S] w fun e w' => e = .returned (.tuple #[(wpF s).v, .int .i64 (wpE s)]) ∧ Below w.heap.size w w' := by
  have CP := fun w' => cutPrefix_any s [37] S hS w'
  cases hp : Lib.hasPrefix s [37] with
  | false =>
    rw [hp] at CP
    have h := wparse_no S _ w (Lib.hid CP)
    unfold wpF wpE
    rw [hp]
    exact h
  | true =>
    rw [hp] at CP
    obtain ⟨t, ht⟩ : ∃ t, t = Lib.trimPrefix s [37] := ⟨_, rfl⟩
    rw [← ht] at CP
    have htl : t.length ≤ 1000000000000000 := by have := trimP_le s [37]; rw [ht]; omega
    have l1 : (wp1 t).2.length ≤ t.length := wpR_le _ _
    have l2 : (wp2 t).length ≤ t.length := Nat.le_trans (wnR_le _) l1
    have l3 : (Lib.trimPrefix (wp2 t) [46]).length ≤ t.length := Nat.le_trans (trimP_le _ _) l2
    have l4 : (wp4 t).length ≤ t.length := by unfold wp4; split; · exact Nat.le_trans (wnR_le _) l3
                                              · exact l2
    have HF := wparse_t S t ⟨t.toArray⟩ (Lib.hid ⟨rfl, trivial⟩) htl w (wp1 t).1.1 (wp1 t).1.2.1 (wp1 t).1.2.2.1 (wp1 t).1.2.2.2.1 (wp1 t).1.2.2.2.2 (wp1 t).2 (Lib.hid ⟨rfl, trivial⟩)
      (wpW t) (wnN (Lib.trimPrefix (wp2 t) [46])) (wp4 t).length ((wp4 t).headD 0).toNat (wnN_le _) (wnN_le _) (UInt8.toNat_lt _) ⟨(wp2 t).toArray⟩ ⟨(Lib.trimPrefix (wp2 t) [46]).toArray⟩ ⟨(wnR (Lib.trimPrefix (wp2 t) [46])).toArray⟩ ⟨(wp4 t).toArray⟩ (wpD t) (wpP t) (Lib.indexByte [101, 102, 103, 97] ((wp4 t).headD 0)) rfl (by omega)
      (by
        unfold wp4 wpP
        cases hd : wpD t with
        | true => exact Or.inl ⟨rfl, rfl, rfl⟩
        | false => exact Or.inr ⟨rfl, rfl, rfl⟩)
      (by
        intro h
        have : ∀ (l : List UInt8) (h : 0 < (⟨l.toArray⟩ : ByteArray).size), (⟨l.toArray⟩ : ByteArray)[0]'h = l.headD 0 := by
          intro l h
          cases l with
          | nil => exact absurd h (by decide)
          | cons c m => rfl
        rw [this])
      (Lib.hid CP)
      (Lib.hid (fun TL w' hTL => wnumber_any (wp1 t).2 TL hTL (by omega) w'))
      (Lib.hid (fun w' => cutPrefix_any (wp2 t) [46] _ rfl w'))
      (Lib.hid (fun w' => wnumber_any (Lib.trimPrefix (wp2 t) [46]) _ rfl (by omega) w'))
      (Lib.hid (fun w' => by
        have h := indexByteS_any ⟨#[101, 102, 103, 97]⟩ (((wp4 t).headD 0).toNat : Int) w'
        rw [Int.toNat_natCast, show ((wp4 t).headD 0).toNat.toUInt8 = (wp4 t).headD 0 from UInt8.ofNat_toNat] at h
        exact h.mono fun e w2 k => ⟨k.1, k.2.symm⟩))
      (wpF s).v (wpE s) (Lib.hid (by
        have hE : wpE s = if vbB (wp4 t) = true then (if 200 < wpW t ∨ 100 < wpP t then 1 else 0) else 5 := by
          unfold wpE
          rw [if_pos hp, ← ht]
        have hFF : wpF s = if wpE s = 0 then wpG t else spz := by unfold wpF; rw [← ht]
        rcases vbB_ways (wp4 t) with ⟨v1, c, v2, v3⟩ | ⟨v1, v2⟩
        · rw [v1, if_pos rfl] at hE
          rw [v2]
          simp only [List.headD_cons, List.length_singleton]
          refine ⟨fun h => absurd rfl h, fun _ h => by omega, fun _ _ h => ?_, fun _ _ h => ?_, fun _ _ h1 h2 => ?_⟩
          · rw [if_pos (Or.inl h)] at hE; rw [hFF, hE]; exact ⟨rfl, rfl⟩
          · rw [if_pos (Or.inr h)] at hE; rw [hFF, hE]; exact ⟨rfl, rfl⟩
          · rw [if_neg (by omega)] at hE; rw [hFF, hE, if_pos rfl]; refine ⟨?_, rfl⟩
            unfold wpG Spc.v
            rw [v2]
            rfl
        · rw [v1, if_neg (by simp)] at hE
          have h5 : (wpF s).v = spz.v ∧ wpE s = 5 := by rw [hFF, hE]; exact ⟨rfl, rfl⟩
          refine ⟨fun _ => h5, fun _ _ => h5, fun h1 h2 => ?_, fun h1 h2 => ?_, fun h1 h2 => ?_⟩
          all_goals
            rcases v2 with v2 | ⟨c, v2, v3⟩
            · exact absurd h1 v2
            · rw [v2] at h2
              simp only [List.headD_cons] at h2
              omega))
    exact HF
end Go.Proofs.YtjmmgffdagcflaaGreatDoor
