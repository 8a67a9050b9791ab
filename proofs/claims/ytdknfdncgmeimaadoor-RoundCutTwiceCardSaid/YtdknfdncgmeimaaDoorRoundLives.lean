/-
  THE WALK of roundLives.
-/
import Derived.Test.YtdknfdncgmeimaaDoorTo
import Derived.Test.YtdknfdncgmeimaaDoorBa
set_option linter.unusedVariables false
set_option linter.unusedSimpArgs false
namespace Go.Proofs.YtdknfdncgmeimaaDoor
open Go.RowKit Nt Fm

theorem half_lim (w : World) (T : TypeId) : Lim (w.alloc (.cells #[.int .u32 1, .int .u32 2097152] T)) (.slice (some ⟨w.heap.size, 0, none⟩) 2 2) [1, 2097152] := by
  refine ⟨Lims.cons (by decide) (Lims.cons (by decide) Lims.nil), some ⟨w.heap.size, 0, none⟩, 2, rfl, by decide, by decide, Or.inr ⟨w.heap.size, 0, rfl, by simp, ?_⟩⟩
  intro i hi
  match i, hi with
  | 0, _ => simp [go_sem]
  | 1, _ => simp [go_sem]
theorem half_num : numR ⟨false, val [1, 2097152], -53⟩ 0 = 4607182418800017408 ∧ numR ⟨false, val [1, 2097152], -53⟩ 1 = 4607182418800017409 ∧ numC ⟨false, val [1, 2097152], -53⟩ = true := by decide +kernel
theorem half_to (mode : Int) (b cap : Nat) (w : World) (h : Lim w (.slice (some ⟨b, 0, none⟩) 2 cap) [1, 2097152]) (m0 : 0 ≤ mode) (m1 : mode ≤ 4) :
    Calls Tryd.prog 27 #[.agg #[.bool false, .slice (some ⟨b, 0, none⟩) 2 cap, .int .i64 (-53)], .int .i64 mode] w fun r w' => r = .returned (.tuple #[.int .u64 (numR ⟨false, val [1, 2097152], -53⟩ mode), .bool true, .int .i64 0]) ∧ Below w.heap.size w w' := by
  have := to_any (.agg #[.bool false, .slice (some ⟨b, 0, none⟩) 2 cap, .int .i64 (-53)]) false [1, 2097152] (-53) mode w ⟨_, rfl, h⟩ (by omega) (by omega)
  have hc : chkE false [1, 2097152] (-53) = 0 := by decide
  have hE : roE 0 mode = 0 := by unfold roE; rw [if_pos rfl, if_neg (by omega)]
  rw [hc] at this
  unfold roV roC at this
  rw [hE, if_pos rfl, if_pos rfl, half_num.2.2] at this
  exact this

set_option maxHeartbeats 2000000 in
theorem roundLives_any (w : World) :
    Calls Tryd.prog 26 #[] w fun e w' => e = .returned (.bool true) ∧ Below w.heap.size w w' := by
  have HL := Lib.hid (half_lim w)
  have HT := Lib.hid half_to
  obtain ⟨n1, n2, -⟩ := half_num
  have hn1 : ∀ w h, _ := fun (w : World) h => half_to 0 w.heap.size 2 w h (by decide) (by decide)
  clear hn1
  have h0 := fun (b : Nat) (w : World) h => half_to 0 b 2 w h (by decide) (by decide)
  have h1 := fun (b : Nat) (w : World) h => half_to 1 b 2 w h (by decide) (by decide)
  simp only [n1] at h0
  simp only [n2] at h1
  have H0 := Lib.hid h0
  have H1 := Lib.hid h1
  have hok := ok2_mk
  clear h0 h1 n1 n2
  go_enter Tryd.func26, Tryd.ntmps26
  go_wp2_with fail
  refine (H0.out _ _ ((HL.out _).alloc _)).mono ?_
  rintro r w1 ⟨rfl, hb⟩
  have HB := Lib.hid hb
  have hlim := ((HL.out _).alloc _).below hb
  have HL1 := Lib.hid hlim
  obtain ⟨q0, q1, q2, f0, f1, f2⟩ := cells3 hb
  have hsz : ∀ o, (w.alloc o).heap.size = w.heap.size + 1 := fun o => by simp
  rw [hsz] at q0 q1 q2 f0 f1 f2
  clear hb hlim
  go_wp2_with fail
  refine (H1.out _ _ HL1.out).mono ?_
  rintro r w2 ⟨rfl, hb⟩
  have HB2 := Lib.hid hb
  clear hb
  go_wp2_with (go_at_call 31; refine (ok_new2 _ _ _ _ rfl).mono ?_; rintro e w' ⟨rfl, rfl⟩)
  go_ret
  refine ⟨rfl, Below.alloc (Below.trans ?_ (HB2.out.mono ?_)) ?_ _⟩
  · exact (((Below.refl _ _).alloc (Nat.le_refl _) _).alloc (by simp) _).trans (HB.out.mono (by simp; omega))
  · have := HB.out.size; simp at this; omega
  · have := HB.out.size; have := HB2.out.size; simp at *; omega
end Go.Proofs.YtdknfdncgmeimaaDoor
