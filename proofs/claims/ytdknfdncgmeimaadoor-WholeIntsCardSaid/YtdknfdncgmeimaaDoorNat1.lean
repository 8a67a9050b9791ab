/-
  THE WALKS of package nat: norm, Of, Check, Compare.
-/
import Derived.Test.YtdknfdncgmeimaaDoorChecked
import Derived.WalkKit
import Derived.WalkLawsBesides
import Derived.WalkSpells
import Derived.Handy
import Derived.BigQuiet
import Derived.Deep.QuietTactic
import Derived.Test.YtdknfdncgmeimaaDoorNt
set_option linter.unusedVariables false
set_option linter.unusedSimpArgs false
namespace Go.Proofs.YtdknfdncgmeimaaDoor
open Go.RowKit Nt

theorem clip_any (ao : Option Addr) (n cap : Nat) (w : World) (h : n ≤ cap) (hm : cap ≤ 9223372036854775807) :
    Calls Tryd.prog 104 #[.slice ao n cap] w fun e w' => e = .returned (.slice ao n n) ∧ w = w' := by

  go_enter Tryd.func104, Tryd.ntmps104
  go_wp2
  go_ret
  exact ⟨by simp, rfl⟩

/-- what is taken off -/
theorem strip_step {l : List Nat} {k : Nat} (hk : k + 1 ≤ l.length) (h : val (l.take (k + 1)) = val l) (h0 : l[k]'(by omega) = 0) : val (l.take k) = val l := by
  rw [val_take_succ l k (by omega), h0] at h; omega
theorem strip_end {l : List Nat} {k : Nat} (hl : Lims l) (hk : k ≤ l.length) (h0 : ∀ j, k = j + 1 → l.getD j 0 ≠ 0) : Nrm (l.take k) := by
  refine ⟨hl.take k, ?_⟩
  rcases Nat.eq_zero_or_pos k with h | h
  · subst h; simp
  · obtain ⟨j, rfl⟩ : ∃ j, k = j + 1 := ⟨k - 1, by omega⟩
    have h1 := h0 j rfl
    rw [List.getLast?_eq_getElem?, List.length_take, Nat.min_eq_left hk, Nat.add_sub_cancel, List.getElem?_take]
    simp only [Nat.lt_succ_self, if_true]
    intro h2; apply h1; rw [List.getD, h2]; rfl
theorem lim_take {w : World} {ao : Option Addr} {l : List Nat} {cap k : Nat} (hl : Lims l) (hk : k ≤ l.length) (hc : l.length ≤ cap) (hm : cap ≤ maxLen)
    (h : l.length ≤ 0 ∨ ∃ b off, ao = some ⟨b, off, none⟩ ∧ b < w.heap.size ∧ ∀ i, i < l.length → w.cell? ⟨b, off + i, none⟩ = some (.int .u32 ((l.getD i 0 : Nat) : Int))) :
    Lim w (.slice ao k k) (l.take k) := by
  have hlen : (l.take k).length = k := by rw [List.length_take, Nat.min_eq_left hk]
  refine ⟨hl.take k, ao, k, by rw [hlen], by omega, by omega, ?_⟩
  rw [hlen]
  rcases h with h | ⟨b, off, h1, h2, h3⟩
  · left; omega
  · right; refine ⟨b, off, h1, h2, fun i hi => ?_⟩
    rw [h3 i (by omega)]
    simp [List.getD, List.getElem?_take, hi]

theorem norm_any (v : Value) (l : List Nat) (w : World) (hv : Lim w v l) :
    Calls Tryd.prog 98 #[v] w fun e w' => (∃ v', e = .returned v' ∧ NV w v' (val l)) ∧ w = w' := by
  obtain ⟨hl, ao, cap, rfl, hcap, hm, hc⟩ := hv
  have hc0 := hc
  rcases hc with h0 | ⟨b, off, rfl, hb, hcell⟩
  all_goals
    have hm' := hm
    unfold maxLen at hm'
    have HM := Lib.hid hm
    have HC := Lib.hid hc0
    clear hm hc0
    go_enter Tryd.func98, Tryd.ntmps98
    go_wp2
    go_loop [0] (fun a => ∃ k : Nat, k ≤ l.length ∧ a = .slice _ k cap ∧ val (l.take k) = val l) (fun a => match a with | .slice _ n _ => n | _ => 0)
    case atStart => exact ⟨l.length, Nat.le_refl _, rfl, by rw [List.take_length]⟩
    case round =>
      obtain ⟨k, hk, rfl, hval⟩ := hrel
      have HV := Lib.hid hval
      clear hval
      by_cases hk0 : 0 < k
      · first
          | (exfalso; omega)
          | (obtain ⟨j, rfl⟩ : ∃ j, k = j + 1 := ⟨k - 1, by omega⟩
             obtain ⟨d, hd⟩ : ∃ d, d = l.getD j 0 := ⟨_, rfl⟩
             have hck := hcell j (by omega)
             rw [← hd] at hck
             have HD := Lib.hid hd
             clear hd
             by_cases hz : d = 0
             · subst hz
               go_wp2
               go_round
               case rel =>
                 refine ⟨j, by omega, by simp, strip_step (by omega) HV.out ?_⟩
                 have := HD.out
                 simp only [List.getD, List.getElem?_eq_getElem (show j < l.length by omega), Option.getD_some] at this
                 exact this.symm
               case measure => simp
             · have hz2 : ((d : Int) == 0) = false := by rw [beq_eq_false_iff_ne]; omega
               go_wp2_with (go_at_call 104; refine (clip_any _ _ _ _ (by omega) (by omega)).mono ?_; rintro e w' ⟨rfl, rfl⟩)
               go_ret
               refine ⟨⟨_, rfl, ?_⟩, rfl⟩
               have hn : Nrm (l.take (j + 1)) := strip_end hl (by omega) (fun i hi => by obtain rfl : i = j := by omega
                                                                                         rw [← HD.out]; exact hz)
               have := (lim_take hl (show j + 1 ≤ l.length by omega) hcap HM.out HC.out).nrm hn
               rw [HV.out] at this
               simpa using this)
      · obtain rfl : k = 0 := by omega
        go_wp2_with (go_at_call 104; refine (clip_any _ _ _ _ (by omega) (by omega)).mono ?_; rintro e w' ⟨rfl, rfl⟩)
        go_ret
        refine ⟨⟨_, rfl, ?_⟩, rfl⟩
        have hn : Nrm (l.take 0) := strip_end hl (by omega) (fun i hi => by omega)
        have := (lim_take hl (Nat.zero_le _) hcap HM.out HC.out).nrm hn
        rw [HV.out] at this
        simpa using this
end Go.Proofs.YtdknfdncgmeimaaDoor
