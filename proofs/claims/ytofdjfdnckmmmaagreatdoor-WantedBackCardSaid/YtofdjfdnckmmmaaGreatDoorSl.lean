/-
  THE WALKS of slices.Clone, slices.Equal at limbs.
-/
import Derived.Test.YtofdjfdnckmmmaaGreatDoorBd
import Derived.Test.YtofdjfdnckmmmaaGreatDoorNa
import Derived.Lib.SliceRun
import Derived.BigQuiet
import Derived.Deep.QuietTactic
set_option linter.unusedVariables false
set_option linter.unusedSimpArgs false
namespace Go.Proofs.YtofdjfdnckmmmaaGreatDoor
open Go.RowKit Nt Fm

set_option maxHeartbeats 2000000 in
theorem clone_any (v : Value) (m k0 : Nat) (w : World) (hv : NV w v m) (hm : m < 2 ^ k0) (hk0 : k0 ≤ 120000000000000) :
    Calls Tryz.prog 141 #[v] w (RetNV w m) := by
  obtain ⟨l, hn, el, ⟨hl, ao, cap, rfl, hcap, hmx, hc⟩, hlen⟩ := hv.len hm
  have hmx' := hmx
  unfold maxLen at hmx'
  have EL := Lib.hid el
  have HMX := Lib.hid hmx
  clear el hm hmx hv
  have q22 : ∀ (w : World) (a : Option Addr) (n c n' c' : Nat), (binOp .eql 66 (.slice a n c) (.slice none n' c')).run Tryz.prog w = .ok (.bool a.isNone) w := fun w a n c n' c' => Lib.run_eql_slice_nil w _ _ a n c n' c' Tryz.underlying66
  have hnone : ao = none → l.length ≤ 0 := by
    rintro rfl
    rcases hc with h | ⟨b, off, h, _⟩
    · exact h
    · cases h
  cases ao with
  | none =>
    have h0 : m = 0 := by rw [← EL.out, List.length_eq_zero_iff.1 (by have := hnone rfl; omega : l.length = 0)]; rfl
    subst h0
    clear hc hnone
    go_enter Tryz.func141, Tryz.ntmps141
    go_wp2
    go_ret
    exact ⟨_, rfl, NV.nil _, Below.refl _ _⟩
  | some p =>
    have hA : ∃ (b off : Nat) (spot : _), p = ⟨b, off, spot⟩ := ⟨_, _, _, rfl⟩
    obtain ⟨b, off, spot, rfl⟩ := hA
    have hcc : ∀ j u, (lc l)[j]? = some u → w.cell? ((⟨b, off, spot⟩ : Addr).add j) = some u := by
      intro j u hj
      rcases hc with h | ⟨b', off', h, h2, h3⟩
      · have : l = [] := List.length_eq_zero_iff.1 (by omega)
        subst this; simp [lc] at hj
      · cases h
        have hj2 : j < l.length := by
          have := (List.getElem?_eq_some_iff.1 hj).1; rw [lc_length] at this; exact this
        rw [show (⟨b, off, none⟩ : Addr).add j = ⟨b, off + j, none⟩ from by unfold Addr.add; split <;> simp_all, h3 j hj2, ← hj]
        simp [lc, List.getD, hj2]
    have A := Lib.hid hcc
    clear hc hcc hnone
    obtain ⟨i0, hi, hz0, hz1, hz2⟩ := info_parts infoU32
    have HI := Lib.hid hi
    have HZ0 := Lib.hid hz0
    have HZ1 := Lib.hid hz1
    have HZ2 := Lib.hid hz2
    clear hi hz0 hz1 hz2
    go_enter Tryz.func141, Tryz.ntmps141
    go_wp2_with (at_builtin; refine wpList_append_own _ rfl _ _ 66 rfl w.heap.size 102 i0 (.int .u32 0) 1 4 Tryz.underlying66 HI.out HZ0.out HZ1.out HZ2.out rfl (by decide) _ _ _ rfl (World.ownsRow_made w #[] 0 (Nat.le_refl _) (Nat.zero_le _) (by simp)) ⟨b, off, spot⟩ l.length cap (lc l) rfl ?qc1 ?qc2 ?qc3 ?qc4 ?qc5 ?qc6 ?_)
    case qc1 => rw [lc_length]; omega
    case qc2 =>
      intro j u hj
      have := A.out j u hj
      exact Lib.cell?_alloc_some _ this
    case qc3 => intro u hu; simp [lc] at hu; obtain ⟨x, _, rfl⟩ := hu; rfl
    case qc4 => rw [Nat.zero_add]; unfold maxLen; omega
    case qc5 => rw [Nat.zero_add]; omega
    case qc6 => simp
    intro v' w1 hown hgrow hnil
    go_wp2
    go_ret
    refine ⟨v', rfl, ?_, ?_⟩
    · have h2 : w1.ownsRow w.heap.size 102 1 v' l.length (lc l) := by simpa using hown
      rw [← EL.out]
      exact (own_lim' h2 hl).nrm hn
    · exact ((Below.refl _ w).alloc (Nat.le_refl _) _).grown hgrow (by simp) (by intro k hk; simp [Value.ownBlock] at hk; omega)

theorem eq_take {l m : List Nat} {k : Nat} (hl : k < l.length) (hm : k < m.length) (h : l.take k = m.take k) (he : l.getD k 0 = m.getD k 0) : l.take (k + 1) = m.take (k + 1) := by
  rw [List.take_succ_eq_append_getElem hl, List.take_succ_eq_append_getElem hm, h]
  have e1 : l.getD k 0 = l[k] := by simp [List.getD, hl]
  have e2 : m.getD k 0 = m[k] := by simp [List.getD, hm]
  rw [← e1, ← e2, he]

end Go.Proofs.YtofdjfdnckmmmaaGreatDoor
