/-
  PLAIN: what the law SpanMore asks.
-/
import Derived.Test.YtfnchcogdmpojaaDoorSg
import Derived.Test.YtfnchcogdmpojaaDoorSj
set_option linter.unusedVariables false
set_option linter.unusedSimpArgs false
namespace Go.Proofs.YtfnchcogdmpojaaDoor
open Go.RowKit Nt Fm Fl

theorem wi_get {a b c d : Int} (ua : U64 a) (ub : U64 b) (uc : U64 c) (ud : U64 d) (he : spE2 a b c d = 0) (hw : wiB a b c d = true) : SpOK a b ∧ SpOK c d ∧ frank c ≤ frank a ∧ frank b ≤ frank d := by
  obtain ⟨e1, e2⟩ := spE2_zero.1 he
  unfold wiB at hw
  simp only [Bool.and_eq_true] at hw
  exact ⟨(spE_ok ua.1 ua.2 ub.1 ub.2).1 e1, (spE_ok uc.1 uc.2 ud.1 ud.2).1 e2, (amB_iff.1 hw.2.1).2.2, (amB_iff.1 hw.2.2).2.2⟩
theorem more_add {a a' b b' c c' : Int} (ua : U64 a) (ua' : U64 a') (ub : U64 b) (ub' : U64 b') (uc : U64 c) (uc' : U64 c') (h : SpOK a a') (k : SpOK b b') (m : SpOK c c') (l : frank b ≤ frank a) (r : frank a' ≤ frank b') :
    spE2 a a' c c' = 0 ∧ spE2 b b' c c' = 0 ∧ spE2 (saLo a a' c c') (saHi a a' c c') (saLo b b' c c') (saHi b b' c c') = 0 ∧ wiB (saLo a a' c c') (saHi a a' c c') (saLo b b' c c') (saHi b b' c c') = true := by
  obtain ⟨p1, p2, p3, p4⟩ := add_ok ua ua' uc uc' h m
  obtain ⟨q1, q2, q3, q4⟩ := add_ok ub ub' uc uc' k m
  have s1 := sa_u ua ua' uc uc'
  have s2 := sa_u ub ub' uc uc'
  have W := wi_of s1.1 s1.2 s2.1 s2.2 p1 q1 (by
    rw [p3, q3]; exact sum_le 2 ub.1 ub.2 ua.1 ua.2 uc.1 uc.2 uc.1 uc.2 k.na h.na m.na m.na (Or.inl ⟨h.lo, m.lo⟩) l (Int.le_refl _)) (by
    rw [p4, q4]; exact sum_le 1 ua'.1 ua'.2 ub'.1 ub'.2 uc'.1 uc'.2 uc'.1 uc'.2 h.nb k.nb m.nb m.nb (Or.inr ⟨h.hi, m.hi⟩) r (Int.le_refl _))
  exact ⟨p2, q2, W.1, W.2⟩
theorem more_sub {a a' b b' c c' : Int} (ua : U64 a) (ua' : U64 a') (ub : U64 b) (ub' : U64 b') (uc : U64 c) (uc' : U64 c') (h : SpOK a a') (k : SpOK b b') (m : SpOK c c') (l : frank b ≤ frank a) (r : frank a' ≤ frank b') :
    suE a a' c c' = 0 ∧ suE b b' c c' = 0 ∧ spE2 (suLo a a' c c') (suHi a a' c c') (suLo b b' c c') (suHi b b' c c') = 0 ∧ wiB (suLo a a' c c') (suHi a a' c c') (suLo b b' c c') (suHi b b' c c') = true := by
  obtain ⟨p1, p2, p3⟩ := sub_e ua ua' uc uc' h m
  obtain ⟨q1, q2, q3⟩ := sub_e ub ub' uc uc' k m
  have W := more_add ua ua' ub ub' (ng_u uc') (ng_u uc) h k (m.neg uc uc').1 l r
  rw [p2, p3, q2, q3]
  exact ⟨p1, q1, W.2.2.1, W.2.2.2⟩
theorem SpOK.ens {a b : Int} (ua : U64 a) (ub : U64 b) (h : SpOK a b) : En a ∧ En b := ⟨⟨ua.1, ua.2, h.na⟩, ⟨ub.1, ub.2, h.nb⟩⟩
theorem more_mul {a a' b b' c c' : Int} (ua : U64 a) (ua' : U64 a') (ub : U64 b) (ub' : U64 b') (uc : U64 c) (uc' : U64 c') (h : SpOK a a') (k : SpOK b b') (m : SpOK c c') (l : frank b ≤ frank a) (r : frank a' ≤ frank b') :
    spE2 (mlLo a a' c c') (mlHi a a' c c') (mlLo b b' c c') (mlHi b b' c c') = 0 ∧ wiB (mlLo a a' c c') (mlHi a a' c c') (mlLo b b' c c') (mlHi b b' c c') = true := by
  obtain ⟨p1, p2⟩ := mul_e ua ua' uc uc' h m
  obtain ⟨q1, q2⟩ := mul_e ub ub' uc uc' k m
  have M := mul_spr ua ua' uc uc' h m
  have N := mul_spr ub ub' uc uc' k m
  have W := M.more N (h.ens ua ua').1 (h.ens ua ua').2 (m.ens uc uc').1 (m.ens uc uc').2 l h.le r m.le
  rw [p1, p2, q1, q2]
  exact wi_of M.ul M.uh N.ul N.uh M.ok N.ok W.1 W.2
theorem more_hull {a a' b b' c c' : Int} (ua : U64 a) (ua' : U64 a') (ub : U64 b) (ub' : U64 b') (uc : U64 c) (uc' : U64 c') (h : SpOK a a') (k : SpOK b b') (m : SpOK c c') (l : frank b ≤ frank a) (r : frank a' ≤ frank b') :
    spE2 (huLo a a' c c') (huHi a a' c c') (huLo b b' c c') (huHi b b' c c') = 0 ∧ wiB (huLo a a' c c') (huHi a a' c c') (huLo b b' c c') (huHi b b' c c') = true := by
  have p := (add_ok ua ua' uc uc' h m).2.1
  have q := (add_ok ub ub' uc uc' k m).2.1
  have e1 : huLo a a' c c' = oleast a c 1 ∧ huHi a a' c c' = oleast a' c' (-1) := by unfold huLo huHi; rw [if_pos p, if_pos p]; exact ⟨rfl, rfl⟩
  have e2 : huLo b b' c c' = oleast b c 1 ∧ huHi b b' c c' = oleast b' c' (-1) := by unfold huLo huHi; rw [if_pos q, if_pos q]; exact ⟨rfl, rfl⟩
  have U1 := spanJoins_u ua ua' uc uc'
  have U2 := spanJoins_u ub ub' uc uc'
  obtain ⟨⟨v1, v2⟩, -⟩ := U1
  obtain ⟨⟨v3, v4⟩, -⟩ := U2
  rw [e1.1] at v1; rw [e1.2] at v2; rw [e2.1] at v3; rw [e2.2] at v4
  rw [e1.1, e1.2, e2.1, e2.2]
  obtain ⟨m1, m2, m3⟩ := least_lo ua uc h.na m.na
  obtain ⟨n1, n2, n3⟩ := least_hi ua' uc' h.nb m.nb
  obtain ⟨i1, i2, i3⟩ := least_lo ub uc k.na m.na
  obtain ⟨j1, j2, j3⟩ := least_hi ub' uc' k.nb m.nb
  refine wi_of v1 v2 v3 v4 (hull_ok ua ua' uc uc' h m) (hull_ok ub ub' uc uc' k m) ?_ ?_
  · rcases m1 with e | e <;> rw [e] <;> omega
  · rcases n1 with e | e <;> rw [e] <;> omega
theorem more_div {a a' b b' c c' : Int} (ua : U64 a) (ua' : U64 a') (ub : U64 b) (ub' : U64 b') (uc : U64 c) (uc' : U64 c') (h : SpOK a a') (k : SpOK b b') (m : SpOK c c') (l : frank b ≤ frank a) (r : frank a' ≤ frank b') (hd : diE c c' b b' = 0) :
    diE c c' a a' = 0 ∧ spE2 (diLo c c' a a') (diHi c c' a a') (diLo c c' b b') (diHi c c' b b') = 0 ∧ wiB (diLo c c' a a') (diHi c c' a a') (diLo c c' b b') (diHi c c' b b') = true := by
  have hle := h.le
  rcases div_e uc uc' ub ub' m k with ⟨q1, -, -⟩ | ⟨q1, q2, q3, q4⟩
  · rw [hd] at q1; exact absurd q1 (by decide)
  rcases div_e uc uc' ua ua' m h with ⟨p1, -, p2⟩ | ⟨p1, p2, p3, p4⟩
  · exact absurd (by omega) p2
  have M := div_spr uc uc' ua ua' m h p2
  have N := div_spr uc uc' ub ub' m k q2
  have W := M.more2 N (m.ens uc uc').1 (m.ens uc uc').2 (h.ens ua ua').1 (h.ens ua ua').2 l m.le r h.le
  rw [p3, p4, q3, q4]
  have := wi_of M.ul M.uh N.ul N.uh M.ok N.ok W.1 W.2
  exact ⟨p1, this.1, this.2⟩
theorem spanMore_a {a a' b b' c c' : Int} (ua : U64 a) (ua' : U64 a') (ub : U64 b) (ub' : U64 b') (uc : U64 c) (uc' : U64 c') (he : spE2 a a' b b' = 0) (hw : wiB a a' b b' = true) (hc : spE c c' = 0) :
    (spE2 a a' c c' = 0 ∧ spE2 b b' c c' = 0 ∧ suE a a' c c' = 0 ∧ suE b b' c c' = 0) ∧
    (spE2 (saLo a a' c c') (saHi a a' c c') (saLo b b' c c') (saHi b b' c c') = 0 ∧ wiB (saLo a a' c c') (saHi a a' c c') (saLo b b' c c') (saHi b b' c c') = true) ∧
    (spE2 (suLo a a' c c') (suHi a a' c c') (suLo b b' c c') (suHi b b' c c') = 0 ∧ wiB (suLo a a' c c') (suHi a a' c c') (suLo b b' c c') (suHi b b' c c') = true) ∧
    (spE2 (mlLo a a' c c') (mlHi a a' c c') (mlLo b b' c c') (mlHi b b' c c') = 0 ∧ wiB (mlLo a a' c c') (mlHi a a' c c') (mlLo b b' c c') (mlHi b b' c c') = true) ∧
    (spE2 (huLo a a' c c') (huHi a a' c c') (huLo b b' c c') (huHi b b' c c') = 0 ∧ wiB (huLo a a' c c') (huHi a a' c c') (huLo b b' c c') (huHi b b' c c') = true) ∧
    (diE c c' b b' = 0 → diE c c' a a' = 0 ∧ spE2 (diLo c c' a a') (diHi c c' a a') (diLo c c' b b') (diHi c c' b b') = 0 ∧ wiB (diLo c c' a a') (diHi c c' a a') (diLo c c' b b') (diHi c c' b b') = true) := by
  obtain ⟨h, k, l, r⟩ := wi_get ua ua' ub ub' he hw
  have m := (spE_ok uc.1 uc.2 uc'.1 uc'.2).1 hc
  have A := more_add ua ua' ub ub' uc uc' h k m l r
  have S := more_sub ua ua' ub ub' uc uc' h k m l r
  exact ⟨⟨A.1, A.2.1, S.1, S.2.1⟩, A.2.2, S.2.2, more_mul ua ua' ub ub' uc uc' h k m l r, more_hull ua ua' ub ub' uc uc' h k m l r, more_div ua ua' ub ub' uc uc' h k m l r⟩
end Go.Proofs.YtfnchcogdmpojaaDoor
