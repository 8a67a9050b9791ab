/-
  PLAIN: what the law SpanJoins asks.
-/
import Derived.Test.YtfnchcogdmpojaaDoorSh
import Derived.Test.YtfnchcogdmpojaaDoorSm2
import Derived.Test.YtfnchcogdmpojaaDoorSb
set_option linter.unusedVariables false
set_option linter.unusedSimpArgs false
namespace Go.Proofs.YtfnchcogdmpojaaDoor
open Go.RowKit Nt Fm Fl

def Uu (x : Int) : Prop := 0 ≤ x ∧ x ≤ 18446744073709551615
theorem okey_rank {x y : Int} (ux : Uu x) (uy : Uu y) (nx : frerr x = 0) (ny : frerr y = 0) (h : okey x ≤ okey y) : frank x ≤ frank y := by
  obtain ⟨x0, x1⟩ := ux
  obtain ⟨y0, y1⟩ := uy
  have fx := frank_fng (frerr_0 nx)
  have fy := frank_fng (frerr_0 ny)
  have bx := frerr_0 nx
  have bY := frerr_0 ny
  unfold fng at fx fy
  simp only [decide_eq_true_eq] at fx fy
  unfold okey at h
  unfold fabs at fx fy bx bY
  by_cases h1 : 9223372036854775808 ≤ x <;> by_cases h2 : 9223372036854775808 ≤ y <;> simp only [h1, h2, if_true, if_false] at fx fy h <;> omega
theorem otot_ways (x y : Int) : (otot x y = -1 ∧ okey x ≤ okey y) ∨ (otot x y = 0 ∧ okey x ≤ okey y ∧ okey y ≤ okey x) ∨ (otot x y = 1 ∧ okey y ≤ okey x) := by
  unfold otot sgnc
  split
  · left; exact ⟨rfl, by omega⟩
  · split
    · right; right; exact ⟨rfl, by omega⟩
    · right; left; exact ⟨rfl, by omega, by omega⟩
theorem onan_no {x y : Int} (nx : frerr x = 0) (ny : frerr y = 0) : onan x y = false := by
  have f : ∀ v : Int, frerr v = 0 → (fcls v == 5) = false := by
    intro v h
    have := frerr_0 h
    rw [beq_eq_false_iff_ne]
    unfold fcls; split; · decide
    split; · decide
    split; · decide
    rw [if_pos (by omega)]; decide
  unfold onan; rw [f x nx, f y ny]; rfl
theorem least_lo {x y : Int} (ux : Uu x) (uy : Uu y) (nx : frerr x = 0) (ny : frerr y = 0) : (oleast x y 1 = x ∨ oleast x y 1 = y) ∧ frank (oleast x y 1) ≤ frank x ∧ frank (oleast x y 1) ≤ frank y := by
  have k1 := @okey_rank x y ux uy nx ny
  have k2 := @okey_rank y x uy ux ny nx
  unfold oleast; rw [onan_no nx ny]
  simp only [Bool.false_eq_true, if_false]
  rcases otot_ways x y with ⟨e, a⟩ | ⟨e, a, b⟩ | ⟨e, a⟩ <;> rw [e]
  · rw [if_pos (by decide)]; exact ⟨Or.inl rfl, Int.le_refl _, k1 a⟩
  · rw [if_pos (by decide)]; exact ⟨Or.inl rfl, Int.le_refl _, k1 a⟩
  · rw [if_neg (by decide)]; exact ⟨Or.inr rfl, k2 a, Int.le_refl _⟩
theorem least_hi {x y : Int} (ux : Uu x) (uy : Uu y) (nx : frerr x = 0) (ny : frerr y = 0) : (oleast x y (-1) = x ∨ oleast x y (-1) = y) ∧ frank x ≤ frank (oleast x y (-1)) ∧ frank y ≤ frank (oleast x y (-1)) := by
  have k1 := @okey_rank x y ux uy nx ny
  have k2 := @okey_rank y x uy ux ny nx
  unfold oleast; rw [onan_no nx ny]
  simp only [Bool.false_eq_true, if_false]
  rcases otot_ways x y with ⟨e, a⟩ | ⟨e, a, b⟩ | ⟨e, a⟩ <;> rw [e]
  · rw [if_neg (by decide)]; exact ⟨Or.inr rfl, k1 a, Int.le_refl _⟩
  · rw [if_pos (by decide)]; exact ⟨Or.inl rfl, Int.le_refl _, k2 b⟩
  · rw [if_pos (by decide)]; exact ⟨Or.inl rfl, Int.le_refl _, k2 a⟩
theorem two_nn {a b m : Int} (h : m = a ∨ m = b) (na : frerr a = 0) (nb : frerr b = 0) (za : a ≠ 9223372036854775808) (zb : b ≠ 9223372036854775808) (ua : Uu a) (ub : Uu b) : frerr m = 0 ∧ m ≠ 9223372036854775808 ∧ Uu m := by
  rcases h with rfl | rfl
  · exact ⟨na, za, ua⟩
  · exact ⟨nb, zb, ub⟩
theorem wi_of {a b c d : Int} (ua : Uu a) (ub : Uu b) (uc : Uu c) (ud : Uu d) (h : SpOK a b) (k : SpOK c d) (l : frank c ≤ frank a) (r : frank b ≤ frank d) : spE2 a b c d = 0 ∧ wiB a b c d = true := by
  have e : spE2 a b c d = 0 := spE2_zero.2 ⟨(spE_ok ua.1 ua.2 ub.1 ub.2).2 h, (spE_ok uc.1 uc.2 ud.1 ud.2).2 k⟩
  refine ⟨e, ?_⟩
  unfold wiB
  rw [decide_eq_true e, amB_iff.2 ⟨k.na, h.na, l⟩, amB_iff.2 ⟨h.nb, k.nb, r⟩]; rfl
theorem hull_ok {a b c d : Int} (ua : Uu a) (ub : Uu b) (uc : Uu c) (ud : Uu d) (h : SpOK a b) (k : SpOK c d) : SpOK (oleast a c 1) (oleast b d (-1)) := by
  obtain ⟨m1, m2, m3⟩ := least_lo ua uc h.na k.na
  obtain ⟨n1, n2, n3⟩ := least_hi ub ud h.nb k.nb
  obtain ⟨p1, p2, -⟩ := two_nn m1 h.na k.na h.za k.za ua uc
  obtain ⟨q1, q2, -⟩ := two_nn n1 h.nb k.nb h.zb k.zb ub ud
  have a1 := h.lo
  have a2 := h.hi
  have a3 := h.le
  exact ⟨p1, q1, by omega, by omega, by omega, p2, q2⟩
theorem has_iff {a b x : Int} (ux : Uu x) : hasB a b x = true ↔ frerr a = 0 ∧ frerr x = 0 ∧ frerr b = 0 ∧ frank a ≤ frank x ∧ frank x ≤ frank b := by
  unfold hasB
  rw [Bool.and_eq_true, amB_iff, amB_iff]
  constructor
  · rintro ⟨⟨h1, h2, h3⟩, ⟨h4, h5, h6⟩⟩; exact ⟨h1, h2, h5, h3, h6⟩
  · rintro ⟨h1, h2, h3, h4, h5⟩; exact ⟨⟨h1, h2, h4⟩, ⟨h2, h3, h5⟩⟩
theorem spanJoins_e {a b c d : Int} (h : spE2 a b c d ≠ 0) : meE a b c d = spE2 a b c d := by unfold meE; rw [if_neg h]
theorem spanJoins_a {a b c d x : Int} (ua : Uu a) (ub : Uu b) (uc : Uu c) (ud : Uu d) (ux : Uu x) (he : spE2 a b c d = 0) :
    (spE2 a b (huLo a b c d) (huHi a b c d) = 0 ∧ wiB a b (huLo a b c d) (huHi a b c d) = true ∧ spE2 c d (huLo a b c d) (huHi a b c d) = 0 ∧ wiB c d (huLo a b c d) (huHi a b c d) = true) ∧
    ((huLo a b c d != a) = false ∨ ((huLo a b c d != a) = true ∧ (huLo a b c d != c) = false)) ∧ ((huHi a b c d != b) = false ∨ ((huHi a b c d != b) = true ∧ (huHi a b c d != d) = false)) ∧
    ((meE a b c d = 4 ∧ (HasB a b x && HasB c d x) = false) ∨
     (meE a b c d = 0 ∧ spE2 (meLo a b c d) (meHi a b c d) a b = 0 ∧ wiB (meLo a b c d) (meHi a b c d) a b = true ∧ spE2 (meLo a b c d) (meHi a b c d) c d = 0 ∧ wiB (meLo a b c d) (meHi a b c d) c d = true ∧ HasB (meLo a b c d) (meHi a b c d) x = (HasB a b x && HasB c d x))) := by
  obtain ⟨e1, e2⟩ := spE2_zero.1 he
  have h := (spE_ok ua.1 ua.2 ub.1 ub.2).1 e1
  have k := (spE_ok uc.1 uc.2 ud.1 ud.2).1 e2
  obtain ⟨m1, m2, m3⟩ := least_lo ua uc h.na k.na
  obtain ⟨n1, n2, n3⟩ := least_hi ub ud h.nb k.nb
  obtain ⟨i1, i2, i3⟩ := least_hi ua uc h.na k.na
  obtain ⟨j1, j2, j3⟩ := least_lo ub ud h.nb k.nb
  obtain ⟨p1, p2, p3⟩ := two_nn m1 h.na k.na h.za k.za ua uc
  obtain ⟨q1, q2, q3⟩ := two_nn n1 h.nb k.nb h.zb k.zb ub ud
  obtain ⟨r1, r2, r3⟩ := two_nn i1 h.na k.na h.za k.za ua uc
  obtain ⟨s1, s2, s3⟩ := two_nn j1 h.nb k.nb h.zb k.zb ub ud
  have hu := hull_ok ua ub uc ud h k
  have eh : huLo a b c d = oleast a c 1 ∧ huHi a b c d = oleast b d (-1) := by unfold huLo huHi; rw [if_pos he, if_pos he]; exact ⟨rfl, rfl⟩
  have W1 := wi_of ua ub p3 q3 h hu m2 n2
  have W2 := wi_of uc ud p3 q3 k hu m3 n3
  have l1 := h.lo
  have l2 := k.lo
  have l3 := h.hi
  have l4 := k.hi
  refine ⟨by rw [eh.1, eh.2]; exact ⟨W1.1, W1.2, W2.1, W2.2⟩, ?_, ?_, ?_⟩
  · rw [eh.1]
    by_cases e : oleast a c 1 = a
    · left; rw [bne_eq_false_iff_eq]; exact e
    · right; exact ⟨by rw [bne_iff_ne]; exact e, by rw [bne_eq_false_iff_eq]; exact m1.resolve_left e⟩
  · rw [eh.2]
    by_cases e : oleast b d (-1) = b
    · left; rw [bne_eq_false_iff_eq]; exact e
    · right; exact ⟨by rw [bne_iff_ne]; exact e, by rw [bne_eq_false_iff_eq]; exact n1.resolve_left e⟩
  · have both : (HasB a b x && HasB c d x) = true ↔ hasV x = true ∧ frerr x = 0 ∧ frank (oleast a c (-1)) ≤ frank x ∧ frank x ≤ frank (oleast b d 1) := by
      unfold HasB
      simp only [Bool.and_eq_true, decide_eq_true_eq, has_iff ux]
      constructor
      · rintro ⟨⟨-, v, -, nx, -, f1, f2⟩, ⟨-, -, -, -, -, f3, f4⟩⟩
        refine ⟨v, nx, ?_, ?_⟩
        · rcases i1 with e | e <;> rw [e] <;> omega
        · rcases j1 with e | e <;> rw [e] <;> omega
      · rintro ⟨v, nx, f1, f2⟩
        exact ⟨⟨e1, v, h.na, nx, h.nb, by omega, by omega⟩, ⟨e2, v, k.na, nx, k.nb, by omega, by omega⟩⟩
    cases ha : amB (oleast a c (-1)) (oleast b d 1)
    · left
      have hlt := amB_false r1 s1 ha
      refine ⟨by unfold meE; rw [if_pos he, ha]; rfl, ?_⟩
      cases hb : (HasB a b x && HasB c d x)
      · rfl
      · have := both.1 hb; omega
    · right
      have hle := (amB_iff.1 ha).2.2
      have m0 : meE a b c d = 0 := by unfold meE; rw [if_pos he, if_pos ha]
      have em : meLo a b c d = oleast a c (-1) ∧ meHi a b c d = oleast b d 1 := by unfold meLo meHi; rw [if_pos m0, if_pos m0]; exact ⟨rfl, rfl⟩
      have lo : frank (oleast a c (-1)) < 9218868437227405312 := by rcases i1 with e | e <;> rw [e] <;> assumption
      have hi : -9218868437227405312 < frank (oleast b d 1) := by rcases j1 with e | e <;> rw [e] <;> assumption
      have om : SpOK (oleast a c (-1)) (oleast b d 1) := ⟨r1, s1, hle, lo, hi, r2, s2⟩
      have V1 := wi_of r3 s3 ua ub om h i2 j2
      have V2 := wi_of r3 s3 uc ud om k i3 j3
      rw [em.1, em.2]
      refine ⟨m0, V1.1, V1.2, V2.1, V2.2, ?_⟩
      have hm : HasB (oleast a c (-1)) (oleast b d 1) x = true ↔ hasV x = true ∧ frerr x = 0 ∧ frank (oleast a c (-1)) ≤ frank x ∧ frank x ≤ frank (oleast b d 1) := by
        unfold HasB
        simp only [Bool.and_eq_true, decide_eq_true_eq, has_iff ux]
        constructor
        · rintro ⟨-, v, -, nx, -, f1, f2⟩; exact ⟨v, nx, f1, f2⟩
        · rintro ⟨v, nx, f1, f2⟩; exact ⟨(spE_ok r3.1 r3.2 s3.1 s3.2).2 om, v, r1, nx, s1, f1, f2⟩
      cases hb : (HasB a b x && HasB c d x)
      · cases hx : HasB (oleast a c (-1)) (oleast b d 1) x
        · rfl
        · exact absurd (both.2 (hm.1 hx)) (by rw [hb]; decide)
      · exact hm.2 (both.1 hb)
theorem spanJoins_u {a b c d : Int} (ua : Uu a) (ub : Uu b) (uc : Uu c) (ud : Uu d) : (Uu (huLo a b c d) ∧ Uu (huHi a b c d)) ∧ (Uu (meLo a b c d) ∧ Uu (meHi a b c d)) := by
  have z : Uu 0 := ⟨by decide, by decide⟩
  have l : ∀ {x y : Int} (s : Int), Uu x → Uu y → Uu (oleast x y s) := fun s hx hy => oleast_bd (s := s) hx.1 hx.2 hy.1 hy.2
  refine ⟨⟨?_, ?_⟩, ⟨?_, ?_⟩⟩
  · unfold huLo; split; · exact l _ ua uc
    exact z
  · unfold huHi; split; · exact l _ ub ud
    exact z
  · unfold meLo; split; · exact l _ ua uc
    exact z
  · unfold meHi; split; · exact l _ ub ud
    exact z
end Go.Proofs.YtfnchcogdmpojaaDoor
