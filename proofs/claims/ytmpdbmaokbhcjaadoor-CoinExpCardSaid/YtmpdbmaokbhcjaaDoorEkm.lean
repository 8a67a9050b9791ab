/-
  SOME OF MY TEXTS in one: Ek El Em En Eo Elg Els. Each says what it proves.
-/
import Derived.Test.YtmpdbmaokbhcjaaDoorEab
set_option linter.unusedVariables false
set_option linter.unusedSimpArgs false
/-
  PLAIN: bounds by whole numbers with p places; e to a small quotient, summed up, squared so often.
-/
namespace Go.Proofs.YtmpdbmaokbhcjaaDoor.Ea

/-- two to the power of a whole number -/
def tw (e : Int) : Rat := if 0 ≤ e then 2 ^ e.toNat else 1 / 2 ^ (-e).toNat
theorem tw_nat (n : Nat) : tw (n : Int) = 2 ^ n := by unfold tw; rw [if_pos (by omega), Int.toNat_natCast]
theorem one_div_mul {a : Rat} (h : 0 < a) : 1 / a * a = 1 := Rat.div_mul_cancel (Rat.ne_of_gt h)
theorem tw_succ (e : Int) : tw (e + 1) = tw e * 2 := by
  unfold tw
  by_cases h : 0 ≤ e
  · rw [if_pos h, if_pos (by omega), show (e + 1).toNat = e.toNat + 1 by omega, Rat.pow_succ]
  · rw [if_neg h]
    by_cases h1 : e = -1
    · subst h1
      rw [if_pos (by omega), show ((-1 : Int) + 1).toNat = 0 by decide, Rat.pow_zero, show (-(-1 : Int)).toNat = 1 by decide, Rat.pow_one]
      exact (one_div_mul (by decide)).symm
    · rw [if_neg (by omega), show (-e).toNat = (-(e + 1)).toNat + 1 by omega, Rat.pow_succ]
      have h2 := two_pos (-(e + 1)).toNat
      generalize (2 : Rat) ^ (-(e + 1)).toNat = y at *
      have e1 := one_div_mul h2
      have e2 := one_div_mul (show 0 < y * 2 by grind)
      have e3 : (1 / y) * (y * (1 / (y * 2))) = 1 / (y * 2) := by rw [← Rat.mul_assoc, e1, Rat.one_mul]
      generalize 1 / y = u at *
      generalize 1 / (y * 2) = v at *
      grind
theorem tw_add_nat (e : Int) (n : Nat) : tw (e + n) = tw e * 2 ^ n := by
  induction n with
  | zero => rw [show e + ((0 : Nat) : Int) = e by omega, Rat.pow_zero, Rat.mul_one]
  | succ n ih => rw [show e + ((n + 1 : Nat) : Int) = e + n + 1 by omega, tw_succ, ih, Rat.pow_succ, Rat.mul_assoc]
theorem tw_pos (e : Int) : 0 < tw e := by
  unfold tw; split
  · exact two_pos _
  · rw [Rat.lt_div_iff (two_pos _)]; grind
theorem tw_add (a b : Int) : tw (a + b) = tw a * tw b := by
  by_cases h : 0 ≤ b
  · have := tw_add_nat a b.toNat
    have e2 := tw_nat b.toNat
    rw [show ((b.toNat : Nat) : Int) = b by omega] at this e2
    rw [this, e2]
  · have e1 := tw_add_nat (a + b) (-b).toNat
    have e2 := tw_add_nat b (-b).toNat
    rw [show a + b + (((-b).toNat : Nat) : Int) = a by omega] at e1
    rw [show b + (((-b).toNat : Nat) : Int) = ((0 : Nat) : Int) by omega, tw_nat, Rat.pow_zero] at e2
    have hp := two_pos (-b).toNat
    generalize (2 : Rat) ^ (-b).toNat = y at *
    have : (tw (a + b) - tw a * tw b) * y = 0 := by grind
    rcases Rat.mul_eq_zero.1 this with h | h
    · grind
    · grind
theorem tw_neg (e : Int) : tw (-e) * tw e = 1 := by
  rw [← tw_add, show -e + e = ((0 : Nat) : Int) by omega, tw_nat, Rat.pow_zero]
theorem tw_le {a b : Int} (h : a ≤ b) : tw a ≤ tw b := by
  have := tw_add_nat a (b - a).toNat
  rw [show a + (((b - a).toNat : Nat) : Int) = b by omega] at this
  rw [this]
  have g := Rat.mul_le_mul_of_nonneg_left (one_le_pow (a := 2) (by decide) (b - a).toNat) (Rat.le_of_lt (tw_pos a))
  grind

/-- lower and upper bound -/
structure Pr where
  l : Nat
  h : Nat
def cdv (a b : Nat) : Nat := a / b + (if a % b = 0 then 0 else 1)
def halfP (x : Pr) (n : Nat) : Pr := ⟨x.l / 2 ^ n, cdv x.h (2 ^ n)⟩
def timesP (x y : Pr) (p : Nat) : Pr := halfP ⟨x.l * y.l, x.h * y.h⟩ p
def overP (x : Pr) (n : Nat) : Pr := ⟨x.l / n, cdv x.h n⟩
def plusP (x y : Pr) : Pr := ⟨x.l + y.l, x.h + y.h⟩
def fixedP (m : Nat) (e : Int) (p : Nat) : Pr := if 0 ≤ e + p then ⟨m * 2 ^ (e + p).toNat, m * 2 ^ (e + p).toNat⟩ else halfP ⟨m, m⟩ (-e - p).toNat

theorem cdv_ge (a : Nat) {b : Nat} (hb : 0 < b) : a ≤ cdv a b * b := by
  have h1 := Nat.div_add_mod a b
  have h2 := Nat.mod_lt a hb
  unfold cdv
  rw [Nat.add_mul, Nat.mul_comm (a / b) b]
  generalize b * (a / b) = q at *
  split
  · omega
  · rw [Nat.one_mul]; omega
theorem cdv_lt (a : Nat) {b : Nat} (hb : 0 < b) : cdv a b * b < a + b := by
  have h1 := Nat.div_add_mod a b
  have h2 := Nat.mod_lt a hb
  unfold cdv
  rw [Nat.add_mul, Nat.mul_comm (a / b) b]
  generalize b * (a / b) = q at *
  split
  · omega
  · rw [Nat.one_mul]; omega
theorem cdv_le {a b c : Nat} (hb : 0 < b) (h : a ≤ c * b) : cdv a b ≤ c := by
  have h1 := cdv_lt a hb
  have h2 : cdv a b * b < (c + 1) * b := by rw [Nat.add_mul, Nat.one_mul]; omega
  have := Nat.lt_of_mul_lt_mul_right h2
  omega
theorem div_add_one_mul (a : Nat) {b : Nat} (hb : 0 < b) : a < (a / b + 1) * b := by
  have h1 := Nat.div_add_mod a b
  have h2 := Nat.mod_lt a hb
  rw [Nat.add_mul, Nat.mul_comm (a / b) b, Nat.one_mul]
  omega
/-- as near, after a division -/
theorem cdv_near {a b n c : Nat} (hn : 0 < n) (h : b ≤ a + c * n) : cdv b n ≤ a / n + c + 1 := by
  have h1 := div_add_one_mul a hn
  refine cdv_le hn ?_
  rw [Nat.add_mul] at h1
  rw [Nat.add_mul, Nat.add_mul]
  omega
theorem le_cdv {a b c : Nat} (hb : 0 < b) (h : c * b ≤ a) : c ≤ cdv a b := Nat.le_of_mul_le_mul_right (Nat.le_trans h (cdv_ge a hb)) hb

theorem fl_le {L b : Nat} {s : Rat} (hb : 0 < b) (h : (L : Rat) ≤ s * (b : Rat)) : ((L / b : Nat) : Rat) ≤ s := by
  have h1 : ((L / b * b : Nat) : Rat) ≤ (L : Rat) := Rat.natCast_le_natCast.2 (Nat.div_mul_le_self L b)
  rw [Rat.natCast_mul] at h1
  exact Rat.le_of_mul_le_mul_right (Rat.le_trans h1 h) (Rat.natCast_pos.2 hb)
theorem le_cd {L b : Nat} {s : Rat} (hb : 0 < b) (h : s * (b : Rat) ≤ (L : Rat)) : s ≤ ((cdv L b : Nat) : Rat) := by
  have h1 : (L : Rat) ≤ ((cdv L b * b : Nat) : Rat) := Rat.natCast_le_natCast.2 (cdv_ge L hb)
  rw [Rat.natCast_mul] at h1
  exact Rat.le_of_mul_le_mul_right (Rat.le_trans h h1) (Rat.natCast_pos.2 hb)
/-- bounds of r, with p places -/
def Bds (x : Pr) (p : Nat) (r : Rat) : Prop := (x.l : Rat) ≤ r * 2 ^ p ∧ r * 2 ^ p ≤ (x.h : Rat)
theorem bds_times {x y : Pr} {p : Nat} {r s : Rat} (h1 : Bds x p r) (h2 : Bds y p s) (hr : 0 ≤ r) (hs : 0 ≤ s) : Bds (timesP x y p) p (r * s) := by
  obtain ⟨a1, a2⟩ := h1
  obtain ⟨b1, b2⟩ := h2
  have hp := two_pos p
  have hx := Rat.natCast_nonneg (a := x.l)
  have hy := Rat.natCast_nonneg (a := y.l)
  have hr' := Rat.mul_nonneg hr (Rat.le_of_lt hp)
  have hs' := Rat.mul_nonneg hs (Rat.le_of_lt hp)
  constructor
  · refine fl_le (Nat.two_pow_pos p) ?_
    show ((x.l * y.l : Nat) : Rat) ≤ _
    rw [Rat.natCast_mul, cast_two]
    have := mul_le a1 b1 hr' hy
    grind
  · refine le_cd (Nat.two_pow_pos p) ?_
    show _ ≤ ((x.h * y.h : Nat) : Rat)
    rw [Rat.natCast_mul, cast_two]
    have := mul_le a2 b2 (Rat.natCast_nonneg (a := x.h)) hs'
    grind
theorem bds_over {x : Pr} {p n : Nat} {r s : Rat} (h1 : Bds x p r) (hn : 0 < n) (h : r = s * (n : Rat)) : Bds (overP x n) p s := by
  obtain ⟨a1, a2⟩ := h1
  subst h
  exact ⟨fl_le hn (by grind), le_cd hn (by grind)⟩
theorem bds_plus {x y : Pr} {p : Nat} {r s : Rat} (h1 : Bds x p r) (h2 : Bds y p s) : Bds (plusP x y) p (r + s) := by
  obtain ⟨a1, a2⟩ := h1
  obtain ⟨b1, b2⟩ := h2
  constructor
  · show ((x.l + y.l : Nat) : Rat) ≤ _
    rw [Rat.natCast_add]; grind
  · show _ ≤ ((x.h + y.h : Nat) : Rat)
    rw [Rat.natCast_add]; grind
theorem bds_fixed (m : Nat) (e : Int) (p : Nat) : Bds (fixedP m e p) p ((m : Rat) * tw e) := by
  have e0 : (m : Rat) * tw e * 2 ^ p = (m : Rat) * tw (e + p) := by rw [tw_add_nat]; grind
  unfold fixedP
  by_cases h : 0 ≤ e + p
  · rw [if_pos h]
    have e1 : (m : Rat) * tw e * 2 ^ p = ((m * 2 ^ (e + p).toNat : Nat) : Rat) := by
      rw [e0, Rat.natCast_mul, cast_two, ← tw_nat, show (((e + p).toNat : Nat) : Int) = e + p by omega]
    exact ⟨by rw [e1]; exact Rat.le_refl, by rw [e1]; exact Rat.le_refl⟩
  · rw [if_neg h]
    have e1 : (m : Rat) * tw e * 2 ^ p * ((2 ^ (-e - p).toNat : Nat) : Rat) = (m : Rat) := by
      rw [e0, cast_two, Rat.mul_assoc, ← tw_add_nat, show e + p + (((-e - p).toNat : Nat) : Int) = ((0 : Nat) : Int) by omega, tw_nat, Rat.pow_zero, Rat.mul_one]
    exact ⟨fl_le (Nat.two_pow_pos _) (by rw [e1]; exact Rat.le_refl), le_cd (Nat.two_pow_pos _) (by rw [e1]; exact Rat.le_refl)⟩

/-- the terms, and their sums -/
def tmP (t : Pr) (p : Nat) : Nat → Pr
  | 0 => ⟨2 ^ p, 2 ^ p⟩
  | k + 1 => overP (timesP (tmP t p k) t p) (k + 1)
def smP (t : Pr) (p : Nat) : Nat → Pr
  | 0 => tmP t p 0
  | k + 1 => plusP (smP t p k) (tmP t p (k + 1))
theorem fixed_one (p : Nat) : fixedP 1 0 p = ⟨2 ^ p, 2 ^ p⟩ := by
  unfold fixedP
  rw [if_pos (by omega), show ((0 : Int) + p).toNat = p by omega, Nat.one_mul]
theorem bds_tm {t : Pr} {p : Nat} {r : Rat} (h : Bds t p r) (hr : 0 ≤ r) : ∀ k, Bds (tmP t p k) p (tm r k)
  | 0 => by
    show Bds ⟨2 ^ p, 2 ^ p⟩ p 1
    exact ⟨by show ((2 ^ p : Nat) : Rat) ≤ _; rw [cast_two]; grind, by show _ ≤ ((2 ^ p : Nat) : Rat); rw [cast_two]; grind⟩
  | k + 1 => bds_over (bds_times (bds_tm h hr k) h (tm_nonneg hr k) hr) (by omega) (by have := tm_step r k; grind)
theorem bds_sm {t : Pr} {p : Nat} {r : Rat} (h : Bds t p r) (hr : 0 ≤ r) : ∀ k, Bds (smP t p k) p (E r (k + 1))
  | 0 => by
    have := bds_tm h hr 0
    rw [E_one]
    exact this
  | k + 1 => bds_plus (bds_sm h hr k) (bds_tm h hr (k + 1))
theorem tm_fall {t : Pr} {p : Nat} (h : 2 * t.h ≤ 2 ^ p) : ∀ k, k ≤ p → (tmP t p k).h ≤ 2 ^ (p - k)
  | 0, _ => Nat.le_refl _
  | k + 1, hk => by
    have ih := tm_fall h k (by omega)
    have hp := Nat.two_pow_pos p
    have e1 : 2 ^ (p - k) = 2 * 2 ^ (p - (k + 1)) := by rw [show p - k = (p - (k + 1)) + 1 by omega, Nat.pow_succ, Nat.mul_comm]
    show cdv (cdv ((tmP t p k).h * t.h) (2 ^ p)) (k + 1) ≤ _
    refine cdv_le (by omega) (Nat.le_trans (cdv_le (c := 2 ^ (p - (k + 1))) hp ?_) (Nat.le_mul_of_pos_right _ (by omega)))
    have h1 := Nat.mul_le_mul ih (Nat.le_refl t.h)
    have h2 := Nat.mul_le_mul_left (2 ^ (p - (k + 1))) h
    rw [e1] at h1
    have e2 : 2 ^ (p - (k + 1)) * (2 * t.h) = 2 * 2 ^ (p - (k + 1)) * t.h := by rw [Nat.mul_comm 2 (2 ^ (p - (k + 1))), Nat.mul_assoc]
    omega
theorem sm_size {t : Pr} {p : Nat} (h : 2 * t.h ≤ 2 ^ p) : ∀ k, k ≤ p → (smP t p k).h + 2 ^ (p - k) ≤ 2 * 2 ^ p
  | 0, _ => by show 2 ^ p + 2 ^ (p - 0) ≤ _; rw [Nat.sub_zero]; omega
  | k + 1, hk => by
    have ih := sm_size h k (by omega)
    have h1 := tm_fall h (k + 1) hk
    have e1 : 2 ^ (p - k) = 2 * 2 ^ (p - (k + 1)) := by rw [show p - k = (p - (k + 1)) + 1 by omega, Nat.pow_succ, Nat.mul_comm]
    show (smP t p k).h + (tmP t p (k + 1)).h + _ ≤ _
    omega
theorem sm_ge (t : Pr) (p : Nat) : ∀ k, 2 ^ p ≤ (smP t p k).l
  | 0 => Nat.le_refl _
  | k + 1 => by
    have ih := sm_ge t p k
    show 2 ^ p ≤ (smP t p k).l + (tmP t p (k + 1)).l
    omega
theorem times_l_le (x y : Pr) (p : Nat) (hx : x.l ≤ x.h) (hy : y.l ≤ y.h) : (timesP x y p).l ≤ (timesP x y p).h := by
  show x.l * y.l / 2 ^ p ≤ cdv (x.h * y.h) (2 ^ p)
  refine le_cdv (Nat.two_pow_pos _) (Nat.le_trans (Nat.div_mul_le_self _ _) (Nat.mul_le_mul hx hy))
theorem over_l_le (x : Pr) {n : Nat} (hn : 0 < n) (hx : x.l ≤ x.h) : (overP x n).l ≤ (overP x n).h := by
  show x.l / n ≤ cdv x.h n
  exact le_cdv hn (Nat.le_trans (Nat.div_mul_le_self _ _) hx)
theorem tm_lh {t : Pr} {p : Nat} (h : t.l ≤ t.h) : ∀ k, (tmP t p k).l ≤ (tmP t p k).h
  | 0 => Nat.le_refl _
  | k + 1 => over_l_le _ (by omega) (times_l_le _ _ _ (tm_lh h k) h)
theorem sm_lh {t : Pr} {p : Nat} (h : t.l ≤ t.h) : ∀ k, (smP t p k).l ≤ (smP t p k).h
  | 0 => Nat.le_refl _
  | k + 1 => Nat.add_le_add (sm_lh h k) (tm_lh h (k + 1))
/-- how near the bounds of a product are -/
theorem times_near {x y : Pr} {p a b c : Nat} (hx : x.h ≤ x.l + a) (hy : y.h ≤ y.l + b) (h : a * y.h + b * x.l ≤ c * 2 ^ p) : (timesP x y p).h ≤ (timesP x y p).l + c + 1 := by
  show cdv (x.h * y.h) (2 ^ p) ≤ x.l * y.l / 2 ^ p + c + 1
  refine cdv_near (Nat.two_pow_pos _) ?_
  have h1 := Nat.mul_le_mul hx (Nat.le_refl y.h)
  have h2 := Nat.mul_le_mul (Nat.le_refl x.l) hy
  rw [Nat.add_mul] at h1
  rw [Nat.mul_add, Nat.mul_comm x.l b] at h2
  omega
theorem over_near {x : Pr} {n a c : Nat} (hn : 0 < n) (hx : x.h ≤ x.l + a) (h : a ≤ c * n) : (overP x n).h ≤ (overP x n).l + c + 1 :=
  cdv_near hn (by omega)
theorem tm_le {t : Pr} {p : Nat} (h : 2 * t.h ≤ 2 ^ p) : ∀ k, (tmP t p k).h ≤ 2 ^ p
  | 0 => Nat.le_refl _
  | k + 1 => by
    have ih := tm_le h k
    have hp := Nat.two_pow_pos p
    show cdv (cdv ((tmP t p k).h * t.h) (2 ^ p)) (k + 1) ≤ _
    refine cdv_le (by omega) (Nat.le_trans (cdv_le (c := 2 ^ p) hp ?_) (Nat.le_mul_of_pos_right _ (by omega)))
    exact Nat.mul_le_mul ih (by omega)
theorem tm_near {t : Pr} {p : Nat} (h : 8 * t.h ≤ 2 ^ p) (ht : t.h ≤ t.l + 1) (htl : t.l ≤ t.h) : ∀ k, (tmP t p k).h ≤ (tmP t p k).l + 4 ∧ (tmP t p k).l ≤ 2 ^ p
  | 0 => ⟨by show 2 ^ p ≤ 2 ^ p + 4; omega, Nat.le_refl _⟩
  | k + 1 => by
    obtain ⟨ih, ih2⟩ := tm_near h ht htl k
    have hp := Nat.two_pow_pos p
    have h1 : (timesP (tmP t p k) t p).h ≤ (timesP (tmP t p k) t p).l + 2 + 1 := times_near ih ht (by omega)
    have h2 := over_near (n := k + 1) (a := 3) (c := 3) (by omega) h1 (by omega)
    refine ⟨by show (overP (timesP (tmP t p k) t p) (k + 1)).h ≤ (overP (timesP (tmP t p k) t p) (k + 1)).l + 4; omega, ?_⟩
    show (tmP t p k).l * t.l / 2 ^ p / (k + 1) ≤ _
    refine Nat.le_trans (Nat.div_le_self _ _) ?_
    refine Nat.le_of_mul_le_mul_right (Nat.le_trans (Nat.div_mul_le_self _ _) (Nat.mul_le_mul ih2 ?_)) hp
    omega
theorem sm_near {t : Pr} {p : Nat} (h : 8 * t.h ≤ 2 ^ p) (ht : t.h ≤ t.l + 1) (htl : t.l ≤ t.h) : ∀ k, (smP t p k).h ≤ (smP t p k).l + 4 * k
  | 0 => Nat.le_refl _
  | k + 1 => by
    have ih := sm_near h ht htl k
    have h1 := (tm_near h ht htl (k + 1)).1
    show (smP t p k).h + (tmP t p (k + 1)).h ≤ (smP t p k).l + (tmP t p (k + 1)).l + 4 * (k + 1)
    omega

/-- squared so often -/
def sqP (x : Pr) (p : Nat) : Nat → Pr
  | 0 => x
  | k + 1 => timesP (sqP x p k) (sqP x p k) p
def uq (u : Nat) : Nat → Nat
  | 0 => u
  | k + 1 => 2 * uq u k * 8 ^ 2 ^ k
theorem sq_ge {x : Pr} {p : Nat} (h : 2 ^ p ≤ x.l) (hl : x.l ≤ x.h) : ∀ k, 2 ^ p ≤ (sqP x p k).l ∧ (sqP x p k).l ≤ (sqP x p k).h
  | 0 => ⟨h, hl⟩
  | k + 1 => by
    obtain ⟨i1, i2⟩ := sq_ge h hl k
    refine ⟨?_, times_l_le _ _ _ i2 i2⟩
    show 2 ^ p ≤ (sqP x p k).l * (sqP x p k).l / 2 ^ p
    rw [Nat.le_div_iff_mul_le (Nat.two_pow_pos _)]
    exact Nat.mul_le_mul i1 i1
theorem sq_size {x : Pr} {p : Nat} (h : 2 ^ p ≤ x.l) (hl : x.l ≤ x.h) (hx : x.h + 1 ≤ 2 ^ p * 8) : ∀ k, (sqP x p k).h + 1 ≤ 2 ^ p * 8 ^ 2 ^ k
  | 0 => hx
  | k + 1 => by
    have ih := sq_size h hl hx k
    obtain ⟨i1, i2⟩ := sq_ge h hl k
    have hp := Nat.two_pow_pos p
    have e8 : 8 ^ 2 ^ (k + 1) = 8 ^ 2 ^ k * 8 ^ 2 ^ k := by rw [← Nat.pow_add]; congr 1; rw [Nat.pow_succ]; omega
    have hB : 0 < 8 ^ 2 ^ k := Nat.pow_pos (by decide)
    rw [e8]
    generalize 8 ^ 2 ^ k = B at *
    show cdv ((sqP x p k).h * (sqP x p k).h) (2 ^ p) + 1 ≤ _
    generalize (sqP x p k).h = H at *
    generalize 2 ^ p = P at *
    have g0 : 0 < P * (B * B) := Nat.mul_pos hp (Nat.mul_pos hB hB)
    suffices hs : cdv (H * H) P ≤ P * (B * B) - 1 by omega
    refine cdv_le hp ?_
    have g1 := Nat.mul_le_mul ih ih
    have e1 : P * B * (P * B) = P * (B * B) * P := by
      ac_rfl
    rw [e1, Nat.add_mul, Nat.mul_add] at g1
    rw [Nat.sub_mul]
    omega
theorem sq_near {x : Pr} {p u : Nat} (h : 2 ^ p ≤ x.l) (hl : x.l ≤ x.h) (hx : x.h + 1 ≤ 2 ^ p * 8) (hu : x.h + 1 ≤ x.l + u) : ∀ k, (sqP x p k).h + 1 ≤ (sqP x p k).l + uq u k
  | 0 => hu
  | k + 1 => by
    have ih := sq_near h hl hx hu k
    have hs := sq_size h hl hx k
    obtain ⟨i1, i2⟩ := sq_ge h hl k
    have hB : 0 < 8 ^ 2 ^ k := Nat.pow_pos (by decide)
    have hU : 0 < uq u k := by omega
    show (timesP (sqP x p k) (sqP x p k) p).h + 1 ≤ (timesP (sqP x p k) (sqP x p k) p).l + 2 * uq u k * 8 ^ 2 ^ k
    obtain ⟨v, hv⟩ : ∃ v, uq u k = v + 1 := ⟨uq u k - 1, by omega⟩
    have hn := times_near (x := sqP x p k) (y := sqP x p k) (p := p) (a := v) (b := v) (c := 2 * v * 8 ^ 2 ^ k) (by omega) (by omega) (by
      have g1 := Nat.mul_le_mul_left v (show (sqP x p k).h ≤ 2 ^ p * 8 ^ 2 ^ k by omega)
      have g2 := Nat.mul_le_mul_left v (show (sqP x p k).l ≤ 2 ^ p * 8 ^ 2 ^ k by omega)
      have e : 2 * v * 8 ^ 2 ^ k * 2 ^ p = v * (2 ^ p * 8 ^ 2 ^ k) + v * (2 ^ p * 8 ^ 2 ^ k) := by
        rw [Nat.mul_assoc, Nat.mul_assoc, Nat.mul_comm (8 ^ 2 ^ k)]; omega
      omega)
    rw [hv]
    generalize 8 ^ 2 ^ k = B at *
    have e : 2 * (v + 1) * B = 2 * v * B + 2 * B := by rw [Nat.mul_add, Nat.add_mul]
    omega
theorem uq_le (u : Nat) : ∀ k, uq u k ≤ u * 2 ^ (k + 3 * (2 ^ k - 1))
  | 0 => by show u ≤ _; simp
  | k + 1 => by
    have ih := uq_le u k
    show 2 * uq u k * 8 ^ 2 ^ k ≤ _
    have h2 := Nat.two_pow_pos k
    have e8 : 8 ^ 2 ^ k = 2 ^ (3 * 2 ^ k) := by rw [show (8 : Nat) = 2 ^ 3 by decide, ← Nat.pow_mul]
    have e : u * 2 ^ (k + 1 + 3 * (2 ^ (k + 1) - 1)) = 2 * (u * 2 ^ (k + 3 * (2 ^ k - 1))) * 2 ^ (3 * 2 ^ k) := by
      rw [show k + 1 + 3 * (2 ^ (k + 1) - 1) = (k + 3 * (2 ^ k - 1)) + 3 * 2 ^ k + 1 by rw [Nat.pow_succ]; omega, Nat.pow_succ, Nat.pow_add, Nat.mul_comm 2 (u * _), ← Nat.mul_assoc, ← Nat.mul_assoc, Nat.mul_right_comm]
    rw [e8, e]
    exact Nat.mul_le_mul_right _ (Nat.mul_le_mul_left _ ih)
theorem div_le {a b c : Rat} (hc : 0 < c) : a / c ≤ b ↔ a ≤ b * c := by
  have e : a / c * c = a := Rat.div_mul_cancel (Rat.ne_of_gt hc)
  constructor
  · intro h
    have := Rat.mul_le_mul_of_nonneg_right h (Rat.le_of_lt hc)
    grind
  · intro h
    exact Rat.le_of_mul_le_mul_right (by rw [e]; exact h) hc
theorem dn_sq {x : Pr} {p : Nat} {r : Rat} (hr : 0 ≤ r) (h : Dn r ((x.l : Rat) / 2 ^ p)) (h2 : Up r ((x.h : Rat) / 2 ^ p)) : ∀ k, Dn (r * 2 ^ k) (((sqP x p k).l : Rat) / 2 ^ p) ∧ Up (r * 2 ^ k) (((sqP x p k).h : Rat) / 2 ^ p)
  | 0 => by rw [Rat.pow_zero, Rat.mul_one]; exact ⟨h, h2⟩
  | k + 1 => by
    obtain ⟨i1, i2⟩ := dn_sq hr h h2 k
    have hp := two_pos p
    have hrk := Rat.mul_nonneg hr (two_nonneg k)
    have e : r * 2 ^ (k + 1) = r * 2 ^ k + r * 2 ^ k := by rw [Rat.pow_succ]; grind
    rw [e]
    have hl0 : 0 ≤ ((sqP x p k).l : Rat) / 2 ^ p := by rw [le_div hp]; have := Rat.natCast_nonneg (a := (sqP x p k).l); grind
    have d1 := dn_mul hrk hrk i1 i1 hl0 hl0
    have d2 := up_mul hrk hrk i2 i2
    have el : ((sqP x p k).l : Rat) / 2 ^ p * 2 ^ p = ((sqP x p k).l : Rat) := Rat.div_mul_cancel (Rat.ne_of_gt hp)
    have eh : ((sqP x p k).h : Rat) / 2 ^ p * 2 ^ p = ((sqP x p k).h : Rat) := Rat.div_mul_cancel (Rat.ne_of_gt hp)
    generalize ((sqP x p k).l : Rat) / 2 ^ p = L at *
    generalize ((sqP x p k).h : Rat) / 2 ^ p = H at *
    constructor
    · refine d1.le ?_
      rw [div_le hp]
      refine fl_le (Nat.two_pow_pos p) ?_
      show (((sqP x p k).l * (sqP x p k).l : Nat) : Rat) ≤ _
      rw [Rat.natCast_mul, cast_two, ← el]
      grind
    · refine d2.le ?_
      rw [le_div hp]
      refine le_cd (Nat.two_pow_pos p) ?_
      show _ ≤ (((sqP x p k).h * (sqP x p k).h : Nat) : Rat)
      rw [Rat.natCast_mul, cast_two, ← eh]
      grind
end Go.Proofs.YtmpdbmaokbhcjaaDoor.Ea

/-
  PLAIN: the bounds that are told of e to a number: how near they are, and how great.
-/
namespace Go.Proofs.YtmpdbmaokbhcjaaDoor.Ea

theorem fixed_small {m p b : Nat} {e : Int} (hm : m < 2 ^ b) (hs : (b : Int) + e ≤ -16) (hp : 16 ≤ p) : (fixedP m e p).h ≤ 2 ^ (p - 16) ∧ (fixedP m e p).l ≤ (fixedP m e p).h ∧ (fixedP m e p).h ≤ (fixedP m e p).l + 1 := by
  unfold fixedP
  by_cases h : 0 ≤ e + p
  · rw [if_pos h]
    refine ⟨?_, Nat.le_refl _, Nat.le_succ _⟩
    show m * 2 ^ (e + p).toNat ≤ _
    refine Nat.le_trans (Nat.mul_le_mul_right _ (Nat.le_of_lt hm)) ?_
    rw [← Nat.pow_add]
    exact Nat.pow_le_pow_right (by decide) (by omega)
  · rw [if_neg h]
    have hq := Nat.two_pow_pos (-e - p).toNat
    refine ⟨?_, ?_, ?_⟩
    · show cdv m (2 ^ (-e - p).toNat) ≤ _
      refine cdv_le hq ?_
      rw [← Nat.pow_add]
      exact Nat.le_trans (Nat.le_of_lt hm) (Nat.pow_le_pow_right (by decide) (by omega))
    · show m / _ ≤ cdv m _
      unfold cdv; omega
    · show cdv m _ ≤ m / _ + 1
      unfold cdv; split <;> omega

/-- e to m times 2^e, with p places, the sum taken as far as k, squared s times -/
def growP (m : Nat) (e : Int) (p k s : Nat) : Pr := sqP ⟨(smP (fixedP m (e - s) p) p k).l, (smP (fixedP m (e - s) p) p k).h + 4⟩ p s
def Ww (k s : Nat) : Nat := (4 * k + 5) * 2 ^ (s + 3 * (2 ^ s - 1))
structure Good (x : Rat) (p : Nat) (y : Pr) : Prop where
  lo : Lo x ((y.l : Rat) / 2 ^ p)
  hi : Hi x ((y.h : Rat) / 2 ^ p)
theorem grow_ok {m p b k s : Nat} {e : Int} (hm : m < 2 ^ b) (hs : (b : Int) + e - s ≤ -16) (hp : 16 ≤ p) (hk : k ≤ p) (hend : (tmP (fixedP m (e - s) p) p k).h ≤ 1) :
    2 ^ p ≤ (growP m e p k s).l ∧ (growP m e p k s).l ≤ (growP m e p k s).h ∧ (growP m e p k s).h + 1 ≤ (growP m e p k s).l + Ww k s ∧ (growP m e p k s).h + 1 ≤ 2 ^ p * 8 ^ 2 ^ s ∧
      Good ((m : Rat) * tw e) p (growP m e p k s) := by
  obtain ⟨f1, f2, f3⟩ := fixed_small (p := p) (e := e - s) hm (by omega) hp
  have hb := bds_fixed m (e - s) p
  unfold growP
  obtain ⟨r, hr⟩ : ∃ r, r = (m : Rat) * tw (e - s) := ⟨_, rfl⟩
  rw [← hr] at hb
  generalize fixedP m (e - s) p = t at *
  have hr0 : 0 ≤ r := by rw [hr]; exact Rat.mul_nonneg Rat.natCast_nonneg (Rat.le_of_lt (tw_pos _))
  have e16 : 2 ^ p = 65536 * 2 ^ (p - 16) := by
    have : 2 ^ p = 2 ^ (16 + (p - 16)) := by congr 1; omega
    rw [this, Nat.pow_add]
  have hp16 := Nat.two_pow_pos (p - 16)
  have t8 : 8 * t.h ≤ 2 ^ p := by omega
  have s1 := sm_ge t p k
  have s2 := sm_size (t := t) (p := p) (by omega) k hk
  have s3 := sm_near t8 f3 f2 k
  have q1 := bds_sm hb hr0 k
  have q2 := bds_tm hb hr0 k
  have hP := two_pos p
  have hr1 : 2 * r ≤ 1 := by
    have h1 := hb.2
    have h2 : (t.h : Rat) * 2 ≤ 2 ^ p := by
      rw [← cast_two]
      have : ((t.h * 2 : Nat) : Rat) ≤ ((2 ^ p : Nat) : Rat) := Rat.natCast_le_natCast.2 (by omega)
      rw [Rat.natCast_mul] at this
      exact this
    refine Rat.le_of_mul_le_mul_right (c := 2 ^ p) ?_ hP
    grind
  -- the sum, and what is behind it
  have hdn : Dn r (((smP t p k).l : Rat) / 2 ^ p) := (dn_E r (k + 1)).le ((div_le hP).2 q1.1)
  have hup : Up r ((((smP t p k).h + 4 : Nat) : Rat) / 2 ^ p) := by
    refine (up_tail hr0 (K := k + 1) ?_).le ?_
    · have : (1 : Rat) ≤ ((k + 1 + 1 : Nat) : Rat) := Rat.natCast_le_natCast.2 (show 1 ≤ k + 1 + 1 by omega)
      grind
    · rw [le_div hP]
      have g1 := q1.2
      have g2 : tm r k * 2 ^ p ≤ 1 := Rat.le_trans q2.2 (Rat.natCast_le_natCast.2 hend)
      have g3 := tm_step r k
      have g4 : tm r (k + 1) ≤ tm r k := by
        have c1 : (1 : Rat) ≤ ((k + 1 : Nat) : Rat) := Rat.natCast_le_natCast.2 (show 1 ≤ k + 1 by omega)
        have c2 := Rat.mul_le_mul_of_nonneg_right c1 (tm_nonneg hr0 (k + 1))
        have c3 := Rat.mul_le_mul_of_nonneg_right (show r ≤ 1 by grind) (tm_nonneg hr0 k)
        grind
      have g5 := Rat.mul_le_mul_of_nonneg_right g4 (Rat.le_of_lt hP)
      rw [Rat.natCast_add]
      have : ((4 : Nat) : Rat) = 4 := rfl
      rw [this]
      grind
  obtain ⟨z, hz⟩ : ∃ z : Pr, z = ⟨(smP t p k).l, (smP t p k).h + 4⟩ := ⟨_, rfl⟩
  have zl : z.l = (smP t p k).l := by rw [hz]
  have zh : z.h = (smP t p k).h + 4 := by rw [hz]
  rw [← hz]
  have w1 : 2 ^ p ≤ z.l := by omega
  have w2 : z.l ≤ z.h := by
    have := q1.1
    have h2 := q1.2
    have h3 : (smP t p k).l ≤ (smP t p k).h := Rat.natCast_le_natCast.1 (Rat.le_trans this h2)
    omega
  have hpk := Nat.two_pow_pos (p - k)
  have w3 : z.h + 1 ≤ 2 ^ p * 8 := by omega
  obtain ⟨a1, a2⟩ := sq_ge w1 w2 s
  have a3 := sq_near w1 w2 w3 (u := 4 * k + 5) (by omega) s
  have a4 := sq_size w1 w2 w3 s
  obtain ⟨d1, d2⟩ := dn_sq (x := z) (p := p) hr0 (by rw [zl]; exact hdn) (by rw [zh]; exact hup) s
  have ex : r * 2 ^ s = (m : Rat) * tw e := by rw [hr, Rat.mul_assoc, ← tw_add_nat, show e - (s : Int) + s = e by omega]
  rw [ex] at d1 d2
  have hx0 : 0 ≤ (m : Rat) * tw e := Rat.mul_nonneg Rat.natCast_nonneg (Rat.le_of_lt (tw_pos _))
  refine ⟨a1, a2, Nat.le_trans a3 (Nat.add_le_add_left (uq_le _ s) _), a4, ⟨lo_dn hx0 d1, hi_up hx0 d2⟩⟩
/-- turned over -/
def negP (y : Pr) (p : Nat) : Pr := ⟨2 ^ (2 * p) / y.h, 2 ^ (2 * p) / y.l + 1⟩
theorem neg_ok {x : Rat} {p w : Nat} {y : Pr} (h : Good x p y) (h1 : 2 ^ p ≤ y.l) (h2 : y.l ≤ y.h) (hw : y.h ≤ y.l + w) :
    Good (-x) p (negP y p) ∧ (negP y p).h ≤ (negP y p).l + 2 * w + 1 ∧ (negP y p).h ≤ 2 ^ p + 1 := by
  have hp := Nat.two_pow_pos p
  have hP := two_pos p
  have e2 : 2 ^ (2 * p) = 2 ^ p * 2 ^ p := by rw [← Nat.pow_add]; congr 1; omega
  have hl : 0 < y.l := by omega
  have hh : 0 < y.h := by omega
  have hlr : (0 : Rat) < (y.l : Rat) := Rat.natCast_pos.2 hl
  have hhr : (0 : Rat) < (y.h : Rat) := Rat.natCast_pos.2 hh
  refine ⟨⟨?_, ?_⟩, ?_, ?_⟩
  · refine (lo_neg h.hi).le ?_
    rw [div_le hP]
    refine fl_le hh ?_
    rw [e2, Rat.natCast_mul, cast_two]
    have e := one_div_mul (show 0 < (y.h : Rat) / 2 ^ p by rw [Rat.lt_div_iff hP]; grind)
    have e3 : (y.h : Rat) / 2 ^ p * 2 ^ p = (y.h : Rat) := Rat.div_mul_cancel (Rat.ne_of_gt hP)
    generalize (y.h : Rat) / 2 ^ p = H at *
    rw [← e3]
    generalize 1 / H = G at *
    have : G * 2 ^ p * (H * 2 ^ p) = (G * H) * (2 ^ p * 2 ^ p) := by grind
    rw [this, e]
    grind
  · refine (hi_neg (by rw [Rat.lt_div_iff hP]; grind) h.lo).le ?_
    rw [le_div hP]
    show _ ≤ ((2 ^ (2 * p) / y.l + 1 : Nat) : Rat)
    have g : 2 ^ (2 * p) ≤ (2 ^ (2 * p) / y.l + 1) * y.l := Nat.le_of_lt (div_add_one_mul _ hl)
    have g2 : ((2 ^ (2 * p) : Nat) : Rat) ≤ ((2 ^ (2 * p) / y.l + 1 : Nat) : Rat) * (y.l : Rat) := by
      rw [← Rat.natCast_mul]; exact Rat.natCast_le_natCast.2 g
    refine Rat.le_of_mul_le_mul_right (Rat.le_trans ?_ g2) hlr
    rw [e2, Rat.natCast_mul, cast_two]
    have e := one_div_mul (show 0 < (y.l : Rat) / 2 ^ p by rw [Rat.lt_div_iff hP]; grind)
    have e3 : (y.l : Rat) / 2 ^ p * 2 ^ p = (y.l : Rat) := Rat.div_mul_cancel (Rat.ne_of_gt hP)
    generalize (y.l : Rat) / 2 ^ p = H at *
    rw [← e3]
    generalize 1 / H = G at *
    have : G * 2 ^ p * (H * 2 ^ p) = (G * H) * (2 ^ p * 2 ^ p) := by grind
    rw [this, e]
    grind
  · show 2 ^ (2 * p) / y.l + 1 ≤ 2 ^ (2 * p) / y.h + 2 * w + 1
    obtain ⟨q, hq⟩ : ∃ q, q = 2 ^ (2 * p) / y.h := ⟨_, rfl⟩
    rw [← hq]
    have g1 := div_add_one_mul (2 ^ (2 * p)) hh
    rw [← hq] at g1
    have g2 : q ≤ 2 ^ p := by
      rw [hq]
      refine Nat.le_of_mul_le_mul_right (Nat.le_trans (Nat.div_mul_le_self _ _) ?_) hh
      rw [e2]
      exact Nat.mul_le_mul_left _ (by omega)
    suffices hs : 2 ^ (2 * p) / y.l < q + 1 + 2 * w by omega
    rw [Nat.div_lt_iff_lt_mul hl]
    refine Nat.lt_of_lt_of_le g1 ?_
    have g3 := Nat.mul_le_mul_left (q + 1) hw
    rw [Nat.mul_add] at g3
    rw [Nat.add_mul (q + 1)]
    have g4 : (q + 1) * w ≤ 2 * w * y.l := by
      have := Nat.mul_le_mul_right w (show q + 1 ≤ 2 * y.l by omega)
      rw [Nat.mul_right_comm] 
      exact this
    omega
  · show 2 ^ (2 * p) / y.l + 1 ≤ 2 ^ p + 1
    have : 2 ^ (2 * p) / y.l ≤ 2 ^ p := by
      refine Nat.le_of_mul_le_mul_right (Nat.le_trans (Nat.div_mul_le_self _ _) ?_) hl
      rw [e2]
      exact Nat.mul_le_mul_left _ h1
    omega
end Go.Proofs.YtmpdbmaokbhcjaaDoor.Ea

/-
  PLAIN: bounds of twice the inverse hyperbolic tangent of a quotient of at most 1/3.
-/
namespace Go.Proofs.YtmpdbmaokbhcjaaDoor.Ea

theorem pow_up {x y : Rat} (hx : 0 ≤ x) (h : x ≤ y) : ∀ n : Nat, y ^ (n + 1) - x ^ (n + 1) ≤ ((n + 1 : Nat) : Rat) * y ^ n * (y - x)
  | 0 => by
    rw [Rat.pow_succ, Rat.pow_succ, Rat.pow_zero, Rat.pow_zero]
    have : ((0 + 1 : Nat) : Rat) = 1 := rfl
    rw [this]; grind
  | n + 1 => by
    have ih := pow_up hx h n
    have hy : 0 ≤ y := Rat.le_trans hx h
    have e1 : y ^ (n + 1 + 1) - x ^ (n + 1 + 1) = (y ^ (n + 1) - x ^ (n + 1)) * y + x ^ (n + 1) * (y - x) := by rw [Rat.pow_succ y (n + 1), Rat.pow_succ x (n + 1)]; grind
    have h1 := Rat.mul_le_mul_of_nonneg_right ih hy
    have h2 := Rat.mul_le_mul_of_nonneg_right (pow_le hx h (n + 1)) (show 0 ≤ y - x by grind)
    have e2 : ((n + 1 + 1 : Nat) : Rat) = ((n + 1 : Nat) : Rat) + 1 := Rat.natCast_add (n + 1) 1
    have e3 : y ^ (n + 1) = y ^ n * y := Rat.pow_succ y n
    rw [e1, e2]
    rw [e3] at h2 h1 ⊢
    clear ih e1 e2 e3
    generalize y ^ n = Y at *
    generalize x ^ (n + 1) = X at *
    generalize ((n + 1 : Nat) : Rat) = c at *
    grind
theorem pow_dn {x y : Rat} (hx : 0 ≤ x) (h : x ≤ y) : ∀ n : Nat, ((n + 1 : Nat) : Rat) * x ^ n * (y - x) ≤ y ^ (n + 1) - x ^ (n + 1)
  | 0 => by
    rw [Rat.pow_succ, Rat.pow_succ, Rat.pow_zero, Rat.pow_zero]
    have : ((0 + 1 : Nat) : Rat) = 1 := rfl
    rw [this]; grind
  | n + 1 => by
    have ih := pow_dn hx h n
    have hy : 0 ≤ y := Rat.le_trans hx h
    have e1 : y ^ (n + 1 + 1) - x ^ (n + 1 + 1) = (y ^ (n + 1) - x ^ (n + 1)) * x + y ^ (n + 1) * (y - x) := by rw [Rat.pow_succ y (n + 1), Rat.pow_succ x (n + 1)]; grind
    have h1 := Rat.mul_le_mul_of_nonneg_right ih hx
    have h2 := Rat.mul_le_mul_of_nonneg_right (pow_le hx h (n + 1)) (show 0 ≤ y - x by grind)
    have e2 : ((n + 1 + 1 : Nat) : Rat) = ((n + 1 : Nat) : Rat) + 1 := Rat.natCast_add (n + 1) 1
    have e3 : x ^ (n + 1) = x ^ n * x := Rat.pow_succ x n
    rw [e1, e2]
    rw [e3] at h2 h1 ⊢
    clear ih e1 e2 e3
    generalize y ^ (n + 1) = Y at *
    generalize x ^ n = X at *
    generalize ((n + 1 : Nat) : Rat) = c at *
    grind
theorem ah_up {x y : Rat} (hx : 0 ≤ x) (h : x ≤ y) (hy : y ≤ 1) : ∀ K, (ah y K - ah x K) * (1 - y * y) ≤ 2 * (y - x) * (1 - y ^ (2 * K))
  | 0 => by
    show (0 - 0 : Rat) * _ ≤ _
    rw [show 2 * 0 = 0 from rfl, Rat.pow_zero]; grind
  | K + 1 => by
    have ih := ah_up hx h hy K
    have h1 := pow_up hx h (2 * K)
    have hn : (0 : Rat) < ((2 * K + 1 : Nat) : Rat) := Rat.natCast_pos.2 (by omega)
    have hy0 : 0 ≤ y := Rat.le_trans hx h
    have hyy : 0 ≤ 1 - y * y := by have := Rat.mul_nonneg (show 0 ≤ 1 - y by grind) (show 0 ≤ 1 + y by grind); grind
    show (ah y K + 2 * (y ^ (2 * K + 1) / ((2 * K + 1 : Nat) : Rat)) - (ah x K + 2 * (x ^ (2 * K + 1) / ((2 * K + 1 : Nat) : Rat)))) * (1 - y * y) ≤ _
    have e1 : y ^ (2 * K + 1) / ((2 * K + 1 : Nat) : Rat) * ((2 * K + 1 : Nat) : Rat) = y ^ (2 * K + 1) := Rat.div_mul_cancel (Rat.ne_of_gt hn)
    have e2 : x ^ (2 * K + 1) / ((2 * K + 1 : Nat) : Rat) * ((2 * K + 1 : Nat) : Rat) = x ^ (2 * K + 1) := Rat.div_mul_cancel (Rat.ne_of_gt hn)
    have e3 : y ^ (2 * (K + 1)) = y ^ (2 * K) * (y * y) := by rw [show 2 * (K + 1) = 2 * K + 1 + 1 by omega, Rat.pow_succ, Rat.pow_succ]; grind
    generalize y ^ (2 * K + 1) / ((2 * K + 1 : Nat) : Rat) = u at *
    generalize x ^ (2 * K + 1) / ((2 * K + 1 : Nat) : Rat) = v at *
    rw [← e1, ← e2] at h1
    have g : u - v ≤ y ^ (2 * K) * (y - x) := by
      refine Rat.le_of_mul_le_mul_right (c := ((2 * K + 1 : Nat) : Rat)) ?_ hn
      grind
    have g2 := Rat.mul_le_mul_of_nonneg_right g hyy
    rw [e3]
    grind
theorem ah_dn {x y : Rat} (hx : 0 ≤ x) (h : x ≤ y) (hx1 : x ≤ 1) : ∀ K, 2 * (y - x) * (1 - x ^ (2 * K)) ≤ (ah y K - ah x K) * (1 - x * x)
  | 0 => by
    show _ ≤ (0 - 0 : Rat) * _
    rw [show 2 * 0 = 0 from rfl, Rat.pow_zero]; grind
  | K + 1 => by
    have ih := ah_dn hx h hx1 K
    have h1 := pow_dn hx h (2 * K)
    have hn : (0 : Rat) < ((2 * K + 1 : Nat) : Rat) := Rat.natCast_pos.2 (by omega)
    have hxx : 0 ≤ 1 - x * x := by have := Rat.mul_nonneg (show 0 ≤ 1 - x by grind) (show 0 ≤ 1 + x by grind); grind
    show _ ≤ (ah y K + 2 * (y ^ (2 * K + 1) / ((2 * K + 1 : Nat) : Rat)) - (ah x K + 2 * (x ^ (2 * K + 1) / ((2 * K + 1 : Nat) : Rat)))) * (1 - x * x)
    have e1 : y ^ (2 * K + 1) / ((2 * K + 1 : Nat) : Rat) * ((2 * K + 1 : Nat) : Rat) = y ^ (2 * K + 1) := Rat.div_mul_cancel (Rat.ne_of_gt hn)
    have e2 : x ^ (2 * K + 1) / ((2 * K + 1 : Nat) : Rat) * ((2 * K + 1 : Nat) : Rat) = x ^ (2 * K + 1) := Rat.div_mul_cancel (Rat.ne_of_gt hn)
    have e3 : x ^ (2 * (K + 1)) = x ^ (2 * K) * (x * x) := by rw [show 2 * (K + 1) = 2 * K + 1 + 1 by omega, Rat.pow_succ, Rat.pow_succ]; grind
    generalize y ^ (2 * K + 1) / ((2 * K + 1 : Nat) : Rat) = u at *
    generalize x ^ (2 * K + 1) / ((2 * K + 1 : Nat) : Rat) = v at *
    rw [← e1, ← e2] at h1
    have g : x ^ (2 * K) * (y - x) ≤ u - v := by
      refine Rat.le_of_mul_le_mul_right (c := ((2 * K + 1 : Nat) : Rat)) ?_ hn
      grind
    have g2 := Rat.mul_le_mul_of_nonneg_right g hxx
    rw [e3]
    grind
theorem ah_nil : ∀ K, ah 0 K = 0
  | 0 => rfl
  | K + 1 => by
    show ah 0 K + 2 * ((0 : Rat) ^ (2 * K + 1) / ((2 * K + 1 : Nat) : Rat)) = 0
    rw [ah_nil K, Rat.pow_succ, Rat.mul_zero, Rat.div_def, Rat.zero_mul]; grind
theorem ah_hi2 {z : Rat} (hz : 0 ≤ z) (hz3 : 3 * z ≤ 1) (K : Nat) : Hi (ah z K) ((1 + z) / (1 - z)) :=
  ah_hi (f := fun z => ah z K) hz hz3 (ah_nil K) fun x y hx h hy => by
    have h1 := ah_up hx h (show y ≤ 1 by grind) K
    have h2 := Rat.pow_nonneg (n := 2 * K) (show 0 ≤ y by grind)
    have h3 := Rat.mul_nonneg (show 0 ≤ y - x by grind) h2
    grind
theorem ah_lo2 {z : Rat} (hz : 0 ≤ z) (hz3 : 3 * z ≤ 1) (K : Nat) : Lo (ah z (K + 1) + z ^ (2 * (K + 1) + 1)) ((1 + z) / (1 - z)) :=
  ah_lo (f := fun z => ah z (K + 1) + z ^ (2 * (K + 1) + 1)) hz hz3 (by
    show ah 0 (K + 1) + (0 : Rat) ^ (2 * (K + 1) + 1) = 0
    rw [ah_nil, Rat.pow_succ]; grind) fun x y hx h hy => by
    have h1 := ah_dn hx h (show x ≤ 1 by grind) (K + 1)
    have h2 := pow_dn hx h (2 * (K + 1))
    have h3 : (3 : Rat) ≤ ((2 * (K + 1) + 1 : Nat) : Rat) := Rat.natCast_le_natCast.2 (show 3 ≤ 2 * (K + 1) + 1 by omega)
    have hp := Rat.pow_nonneg (n := 2 * (K + 1)) hx
    show 2 * (y - x) ≤ (ah y (K + 1) + y ^ (2 * (K + 1) + 1) - (ah x (K + 1) + x ^ (2 * (K + 1) + 1))) * (1 - x * x)
    generalize x ^ (2 * (K + 1)) = u at *
    generalize y ^ (2 * (K + 1) + 1) = b at *
    generalize x ^ (2 * (K + 1) + 1) = a at *
    generalize ((2 * (K + 1) + 1 : Nat) : Rat) = n at *
    have h4 := Rat.mul_nonneg hp (show 0 ≤ y - x by grind)
    have h5 := Rat.mul_le_mul_of_nonneg_right h3 h4
    have h6 : 3 * (u * (y - x)) ≤ b - a := by grind
    have hxx : 3 * (x * x) ≤ 1 := by
      have := Rat.mul_nonneg hx (show 0 ≤ 1 - 3 * x by grind)
      grind
    have h7 := Rat.mul_le_mul_of_nonneg_right h6 (show 0 ≤ 1 - x * x by grind)
    have h8 := Rat.mul_nonneg h4 (show 0 ≤ 1 - 3 * (x * x) by grind)
    grind

/-- the quotient, its powers, and their sum -/
def qP (num den p : Nat) : Pr := ⟨num * 2 ^ p / den, cdv (num * 2 ^ p) den⟩
def pwP (z : Pr) (p : Nat) : Nat → Pr
  | 0 => z
  | k + 1 => timesP (pwP z p k) (timesP z z p) p
def asP (z : Pr) (p : Nat) : Nat → Pr
  | 0 => z
  | k + 1 => plusP (asP z p k) (overP (pwP z p (k + 1)) (2 * k + 3))
theorem q_size {num den p : Nat} (hd : 0 < den) (h : 3 * num ≤ den) (hp : 4 ≤ p) : 2 * (qP num den p).h ≤ 2 ^ p ∧ (qP num den p).l ≤ (qP num den p).h ∧ (qP num den p).h ≤ (qP num den p).l + 1 := by
  have h16 : 2 ^ 4 ≤ 2 ^ p := Nat.pow_le_pow_right (by decide) hp
  refine ⟨?_, ?_, ?_⟩
  · have : (qP num den p).h ≤ 2 ^ p / 3 + 1 := by
      refine cdv_le hd ?_
      have h1 := Nat.mul_le_mul_right (2 ^ p) h
      have h2 : 2 ^ p ≤ 3 * (2 ^ p / 3 + 1) := by omega
      have h3 := Nat.mul_le_mul_left den h2
      have e1 : den * (3 * (2 ^ p / 3 + 1)) = 3 * ((2 ^ p / 3 + 1) * den) := by rw [Nat.mul_left_comm, Nat.mul_comm den]
      have e2 : 3 * num * 2 ^ p = 3 * (num * 2 ^ p) := Nat.mul_assoc _ _ _
      omega
    omega
  · show _ / _ ≤ cdv _ _
    unfold cdv; omega
  · show cdv _ _ ≤ _ / _ + 1
    unfold cdv; split <;> omega
theorem bds_q {num den p : Nat} {x : Rat} (hd : 0 < den) (hx : x * (den : Rat) = (num : Rat)) : Bds (qP num den p) p x := by
  have e : ((num * 2 ^ p : Nat) : Rat) = x * 2 ^ p * (den : Rat) := by rw [Rat.natCast_mul, cast_two, ← hx]; grind
  exact ⟨fl_le hd (by rw [e]; exact Rat.le_refl), le_cd hd (by rw [e]; exact Rat.le_refl)⟩
theorem pow_step2 (x : Rat) (k : Nat) : x ^ (2 * (k + 1) + 1) = x ^ (2 * k + 1) * (x * x) := by
  rw [show 2 * (k + 1) + 1 = 2 * k + 1 + 1 + 1 by omega, Rat.pow_succ, Rat.pow_succ]; grind
theorem bds_pw {z : Pr} {p : Nat} {x : Rat} (h : Bds z p x) (hx : 0 ≤ x) : ∀ k, Bds (pwP z p k) p (x ^ (2 * k + 1))
  | 0 => by rw [show 2 * 0 + 1 = 1 from rfl, Rat.pow_one]; exact h
  | k + 1 => by
    rw [pow_step2]
    exact bds_times (bds_pw h hx k) (bds_times h h hx hx) (Rat.pow_nonneg hx) (Rat.mul_nonneg hx hx)
def ahh (x : Rat) : Nat → Rat
  | 0 => x
  | k + 1 => ahh x k + x ^ (2 * (k + 1) + 1) / ((2 * k + 3 : Nat) : Rat)
theorem ahh_ah (x : Rat) : ∀ k, ahh x k + ahh x k = ah x (k + 1)
  | 0 => by
    show x + x = 0 + 2 * (x ^ (2 * 0 + 1) / ((2 * 0 + 1 : Nat) : Rat))
    have e : ((2 * 0 + 1 : Nat) : Rat) = 1 := rfl
    have e2 : x / 1 = x := by have := Rat.div_mul_cancel (a := x) (b := 1) (by decide); grind
    rw [e, show 2 * 0 + 1 = 1 from rfl, Rat.pow_one, e2]; grind
  | k + 1 => by
    have ih := ahh_ah x k
    show ahh x k + x ^ (2 * (k + 1) + 1) / ((2 * k + 3 : Nat) : Rat) + (ahh x k + x ^ (2 * (k + 1) + 1) / ((2 * k + 3 : Nat) : Rat)) = ah x (k + 1) + 2 * (x ^ (2 * (k + 1) + 1) / ((2 * (k + 1) + 1 : Nat) : Rat))
    rw [show 2 * (k + 1) + 1 = 2 * k + 3 by omega] at *
    grind
theorem bds_as {z : Pr} {p : Nat} {x : Rat} (h : Bds z p x) (hx : 0 ≤ x) : ∀ k, Bds (asP z p k) p (ahh x k)
  | 0 => h
  | k + 1 => bds_plus (bds_as h hx k) (bds_over (bds_pw h hx (k + 1)) (by omega) (Rat.div_mul_cancel (Rat.ne_of_gt (Rat.natCast_pos.2 (by omega)))).symm)
theorem sq_half {z : Pr} {p : Nat} (h : 2 * z.h ≤ 2 ^ p) : 2 * (timesP z z p).h ≤ 2 ^ p := by
  have hp := Nat.two_pow_pos p
  have : (timesP z z p).h ≤ z.h := cdv_le hp (Nat.mul_le_mul_left _ (by omega))
  omega
theorem pw_fall {z : Pr} {p : Nat} (h : 2 * z.h ≤ 2 ^ p) : ∀ k, k ≤ p → (pwP z p k).h ≤ 2 ^ (p - k)
  | 0, _ => by show z.h ≤ 2 ^ (p - 0); rw [Nat.sub_zero]; omega
  | k + 1, hk => by
    have ih := pw_fall h k (by omega)
    have hp := Nat.two_pow_pos p
    have hs := sq_half h
    have e1 : 2 ^ (p - k) = 2 * 2 ^ (p - (k + 1)) := by rw [show p - k = (p - (k + 1)) + 1 by omega, Nat.pow_succ, Nat.mul_comm]
    show cdv ((pwP z p k).h * (timesP z z p).h) (2 ^ p) ≤ _
    refine cdv_le hp ?_
    have h1 := Nat.mul_le_mul ih (Nat.le_refl (timesP z z p).h)
    have h2 := Nat.mul_le_mul_left (2 ^ (p - (k + 1))) hs
    rw [e1] at h1
    have e2 : 2 ^ (p - (k + 1)) * (2 * (timesP z z p).h) = 2 * 2 ^ (p - (k + 1)) * (timesP z z p).h := by rw [Nat.mul_comm 2 (2 ^ (p - (k + 1))), Nat.mul_assoc]
    omega
theorem pw_le {z : Pr} {p : Nat} (h : 2 * z.h ≤ 2 ^ p) : ∀ k, (pwP z p k).h ≤ 2 ^ p
  | 0 => by show z.h ≤ _; omega
  | k + 1 => by
    have ih := pw_le h k
    have hp := Nat.two_pow_pos p
    have hs := sq_half h
    show cdv ((pwP z p k).h * (timesP z z p).h) (2 ^ p) ≤ _
    exact cdv_le hp (Nat.mul_le_mul ih (by omega))
theorem pw_lh {z : Pr} {p : Nat} (h : z.l ≤ z.h) : ∀ k, (pwP z p k).l ≤ (pwP z p k).h
  | 0 => h
  | k + 1 => times_l_le _ _ _ (pw_lh h k) (times_l_le _ _ _ h h)
theorem ov_le {x : Pr} {n : Nat} (hn : 0 < n) : (overP x n).h ≤ x.h := by
  show cdv x.h n ≤ x.h
  exact cdv_le hn (Nat.le_mul_of_pos_right _ hn)
theorem as_size {z : Pr} {p : Nat} (h : 2 * z.h ≤ 2 ^ p) : ∀ k, k ≤ p → (asP z p k).h + 2 ^ (p - k) ≤ 2 * 2 ^ p
  | 0, _ => by show z.h + 2 ^ (p - 0) ≤ _; rw [Nat.sub_zero]; omega
  | k + 1, hk => by
    have ih := as_size h k (by omega)
    have h1 := pw_fall h (k + 1) hk
    have h2 := ov_le (x := pwP z p (k + 1)) (n := 2 * k + 3) (by omega)
    have e1 : 2 ^ (p - k) = 2 * 2 ^ (p - (k + 1)) := by rw [show p - k = (p - (k + 1)) + 1 by omega, Nat.pow_succ, Nat.mul_comm]
    show (asP z p k).h + (overP (pwP z p (k + 1)) (2 * k + 3)).h + _ ≤ _
    omega
theorem as_lh {z : Pr} {p : Nat} (h : z.l ≤ z.h) : ∀ k, (asP z p k).l ≤ (asP z p k).h
  | 0 => h
  | k + 1 => Nat.add_le_add (as_lh h k) (over_l_le _ (by omega) (pw_lh h (k + 1)))
theorem pw_near {z : Pr} {p : Nat} (h : 2 * z.h ≤ 2 ^ p) (hl : z.l ≤ z.h) (hn : z.h ≤ z.l + 1) : ∀ k, (pwP z p k).h ≤ (pwP z p k).l + 6
  | 0 => by show z.h ≤ z.l + 6; omega
  | k + 1 => by
    have ih := pw_near h hl hn k
    have hs := sq_half h
    have h2 := pw_le h k
    have h3 := pw_lh (p := p) hl k
    have hsq : (timesP z z p).h ≤ (timesP z z p).l + 1 + 1 := times_near hn hn (by omega)
    exact times_near (a := 6) (b := 2) (c := 5) ih (by omega) (by omega)
theorem as_near {z : Pr} {p : Nat} (h : 2 * z.h ≤ 2 ^ p) (hl : z.l ≤ z.h) (hn : z.h ≤ z.l + 1) : ∀ k, (asP z p k).h ≤ (asP z p k).l + 1 + 3 * k
  | 0 => by show z.h ≤ z.l + 1 + 3 * 0; omega
  | k + 1 => by
    have ih := as_near h hl hn k
    have h1 := over_near (n := 2 * k + 3) (c := 2) (by omega) (pw_near h hl hn (k + 1)) (by omega)
    show (asP z p k).h + (overP (pwP z p (k + 1)) (2 * k + 3)).h ≤ (asP z p k).l + (overP (pwP z p (k + 1)) (2 * k + 3)).l + 1 + 3 * (k + 1)
    omega
/-- what atanh tells -/
def atP (num den p k : Nat) : Pr := plusP ⟨(asP (qP num den p) p k).l, (asP (qP num den p) p k).h + 4⟩ ⟨(asP (qP num den p) p k).l, (asP (qP num den p) p k).h + 4⟩
theorem at_ok {num den p k : Nat} {x : Rat} (hd : 0 < den) (h : 3 * num ≤ den) (hp : 4 ≤ p) (hk : k ≤ p) (hend : (pwP (qP num den p) p k).h ≤ 1) (hx : x * (den : Rat) = (num : Rat)) :
    Hi (((atP num den p k).l : Rat) / 2 ^ p) ((1 + x) / (1 - x)) ∧ Lo (((atP num den p k).h : Rat) / 2 ^ p) ((1 + x) / (1 - x)) ∧ (atP num den p k).l ≤ (atP num den p k).h ∧ (atP num den p k).h ≤ (atP num den p k).l + (10 + 6 * k) ∧ (atP num den p k).h < 2 ^ (p + 4) := by
  obtain ⟨z1, z2, z3⟩ := q_size (p := p) hd h hp
  have hb := bds_q (p := p) hd hx
  have hdr : (0 : Rat) < (den : Rat) := Rat.natCast_pos.2 hd
  have hx0 : 0 ≤ x := by
    refine Rat.not_lt.1 fun e => ?_
    have := Rat.mul_lt_mul_of_pos_right e hdr
    have := Rat.natCast_nonneg (a := num)
    grind
  have hx3 : 3 * x ≤ 1 := by
    refine Rat.le_of_mul_le_mul_right (c := (den : Rat)) ?_ hdr
    have : ((3 * num : Nat) : Rat) ≤ (den : Rat) := Rat.natCast_le_natCast.2 h
    rw [Rat.natCast_mul] at this
    have e : ((3 : Nat) : Rat) = 3 := rfl
    rw [e] at this
    grind
  unfold atP
  generalize qP num den p = z at *
  have q1 := bds_as hb hx0 k
  have q2 := bds_pw hb hx0 k
  have s2 := as_size z1 k hk
  have s3 := as_near z1 z2 z3 k
  have s4 := as_lh (p := p) z2 k
  have hP := two_pos p
  have hpk := Nat.two_pow_pos (p - k)
  have ea := ahh_ah x k
  have h16 : 2 ^ 4 ≤ 2 ^ p := Nat.pow_le_pow_right (by decide) hp
  refine ⟨?_, ?_, ?_, ?_, ?_⟩
  · refine hi_mono (ah_hi2 hx0 hx3 (k + 1)) ?_
    rw [div_le hP]
    show (((asP z p k).l + (asP z p k).l : Nat) : Rat) ≤ _
    rw [Rat.natCast_add, ← ea]
    have := q1.1
    generalize ahh x k = A at *
    generalize ((asP z p k).l : Rat) = L at *
    generalize (2 : Rat) ^ p = P at *
    grind
  · refine lo_mono (ah_lo2 hx0 hx3 k) ?_
    rw [le_div hP]
    show _ ≤ (((asP z p k).h + 4 + ((asP z p k).h + 4) : Nat) : Rat)
    rw [Rat.natCast_add, Rat.natCast_add]
    have g1 := q1.2
    have g2 : x ^ (2 * k + 1) * 2 ^ p ≤ 1 := Rat.le_trans q2.2 (Rat.natCast_le_natCast.2 hend)
    have g3 : x ^ (2 * (k + 1) + 1) ≤ x ^ (2 * k + 1) := by
      rw [pow_step2]
      have := Rat.pow_nonneg (n := 2 * k + 1) hx0
      have h1 := Rat.mul_nonneg this (show 0 ≤ 1 - x * x by
        have := Rat.mul_nonneg (show 0 ≤ 1 - x by grind) (show 0 ≤ 1 + x by grind)
        grind)
      grind
    have g4 := Rat.mul_le_mul_of_nonneg_right g3 (Rat.le_of_lt hP)
    have e4 : ((4 : Nat) : Rat) = 4 := rfl
    rw [e4, ← ea]
    clear q1 q2 g3 hx
    generalize ahh x k = A at *
    generalize ((asP z p k).h : Rat) = L at *
    generalize x ^ (2 * k + 1) = X at *
    generalize x ^ (2 * (k + 1) + 1) = Y at *
    generalize (2 : Rat) ^ p = P at *
    grind
  · show (asP z p k).l + (asP z p k).l ≤ (asP z p k).h + 4 + ((asP z p k).h + 4); omega
  · show (asP z p k).h + 4 + ((asP z p k).h + 4) ≤ (asP z p k).l + (asP z p k).l + (10 + 6 * k); omega
  · show (asP z p k).h + 4 + ((asP z p k).h + 4) < _
    rw [Nat.pow_add]; omega
end Go.Proofs.YtmpdbmaokbhcjaaDoor.Ea

/-
  PLAIN: e to a number of so many bits is far from each number of so many places.
-/
namespace Go.Proofs.YtmpdbmaokbhcjaaDoor.Ea

theorem hi_nat : ∀ n : Nat, Hi (n : Rat) (4 ^ n)
  | 0 => by rw [Rat.pow_zero]; exact hi_zero
  | n + 1 => by
    have h1 := hi_mul (hi_nat n) (hi_up (by decide) up_one)
    rw [Rat.natCast_add, Rat.pow_succ]
    exact h1.le (Rat.mul_le_mul_of_nonneg_left (by decide) (Rat.pow_nonneg (by decide)))
theorem four_pow (n : Nat) : (4 : Rat) ^ n = 2 ^ (2 * n) := by rw [← pow_pow]; congr 1
theorem hi_any {x : Rat} {n : Nat} (h : x ≤ (n : Rat)) : Hi x (tw ((2 * n : Nat) : Int)) := by
  rw [tw_nat, ← four_pow]; exact hi_mono (hi_nat n) h
theorem tw_inv (e : Int) : 1 / tw e = tw (-e) := by
  have h1 := one_div_mul (tw_pos e)
  have h2 := tw_neg e
  have h3 := tw_pos e
  generalize tw e = y at *
  generalize 1 / y = u at *
  generalize tw (-e) = v at *
  have : (u - v) * y = 0 := by grind
  rcases Rat.mul_eq_zero.1 this with h | h
  · grind
  · grind
theorem lo_any {x : Rat} {n : Nat} (h : -(n : Rat) ≤ x) : Lo x (tw (-((2 * n : Nat) : Int))) := by
  have h1 := lo_neg (hi_any (x := -x) (n := n) (by grind))
  rw [tw_inv, Rat.neg_neg] at h1
  exact h1
theorem tw_half (e : Int) : tw (e - 1) * 2 = tw e := by
  have := tw_succ (e - 1)
  rw [show e - 1 + 1 = e by omega] at this
  exact this.symm
/-- the distance -/
def sepE : Rat := tw (-((Qs + 20000 : Nat) : Int))
theorem sepE_pos : 0 < sepE := tw_pos _
theorem sepE_le {k : Int} (h : k ≤ ((Qs + 20000 : Nat) : Int)) : sepE ≤ tw (-k) := tw_le (by omega)
def wS : Rat := tw (-((Qs + 2 : Nat) : Int))
theorem wS_ok : 4 * (2 ^ Qs * wS) ≤ 1 := by
  unfold wS
  rw [← tw_nat, ← tw_add, show ((Qs : Nat) : Int) + -((Qs + 2 : Nat) : Int) = -2 by omega]
  have : tw (-2) = 1 / 4 := by
    unfold tw
    rw [if_neg (by decide)]
    congr 1
  rw [this]
  have : (1 : Rat) / 4 * 4 = 1 := Rat.div_mul_cancel (by decide)
  grind
theorem wS_pos : 0 < wS := tw_pos _
/-- a number of so many bits by whole numbers -/
theorem as_quot (m : Nat) (e : Int) : ∃ a c : Nat, 0 < c ∧ (0 < m → 0 < a) ∧ (m : Rat) * tw e * (c : Rat) = (a : Rat) ∧ (c : Rat) = tw (max 0 (-e)) ∧ (a : Rat) = (m : Rat) * tw (max 0 e) := by
  by_cases h : 0 ≤ e
  · refine ⟨m * 2 ^ e.toNat, 1, by decide, fun h => Nat.mul_pos h (Nat.two_pow_pos _), ?_, ?_, ?_⟩
    · have e1 : tw e = 2 ^ e.toNat := by rw [← tw_nat]; congr 1; omega
      rw [Rat.natCast_mul, cast_two, e1]
      show _ * (1 : Rat) = _
      rw [Rat.mul_one]
    · rw [show max 0 (-e) = ((0 : Nat) : Int) by omega, tw_nat, Rat.pow_zero]; rfl
    · rw [Rat.natCast_mul, cast_two, ← tw_nat]; congr 2; omega
  · refine ⟨m, 2 ^ (-e).toNat, Nat.two_pow_pos _, fun h => h, ?_, ?_, ?_⟩
    · rw [cast_two, ← tw_nat, show (((-e).toNat : Nat) : Int) = -e by omega, Rat.mul_assoc, Rat.mul_comm (tw e), tw_neg, Rat.mul_one]
    · rw [cast_two, ← tw_nat]; congr 1; omega
    · rw [show max 0 e = ((0 : Nat) : Int) by omega, tw_nat, Rat.pow_zero, Rat.mul_one]
theorem tw_lt_of {a b : Int} (h : tw a < tw b) : a < b := by
  refine Int.lt_of_not_ge fun e => ?_
  have := tw_le e
  grind
/-- e to x is not near t -/
def Away (x t ε : Rat) : Prop := Lo x (t + ε) ∨ Hi x (t - ε)
theorem Away.le {x t ε ε' : Rat} (h : Away x t ε) (h1 : ε' ≤ ε) : Away x t ε' := by
  rcases h with h | h
  · exact Or.inl (h.le (by grind))
  · exact Or.inr (h.le (by grind))
theorem tw_zero : tw 0 = 1 := by have := tw_nat 0; rw [Rat.pow_zero] at this; exact this
/-- very small ones -/
theorem away_tiny {x t δ : Rat} (x0 : 0 < x) (x1 : 4 * x ≤ δ) (d1 : δ ≤ 1) (ht : t ≤ 1 ∨ 1 + δ ≤ t) : Away x t (x / 2) := by
  have hx2 : x / 2 * 2 = x := Rat.div_mul_cancel (by decide)
  generalize x / 2 = y at *
  rcases ht with h | h
  · exact Or.inl ((lo_line x).le (by grind))
  · right
    refine (hi_recip (x := x) (by grind)).le ?_
    rw [div_le (by grind)]
    have := Rat.mul_nonneg (show 0 ≤ x by grind) (show 0 ≤ 1 - 4 * x by grind)
    have h2 := Rat.mul_le_mul_of_nonneg_right (show 1 + 3 * x ≤ t - y by grind) (show 0 ≤ 1 - x by grind)
    grind
theorem away_tiny_neg {x t δ : Rat} (x0 : 0 < x) (x1 : 4 * x ≤ δ) (d1 : δ ≤ 1) (ht : 1 ≤ t ∨ t ≤ 1 - δ) : Away (-x) t (x / 4) := by
  have hx2 : x / 4 * 4 = x := Rat.div_mul_cancel (by decide)
  generalize x / 4 = y at *
  rcases ht with h | h
  · right
    refine (hi_neg (by grind) (lo_line x)).le ?_
    rw [div_le (by grind)]
    have := Rat.mul_nonneg (show 0 ≤ x by grind) (show 0 ≤ 1 - 4 * x by grind)
    have h2 := Rat.mul_le_mul_of_nonneg_right (show 1 - y ≤ t - y by grind) (show 0 ≤ 1 + x by grind)
    have h3 : 1 ≤ (1 - y) * (1 + x) := by
      have := Rat.mul_nonneg (show 0 ≤ y by grind) (show 0 ≤ 1 - 4 * x by grind)
      grind
    grind
  · exact Or.inl ((lo_line (-x)).le (by grind))
theorem mul_tw {j : Int} {pl : Nat} : (j : Rat) * tw (-(pl : Int)) * 2 ^ pl = (j : Rat) := by
  rw [Rat.mul_assoc, ← tw_nat, tw_neg, Rat.mul_one]
theorem int_le_of {i j : Int} {δ : Rat} (hδ : 0 ≤ δ) (h : i ≤ j) : (i : Rat) * δ ≤ (j : Rat) * δ := Rat.mul_le_mul_of_nonneg_right (Rat.intCast_le_intCast.2 h) hδ
theorem sep_num {m : Nat} {e : Int} {pl : Nat} (hm0 : 0 < m) (hm : m < 2 ^ 1280) (he : -19000 ≤ e) (hx : (m : Rat) * tw e ≤ 2048) (hpl : pl ≤ 1300) (j : Int) :
    Away ((m : Rat) * tw e) ((j : Rat) * tw (-(pl : Int))) sepE ∧ Away (-((m : Rat) * tw e)) ((j : Rat) * tw (-(pl : Int))) sepE := by
  have hm1 : (1 : Rat) ≤ (m : Rat) := Rat.natCast_le_natCast.2 (show 1 ≤ m by omega)
  have hte := tw_pos e
  have hδ := tw_pos (-(pl : Int))
  have x0 : tw (-19000) ≤ (m : Rat) * tw e := by
    have h1 := Rat.mul_le_mul_of_nonneg_right hm1 (Rat.le_of_lt hte)
    have h2 := tw_le he
    grind
  have xp : 0 < (m : Rat) * tw e := by have := tw_pos (-19000); grind
  have d1 : tw (-(pl : Int)) ≤ 1 := by rw [← tw_zero]; exact tw_le (by omega)
  have d2 : tw (-1300) ≤ tw (-(pl : Int)) := tw_le (by omega)
  have e1 : ((2 ^ pl : Nat) : Rat) * tw (-(pl : Int)) = 1 := by rw [cast_two, ← tw_nat, Rat.mul_comm, tw_neg]
  have e1' : ((2 ^ pl : Nat) : Int) = ((2 ^ pl : Nat) : Int) := rfl
  have hs1 : sepE ≤ tw (-19002) := sepE_le (by rw [show Qs = 4398046511104 from rfl]; decide)
  have hs2 : tw (-19002) ≤ 1 / 4 := by
    have := tw_le (show (-19002 : Int) ≤ -2 by decide)
    have e2 : tw (-2) = 1 / 4 := by unfold tw; rw [if_neg (by decide)]; congr 1
    grind
  have hq4 : (1 : Rat) / 4 * 4 = 1 := Rat.div_mul_cancel (by decide)
  have hs0 := sepE_pos
  have t19 : tw (-19002) * 4 = tw (-19000) := by
    have a := tw_half (-19000)
    have b := tw_half (-19001)
    rw [show (-19000 : Int) - 1 = -19001 by decide] at a
    rw [show (-19001 : Int) - 1 = -19002 by decide] at b
    grind
  by_cases hbig : e < -2600
  · have x1 : 4 * ((m : Rat) * tw e) ≤ tw (-(pl : Int)) := by
      have h1 : (m : Rat) ≤ tw ((1280 : Nat) : Int) := by
        rw [tw_nat, ← cast_two]; exact Rat.natCast_le_natCast.2 (Nat.le_of_lt hm)
      have h2 := Rat.mul_le_mul_of_nonneg_right h1 (Rat.le_of_lt hte)
      rw [← tw_add] at h2
      have h3 := tw_le (show ((1280 : Nat) : Int) + e ≤ -1302 by omega)
      have a := tw_half (-1300)
      have b := tw_half (-1301)
      rw [show (-1300 : Int) - 1 = -1301 by decide] at a
      rw [show (-1301 : Int) - 1 = -1302 by decide] at b
      grind
    constructor
    · refine (away_tiny xp x1 d1 ?_).le ?_
      · rcases Int.lt_or_le ((2 ^ pl : Nat) : Int) j with h | h
        · right
          have := int_le_of (Rat.le_of_lt hδ) (show ((2 ^ pl : Nat) : Int) + 1 ≤ j by omega)
          rw [Rat.intCast_add] at this
          have e3 : (((2 ^ pl : Nat) : Int) : Rat) = ((2 ^ pl : Nat) : Rat) := rfl
          have e4 : ((1 : Int) : Rat) = 1 := rfl
          rw [e3, e4, Rat.add_mul, e1] at this
          grind
        · left
          have := int_le_of (Rat.le_of_lt hδ) h
          have e3 : (((2 ^ pl : Nat) : Int) : Rat) = ((2 ^ pl : Nat) : Rat) := rfl
          rw [e3, e1] at this
          exact this
      · have hh : (m : Rat) * tw e / 2 * 2 = (m : Rat) * tw e := Rat.div_mul_cancel (by decide)
        grind
    · refine (away_tiny_neg xp x1 d1 ?_).le ?_
      · rcases Int.lt_or_le j ((2 ^ pl : Nat) : Int) with h | h
        · right
          have := int_le_of (Rat.le_of_lt hδ) (show j + 1 ≤ ((2 ^ pl : Nat) : Int) by omega)
          rw [Rat.intCast_add] at this
          have e3 : (((2 ^ pl : Nat) : Int) : Rat) = ((2 ^ pl : Nat) : Rat) := rfl
          have e4 : ((1 : Int) : Rat) = 1 := rfl
          rw [e3, e4, Rat.add_mul, e1] at this
          grind
        · left
          have := int_le_of (Rat.le_of_lt hδ) h
          have e3 : (((2 ^ pl : Nat) : Int) : Rat) = ((2 ^ pl : Nat) : Rat) := rfl
          rw [e3, e1] at this
          exact this
      · have hh : (m : Rat) * tw e / 4 * 4 = (m : Rat) * tw e := Rat.div_mul_cancel (by decide)
        grind
  · obtain ⟨a, c, hc, ha, hac, hcv, hav⟩ := as_quot m e
    have bc : (c : Rat) ≤ 2 ^ 2600 := by rw [hcv, ← tw_nat]; exact tw_le (by omega)
    have bb : (m : Rat) * tw e ≤ 2 ^ 11 := by
      have : (2 : Rat) ^ 11 = 2048 := by decide +kernel
      rw [this]; exact hx
    have hws : sepE ≤ wS := tw_le (by omega)
    have ht0 : j ≤ 0 → (j : Rat) * tw (-(pl : Int)) ≤ 0 := fun h => by
      have := int_le_of (Rat.le_of_lt hδ) h
      have e4 : ((0 : Int) : Rat) = 0 := rfl
      rw [e4, Rat.zero_mul] at this
      exact this
    have hT := @mul_tw j pl
    generalize hTT : (j : Rat) * tw (-(pl : Int)) = T at *
    constructor
    · by_cases hj : j ≤ 0
      · have := ht0 hj
        exact Or.inl ((lo_line _).le (by grind))
      · obtain ⟨u, hu⟩ : ∃ u : Nat, j = (u : Int) := ⟨j.toNat, by omega⟩
        rcases Rat.le_total (a := T) (b := 2 ^ 4200) with ht | ht
        · refine (show Away _ _ wS from sep_pos u (2 ^ pl) a c (Nat.two_pow_pos _) hc (by omega) (ha hm0) ?_ hac ht ?_ bc bb (by decide) (show 1300 ≤ 5000 by decide) (Nat.le_refl _) (by decide) wS_pos wS_ok).le hws
          · rw [cast_two, hT, hu]; rfl
          · rw [cast_two]; exact two_le hpl
        · right
          have h1 := hi_any (x := (m : Rat) * tw e) (n := 2048) (by exact hx)
          refine h1.le ?_
          have h2 : tw ((2 * 2048 : Nat) : Int) + 1 ≤ 2 ^ 4200 := by
            rw [tw_nat]
            have h3 := two_le (show 2 * 2048 + 1 ≤ 4200 by decide)
            have h4 := one_le_pow (a := 2) (by decide) (2 * 2048)
            rw [Rat.pow_succ] at h3
            grind
          grind
    · by_cases hj : j ≤ 0
      · have := ht0 hj
        refine Or.inl ((lo_any (x := -((m : Rat) * tw e)) (n := 2048) ?_).le ?_)
        · have e5 : ((2048 : Nat) : Rat) = 2048 := rfl
          rw [e5]; grind
        · have h1 := tw_le (show (-19002 : Int) ≤ -((2 * 2048 : Nat) : Int) by decide)
          grind
      · obtain ⟨u, hu⟩ : ∃ u : Nat, j = (u : Int) := ⟨j.toNat, by omega⟩
        rcases Rat.le_total (a := 2) (b := T) with ht | ht
        · right
          exact (hi_mono hi_zero (by grind)).le (by grind)
        · have hu0 : 0 < u := by omega
          have hur : (1 : Rat) ≤ (u : Rat) := Rat.natCast_le_natCast.2 (show 1 ≤ u by omega)
          have hju : (j : Rat) = (u : Rat) := by rw [hu]; rfl
          have hP := two_pos pl
          have hT0 : 0 < T := by
            refine Rat.not_le.1 fun h => ?_
            have := Rat.mul_le_mul_of_nonneg_right h (Rat.le_of_lt hP)
            grind
          have hα := one_div_mul hT0
          have hα0 : 0 < 1 / T := by rw [Rat.lt_div_iff hT0]; grind
          have hαP : 1 / T ≤ 2 ^ pl := by
            rw [div_le hT0]; grind
          have hα2 : 1 ≤ 2 * (1 / T) := by
            have := Rat.mul_le_mul_of_nonneg_right ht (Rat.le_of_lt hα0)
            grind
          have hP1 : (2 : Rat) ^ pl ≤ 2 ^ 1300 := two_le hpl
          have hlast := sep_neg (w := wS) (τ := T) (ε := sepE) (2 ^ pl) u a c hu0 hc (Nat.two_pow_pos _) (ha hm0) (α := 1 / T) (β := (m : Rat) * tw e) (h := 1300) (p := 1301) (k := 2600) (b := 11) ?_ hac (Rat.le_trans hαP hP1) ?_ bc bb (by decide) (by decide) (Nat.le_refl _) (by decide) wS_pos wS_ok (by grind) ?_ ?_ hs0 ?_
          · exact hlast
          · rw [cast_two]
            have : (u : Rat) = T * 2 ^ pl := by grind
            rw [this]
            generalize (2 : Rat) ^ pl = P at *
            grind
          · have h1 : (u : Rat) = T * 2 ^ pl := by grind
            have h2 := Rat.mul_le_mul_of_nonneg_right ht (Rat.le_of_lt hP)
            have h3 : (2 : Rat) ^ 1301 = 2 ^ 1300 * 2 := Rat.pow_succ 2 1300
            rw [h3]
            grind
          · -- 2 ε α² is no more than w
            have hsq : (1 / T) * (1 / T) ≤ 2 ^ 2600 := by
              have h3 : (2 : Rat) ^ 2600 = 2 ^ 1300 * 2 ^ 1300 := by rw [← pow_add]
              rw [h3]
              exact mul_le (Rat.le_trans hαP hP1) (Rat.le_trans hαP hP1) (two_nonneg _) (Rat.le_of_lt hα0)
            have h5 : sepE * 2 ^ 2601 ≤ wS := by
              unfold sepE wS
              rw [← tw_nat, ← tw_add]
              exact tw_le (by omega)
            have h6 : (2 : Rat) ^ 2601 = 2 ^ 2600 * 2 := Rat.pow_succ 2 2600
            rw [h6] at h5
            have h7 := Rat.mul_le_mul_of_nonneg_left hsq (Rat.le_of_lt hs0)
            grind
          · have : wS ≤ 1 / 4 := by
              have := tw_le (show -((Qs + 2 : Nat) : Int) ≤ -2 by omega)
              have e2 : tw (-2) = 1 / 4 := by unfold tw; rw [if_neg (by decide)]; congr 1
              unfold wS
              grind
            grind
          · have h5 : sepE * 2 ^ 1300 ≤ 1 := by
              unfold sepE
              rw [← tw_nat, ← tw_add, ← tw_zero]
              exact tw_le (by omega)
            have h7 := Rat.mul_le_mul_of_nonneg_left (Rat.le_trans hαP hP1) (Rat.le_of_lt hs0)
            grind
end Go.Proofs.YtmpdbmaokbhcjaaDoor.Ea

/-
  PLAIN: bounds that are precise enough, rounded down, are the same; what that says.
-/
namespace Go.Proofs.YtmpdbmaokbhcjaaDoor.Ea

/-- so many places are enough -/
def PB : Nat := 4398500000000
/-- q counts of 2^-pl are no more than e to x, one more is more -/
def IsFl (x : Rat) (q : Int) (pl : Nat) : Prop := Lo x ((q : Rat) * tw (-(pl : Int))) ∧ ∃ h, Hi x h ∧ h < ((q : Rat) + 1) * tw (-(pl : Int))
theorem lt_of_mul {i j : Int} {δ : Rat} (hδ : 0 < δ) (h : (i : Rat) * δ < ((j : Rat) + 1) * δ) : i ≤ j := by
  refine Int.not_lt.1 fun e => ?_
  have := int_le_of (Rat.le_of_lt hδ) (show j + 1 ≤ i by omega)
  rw [Rat.intCast_add] at this
  have e4 : ((1 : Int) : Rat) = 1 := rfl
  rw [e4] at this
  grind
theorem IsFl.mono {x x' : Rat} {q q' : Int} {pl : Nat} (h : IsFl x q pl) (h' : IsFl x' q' pl) (hx : x ≤ x') : q ≤ q' := by
  obtain ⟨h1, -⟩ := h
  obtain ⟨-, z, h2, h3⟩ := h'
  have := lo_hi (lo_mono h1 hx) h2
  exact lt_of_mul (tw_pos _) (show (q : Rat) * tw (-(pl : Int)) < _ by grind)
theorem IsFl.uniq {x : Rat} {q q' : Int} {pl : Nat} (h : IsFl x q pl) (h' : IsFl x q' pl) : q = q' := Int.le_antisymm (h.mono h' Rat.le_refl) (h'.mono h Rat.le_refl)

theorem div_tw {l p pl : Nat} (h : pl ≤ p) : ((l / 2 ^ (p - pl) : Nat) : Rat) * tw (-(pl : Int)) ≤ (l : Rat) / 2 ^ p ∧ (l : Rat) / 2 ^ p < (((l / 2 ^ (p - pl) : Nat) : Rat) + 1) * tw (-(pl : Int)) := by
  have hP := two_pos p
  have e : tw (-(pl : Int)) * 2 ^ p = ((2 ^ (p - pl) : Nat) : Rat) := by
    rw [cast_two, ← tw_nat, ← tw_nat, ← tw_add]; congr 1; omega
  constructor
  · rw [le_div hP, Rat.mul_assoc, e, ← Rat.natCast_mul]
    exact Rat.natCast_le_natCast.2 (Nat.div_mul_le_self _ _)
  · refine Rat.not_le.1 fun h => ?_
    rw [le_div hP, Rat.mul_assoc, e] at h
    have h1 := div_add_one_mul l (Nat.two_pow_pos (p - pl))
    have h2 : (l : Rat) < (((l / 2 ^ (p - pl) + 1) * 2 ^ (p - pl) : Nat) : Rat) := Rat.natCast_lt_natCast.2 h1
    rw [Rat.natCast_mul, Rat.natCast_add] at h2
    have e4 : ((1 : Nat) : Rat) = 1 := rfl
    rw [e4] at h2
    grind
/-- what is far from all multiples has one floor -/
theorem meets {x : Rat} {p pl w : Nat} {y : Pr} (hg : Good x p y) (hpl : pl ≤ p) (hl : y.l ≤ y.h) (hw : y.h ≤ y.l + w) (hsep : ∀ j : Int, Away x ((j : Rat) * tw (-(pl : Int))) sepE) (hW : (w : Rat) < sepE * 2 ^ p) :
    y.l / 2 ^ (p - pl) = y.h / 2 ^ (p - pl) := by
  refine Decidable.byContradiction fun hne => ?_
  have hle : y.l / 2 ^ (p - pl) ≤ y.h / 2 ^ (p - pl) := Nat.div_le_div_right hl
  have hlt : y.l / 2 ^ (p - pl) + 1 ≤ y.h / 2 ^ (p - pl) := by omega
  obtain ⟨-, h2⟩ := div_tw (l := y.l) hpl
  obtain ⟨h3, -⟩ := div_tw (l := y.h) hpl
  have hδ := tw_pos (-(pl : Int))
  have h4 : (((y.l / 2 ^ (p - pl) : Nat) : Rat) + 1) * tw (-(pl : Int)) ≤ ((y.h / 2 ^ (p - pl) : Nat) : Rat) * tw (-(pl : Int)) := by
    refine Rat.mul_le_mul_of_nonneg_right ?_ (Rat.le_of_lt hδ)
    have := Rat.natCast_le_natCast.2 hlt
    rw [Rat.natCast_add] at this
    exact this
  have hP := two_pos p
  have h5 : (y.h : Rat) / 2 ^ p ≤ (y.l : Rat) / 2 ^ p + (w : Rat) / 2 ^ p := by
    rw [div_le hP, Rat.add_mul, Rat.div_mul_cancel (Rat.ne_of_gt hP), Rat.div_mul_cancel (Rat.ne_of_gt hP), ← Rat.natCast_add]
    exact Rat.natCast_le_natCast.2 hw
  have h6 : (w : Rat) / 2 ^ p < sepE := by
    refine Rat.not_le.1 fun h => ?_
    rw [le_div hP] at h
    grind
  have hs := hsep ((y.h / 2 ^ (p - pl) : Nat) : Int)
  have ec : ((((y.h / 2 ^ (p - pl) : Nat) : Int)) : Rat) = ((y.h / 2 ^ (p - pl) : Nat) : Rat) := rfl
  rw [ec] at hs
  rcases hs with hs | hs
  · have := lo_hi hs hg.hi
    grind
  · have := lo_hi hg.lo hs
    grind
theorem met_fl {x : Rat} {p pl : Nat} {y : Pr} (hg : Good x p y) (hpl : pl ≤ p) (h : y.l / 2 ^ (p - pl) = y.h / 2 ^ (p - pl)) : IsFl x ((y.l / 2 ^ (p - pl) : Nat) : Int) pl := by
  obtain ⟨h1, -⟩ := div_tw (l := y.l) hpl
  obtain ⟨-, h4⟩ := div_tw (l := y.h) hpl
  have ec : ((((y.l / 2 ^ (p - pl) : Nat) : Int)) : Rat) = ((y.l / 2 ^ (p - pl) : Nat) : Rat) := rfl
  refine ⟨hg.lo.le (by rw [ec]; exact h1), _, hg.hi, ?_⟩
  rw [ec, h]; exact h4
/-- the width, where the places are enough -/
theorem ww_small {k s p : Nat} (hk : k ≤ p) (hs : s ≤ 27) (hp : PB ≤ p) (hp1 : p ≤ 20000000000000) : ((2 * Ww k s + 1 : Nat) : Rat) < sepE * 2 ^ p := by
  have h2s : 2 ^ s ≤ 134217728 := Nat.pow_le_pow_right (show 0 < 2 by decide) hs
  obtain ⟨t, ht⟩ : ∃ t : Nat, t = 402653211 := ⟨_, rfl⟩
  have h1 : Ww k s ≤ 2 ^ 50 * 2 ^ t := by
    unfold Ww
    refine Nat.mul_le_mul ?_ (Nat.pow_le_pow_right (by decide) (by omega))
    have : (2 : Nat) ^ 50 = 1125899906842624 := by decide
    omega
  rw [← Nat.pow_add] at h1
  have h3 : 2 * Ww k s + 1 < 2 ^ (50 + t + 2) := by
    have e2 : 2 ^ (50 + t + 2) = 4 * 2 ^ (50 + t) := by rw [Nat.pow_add]; omega
    have := Nat.two_pow_pos (50 + t)
    omega
  have h4 : ((2 * Ww k s + 1 : Nat) : Rat) < ((2 ^ (50 + t + 2) : Nat) : Rat) := Rat.natCast_lt_natCast.2 h3
  have h5 : ((2 ^ (50 + t + 2) : Nat) : Rat) ≤ sepE * 2 ^ p := by
    unfold sepE
    rw [cast_two, ← tw_nat, ← tw_nat, ← tw_add]
    refine tw_le ?_
    have : PB = 4398500000000 := rfl
    have : Qs = 4398046511104 := rfl
    omega
  grind
end Go.Proofs.YtmpdbmaokbhcjaaDoor.Ea

/-
  PLAIN: the floor of a logarithm; powers of bounds.
-/
namespace Go.Proofs.YtmpdbmaokbhcjaaDoor.Ea

theorem hi_powN {x y : Rat} (h : Hi x y) : ∀ n : Nat, Hi ((n : Rat) * x) (y ^ n)
  | 0 => by rw [Rat.pow_zero, show ((0 : Nat) : Rat) * x = 0 from by rw [show ((0 : Nat) : Rat) = 0 from rfl, Rat.zero_mul]]; exact hi_zero
  | n + 1 => by
    have := hi_mul (hi_powN h n) h
    rw [Rat.pow_succ, show ((n + 1 : Nat) : Rat) * x = (n : Rat) * x + x from by rw [Rat.natCast_add]; show ((n : Rat) + 1) * x = _; grind]
    exact this
theorem lo_powN {x y : Rat} (hy : 0 ≤ y) (h : Lo x y) : ∀ n : Nat, Lo ((n : Rat) * x) (y ^ n)
  | 0 => by rw [Rat.pow_zero, show ((0 : Nat) : Rat) * x = 0 from by rw [show ((0 : Nat) : Rat) = 0 from rfl, Rat.zero_mul]]; exact lo_zero
  | n + 1 => by
    have := lo_mul (Rat.pow_nonneg hy) hy (lo_powN hy h n) h
    rw [Rat.pow_succ, show ((n + 1 : Nat) : Rat) * x = (n : Rat) * x + x from by rw [Rat.natCast_add]; show ((n : Rat) + 1) * x = _; grind]
    exact this
/-- q places of the logarithm of a, rounded down -/
def IsLg (a : Rat) (q : Int) (pl : Nat) : Prop := Hi ((q : Rat) * tw (-(pl : Int))) a ∧ ∃ t, t < ((q : Rat) + 1) * tw (-(pl : Int)) ∧ Lo t a
theorem IsLg.le {a a' : Rat} {q q' : Int} {pl : Nat} (ha : 0 < a) (h : IsLg a q pl) (h' : IsLg a' q' pl) (hx : a ≤ a') : q ≤ q' := by
  obtain ⟨h1, -⟩ := h
  obtain ⟨-, t, ht, hlo⟩ := h'
  refine lt_of_mul (tw_pos (-(pl : Int))) ?_
  refine Rat.not_le.1 fun hc => ?_
  have := lo_hi_lt (show t < (q : Rat) * tw (-(pl : Int)) by grind) (by grind) hlo h1
  grind
/-- the logarithm of a lies between x and y -/
def Lg (a x y : Rat) : Prop := Hi x a ∧ Lo y a
theorem Lg.pos {a x y : Rat} (h : Lg a x y) : 0 < a := h.1.pos
theorem Lg.mul {a b x y x' y' : Rat} (h : Lg a x y) (h' : Lg b x' y') : Lg (a * b) (x + x') (y + y') :=
  ⟨hi_mul h.1 h'.1, lo_mul (Rat.le_of_lt h.pos) (Rat.le_of_lt h'.pos) h.2 h'.2⟩
theorem Lg.inv {a x y : Rat} (h : Lg a x y) : Lg (1 / a) (-y) (-x) := ⟨hi_neg h.pos h.2, lo_neg h.1⟩
theorem Lg.pow {a x y : Rat} (h : Lg a x y) (n : Nat) : Lg (a ^ n) ((n : Rat) * x) ((n : Rat) * y) := ⟨hi_powN h.1 n, lo_powN (Rat.le_of_lt h.pos) h.2 n⟩
theorem Lg.lg {a x y : Rat} {q : Int} {pl : Nat} (h : Lg a x y) (h1 : (q : Rat) * tw (-(pl : Int)) ≤ x) (h2 : y < ((q : Rat) + 1) * tw (-(pl : Int))) : IsLg a q pl := ⟨hi_mono h.1 h1, _, h2, h.2⟩
/-- what atanh tells, as bounds of a logarithm -/
theorem at_lg {num den p k a b : Nat} (hd : 0 < den) (h : 3 * num ≤ den) (hp : 4 ≤ p) (hk : k ≤ p) (hend : (pwP (qP num den p) p k).h ≤ 1) (hb : 0 < b) (e1 : den + num = 2 * a) (e2 : den - num = 2 * b) :
    Lg ((a : Rat) / (b : Rat)) (((atP num den p k).l : Rat) / 2 ^ p) (((atP num den p k).h : Rat) / 2 ^ p) := by
  have hdr : (0 : Rat) < (den : Rat) := Rat.natCast_pos.2 hd
  have hbr : (0 : Rat) < (b : Rat) := Rat.natCast_pos.2 hb
  have hdz : (den : Rat) ≠ 0 := by grind
  have hbz : (b : Rat) ≠ 0 := by grind
  obtain ⟨h1, h2, -⟩ := at_ok (x := (num : Rat) / (den : Rat)) hd h hp hk hend (by grind)
  have f1 : (den : Rat) + (num : Rat) = 2 * (a : Rat) := by
    have : ((den + num : Nat) : Rat) = ((2 * a : Nat) : Rat) := by rw [e1]
    rw [Rat.natCast_add, Rat.natCast_mul] at this; exact this
  have f2 : (den : Rat) = 2 * (b : Rat) + (num : Rat) := by
    have : ((den : Nat) : Rat) = ((2 * b + num : Nat) : Rat) := by congr 1; omega
    rw [Rat.natCast_add, Rat.natCast_mul] at this; exact this
  have e : (1 + (num : Rat) / (den : Rat)) / (1 - (num : Rat) / (den : Rat)) = (a : Rat) / (b : Rat) := by
    have g : 1 - (num : Rat) / (den : Rat) = 2 * (b : Rat) / (den : Rat) := by grind
    have g2 : 1 + (num : Rat) / (den : Rat) = 2 * (a : Rat) / (den : Rat) := by grind
    rw [g, g2]
    grind
  rw [e] at h1 h2
  exact ⟨h1, h2⟩
/-- no quotient stands between two near bounds of a logarithm -/
theorem lg_sep {a x y t w ε : Rat} (h : Lg a x y) (hw : y ≤ x + w) (w1 : w < 1) (hs : Away t a ε) (hε : a * w < ε * (1 - w)) (h1 : x ≤ t) (h2 : t ≤ y) : False := by
  have ha := h.pos
  have w0 : 0 ≤ w := by grind
  have wp : 0 < 1 - w := by grind
  have l1 : Lo (-w) (1 - w) := (lo_line (-w)).le (by grind)
  have l2 : Lo t (a * (1 - w)) := lo_mono (lo_mul (Rat.le_of_lt ha) (Rat.le_of_lt wp) h.2 l1) (by grind)
  have u1 : Hi w (1 / (1 - w)) := by have := hi_neg wp l1; rwa [Rat.neg_neg] at this
  have u2 : Hi t (a * (1 / (1 - w))) := hi_mono (hi_mul h.1 u1) (by grind)
  rcases hs with hs | hs
  · have := lo_hi hs u2
    have := Rat.mul_le_mul_of_nonneg_right this (Rat.le_of_lt wp)
    have e : a * (1 / (1 - w)) * (1 - w) = a := by
      have : 1 - w ≠ 0 := by grind
      grind
    rw [e] at this
    grind
  · have := lo_hi l2 hs
    have g : ε * (1 - w) ≤ ε := by
      have : 0 ≤ ε := by
        refine Rat.not_lt.1 fun e => ?_
        have := Rat.mul_lt_mul_of_pos_right e wp
        have := Rat.mul_nonneg (Rat.le_of_lt ha) w0
        grind
      have := Rat.mul_nonneg this w0
      grind
    grind
end Go.Proofs.YtmpdbmaokbhcjaaDoor.Ea

/-
  PLAIN: e to a number of so many places keeps away from each number of so many bits but 1.
-/
namespace Go.Proofs.YtmpdbmaokbhcjaaDoor.Ea

theorem lo_six : Lo 6 128 := by
  have h1 := lo_powN (x := 1 / 2) (y := 3 / 2) (by decide +kernel) ((lo_line (1 / 2)).le (by decide +kernel)) 12
  have e1 : ((12 : Nat) : Rat) * (1 / 2) = 6 := by decide +kernel
  rw [e1] at h1
  exact h1.le (by decide +kernel)
theorem lo_big {t : Rat} (h : 4096 ≤ t) : Lo t (tw ((4774 : Nat) : Int)) := by
  have h1 := lo_powN (x := 6) (y := 128) (by decide +kernel) lo_six 682
  have e1 : ((682 : Nat) : Rat) * 6 = 4092 := by decide +kernel
  have e2 : (128 : Rat) ^ 682 = tw ((4774 : Nat) : Int) := by
    rw [tw_nat]
    have : (128 : Rat) = 2 ^ 7 := by decide +kernel
    rw [this, pow_pow]
  rw [e1, e2] at h1
  exact lo_mono h1 (by grind)
theorem hi_big {t : Rat} (h : t ≤ -4096) : Hi t (tw (-((4774 : Nat) : Int))) := by
  have h1 := hi_neg (tw_pos _) (lo_big (t := -t) (by grind))
  rw [tw_inv, Rat.neg_neg] at h1
  exact h1
theorem one_tw (e : Int) : tw e * tw (-e) = 1 := by rw [Rat.mul_comm, tw_neg]
theorem sep_lg {m : Nat} {e : Int} {pl : Nat} (hm0 : 0 < m) (hm : m < 2 ^ 1280) (he : -3000 ≤ e) (he1 : e ≤ 3000) (h1 : (m : Rat) * tw e ≠ 1) (hpl : pl ≤ 1300) (j : Int) :
    Away ((j : Rat) * tw (-(pl : Int))) ((m : Rat) * tw e) sepE := by
  obtain ⟨a, c, hc, ha, hac, hcv, hav⟩ := as_quot m e
  have ha := ha hm0
  have hm1 : (1 : Rat) ≤ (m : Rat) := Rat.natCast_le_natCast.2 (show 1 ≤ m by omega)
  have hm2 : (m : Rat) ≤ tw ((1280 : Nat) : Int) := by rw [tw_nat, ← cast_two]; exact Rat.natCast_le_natCast.2 (Nat.le_of_lt hm)
  have hte := tw_pos e
  have hcr : (0 : Rat) < (c : Rat) := Rat.natCast_pos.2 hc
  have har : (1 : Rat) ≤ (a : Rat) := Rat.natCast_le_natCast.2 (show 1 ≤ a by omega)
  have A0 : tw (-3000) ≤ (m : Rat) * tw e := by
    have h1 := Rat.mul_le_mul_of_nonneg_right hm1 (Rat.le_of_lt hte)
    have h2 := tw_le he
    grind
  have A1 : (m : Rat) * tw e ≤ tw ((4280 : Nat) : Int) := by
    have h1 := Rat.mul_le_mul_of_nonneg_right hm2 (Rat.le_of_lt hte)
    rw [← tw_add] at h1
    exact Rat.le_trans h1 (tw_le (by omega))
  have c1 : (c : Rat) ≤ tw ((3000 : Nat) : Int) := by rw [hcv]; exact tw_le (by omega)
  have a1 : (a : Rat) ≤ tw ((4280 : Nat) : Int) := by
    rw [hav]
    have h1 := Rat.mul_le_mul_of_nonneg_right hm2 (Rat.le_of_lt (tw_pos (max 0 e)))
    rw [← tw_add] at h1
    exact Rat.le_trans h1 (tw_le (by omega))
  have hs0 := sepE_pos
  have hQs : Qs = 4398046511104 := rfl
  have hs1 : sepE ≤ tw (-3001) := sepE_le (k := 3001) (by omega)
  have t3 := tw_half (-3000)
  rw [show (-3000 : Int) - 1 = -3001 by decide] at t3
  generalize hA : (m : Rat) * tw e = A at *
  have hAp : 0 < A := by have := tw_pos (-3000); grind
  rcases Rat.le_total (a := 4096) (b := (j : Rat) * tw (-(pl : Int))) with hb | hb
  · left
    refine (lo_big hb).le ?_
    have h2 : tw ((4280 : Nat) : Int) + 1 ≤ tw ((4774 : Nat) : Int) := by
      rw [tw_nat, tw_nat]
      have h3 := two_le (show 4280 + 1 ≤ 4774 by decide)
      have h4 := one_le_pow (a := 2) (by decide) 4280
      rw [Rat.pow_succ] at h3
      grind
    have h3 : tw (-3001) ≤ 1 := by rw [← tw_zero]; exact tw_le (by omega)
    grind
  rcases Rat.le_total (a := (j : Rat) * tw (-(pl : Int))) (b := -4096) with hb2 | hb2
  · right
    refine (hi_big hb2).le ?_
    have h2 : tw (-((4774 : Nat) : Int)) ≤ tw (-3001) := tw_le (by omega)
    grind
  have hδ := tw_pos (-(pl : Int))
  have hT := @mul_tw j pl
  have hws : sepE ≤ wS := tw_le (by omega)
  have k1 : pl ≤ 2600 := by omega
  rcases Int.lt_trichotomy j 0 with hj | hj | hj
  · obtain ⟨u, hu⟩ : ∃ u : Nat, j = -(u : Int) := ⟨(-j).toNat, by omega⟩
    have hu0 : 0 < u := by omega
    have hju : (j : Rat) = -(u : Rat) := by rw [hu, Rat.intCast_neg]; rfl
    have hβ : (u : Rat) * tw (-(pl : Int)) * ((2 ^ pl : Nat) : Rat) = (u : Rat) := by
      rw [cast_two, Rat.mul_assoc, ← tw_nat, tw_neg, Rat.mul_one]
    have eT : (j : Rat) * tw (-(pl : Int)) = -((u : Rat) * tw (-(pl : Int))) := by rw [hju, Rat.neg_mul]
    rw [eT] at hb2 ⊢
    have hα := one_div_mul hAp
    have i1 : 1 / A ≤ tw ((3000 : Nat) : Int) := by
      rw [div_le hAp]
      have h2 := Rat.mul_le_mul_of_nonneg_left A0 (Rat.le_of_lt (tw_pos ((3000 : Nat) : Int)))
      have h3 := one_tw ((3000 : Nat) : Int)
      rw [show (-((3000 : Nat) : Int)) = -3000 by omega] at h3
      grind
    have i0 : tw (-((4280 : Nat) : Int)) ≤ 1 / A := by
      rw [le_div hAp]
      have h2 := Rat.mul_le_mul_of_nonneg_left A1 (Rat.le_of_lt (tw_pos (-((4280 : Nat) : Int))))
      have h3 := tw_neg ((4280 : Nat) : Int)
      grind
    have ip : 0 < 1 / A := by have := tw_pos (-((4280 : Nat) : Int)); grind
    refine sep_neg (w := wS) (τ := A) (ε := sepE) (α := 1 / A) (β := (u : Rat) * tw (-(pl : Int))) c a u (2 ^ pl) ha (Nat.two_pow_pos _) hc hu0 ?_ hβ (h := 3000) (p := 4280) (k := pl) (b := 12) ?_ ?_ ?_ ?_ (by decide) (by decide) k1 (by decide) wS_pos wS_ok (by grind) ?_ ?_ hs0 ?_
    · rw [← hac]; grind
    · rw [← tw_nat]; exact i1
    · rw [← tw_nat]; exact a1
    · rw [cast_two]; exact Rat.le_refl
    · have : (2 : Rat) ^ 12 = 4096 := by decide +kernel
      rw [this]; grind
    · have hsq : (1 / A) * (1 / A) ≤ tw ((6000 : Nat) : Int) := by
        have h3 : tw ((6000 : Nat) : Int) = tw ((3000 : Nat) : Int) * tw ((3000 : Nat) : Int) := by rw [← tw_add]; congr 1
        rw [h3]
        exact mul_le i1 i1 (Rat.le_of_lt (tw_pos _)) (Rat.le_of_lt ip)
      have h5 : sepE * tw ((6001 : Nat) : Int) ≤ wS := by
        unfold sepE wS
        rw [← tw_add]
        exact tw_le (by omega)
      have h6 := tw_succ ((6000 : Nat) : Int)
      rw [show ((6000 : Nat) : Int) + 1 = ((6001 : Nat) : Int) by omega] at h6
      rw [h6] at h5
      have h7 := Rat.mul_le_mul_of_nonneg_left hsq (Rat.le_of_lt hs0)
      grind
    · have : wS ≤ tw (-((4280 : Nat) : Int)) := by unfold wS; exact tw_le (by omega)
      grind
    · have h5 : sepE * tw ((3000 : Nat) : Int) ≤ 1 := by
        unfold sepE
        rw [← tw_add, ← tw_zero]
        exact tw_le (by omega)
      have h7 := Rat.mul_le_mul_of_nonneg_left i1 (Rat.le_of_lt hs0)
      grind
  · subst hj
    have e0 : ((0 : Int) : Rat) * tw (-(pl : Int)) = 0 := by
      have : ((0 : Int) : Rat) = 0 := rfl
      rw [this, Rat.zero_mul]
    rw [e0]
    have hsc : sepE * (c : Rat) ≤ 1 := by
      have h2 := Rat.mul_le_mul_of_nonneg_left c1 (Rat.le_of_lt hs0)
      have h5 : sepE * tw ((3000 : Nat) : Int) ≤ 1 := by
        unfold sepE
        rw [← tw_add, ← tw_zero]
        exact tw_le (by omega)
      grind
    rcases Nat.lt_trichotomy a c with h | h | h
    · left
      refine lo_zero.le ?_
      refine Rat.le_of_mul_le_mul_right (c := (c : Rat)) ?_ hcr
      have h2 : ((a + 1 : Nat) : Rat) ≤ (c : Rat) := Rat.natCast_le_natCast.2 (by omega)
      rw [Rat.natCast_add] at h2
      have e4 : ((1 : Nat) : Rat) = 1 := rfl
      rw [e4] at h2
      grind
    · exfalso
      apply h1
      have h2 : A * (c : Rat) = (c : Rat) := by rw [hac, h]
      have h3 : (A - 1) * (c : Rat) = 0 := by grind
      rcases Rat.mul_eq_zero.1 h3 with h | h <;> grind
    · right
      refine hi_zero.le ?_
      refine Rat.le_of_mul_le_mul_right (c := (c : Rat)) ?_ hcr
      have h2 : ((c + 1 : Nat) : Rat) ≤ (a : Rat) := Rat.natCast_le_natCast.2 (by omega)
      rw [Rat.natCast_add] at h2
      have e4 : ((1 : Nat) : Rat) = 1 := rfl
      rw [e4] at h2
      grind
  · obtain ⟨u, hu⟩ : ∃ u : Nat, j = (u : Int) := ⟨j.toNat, by omega⟩
    have hu0 : 0 < u := by omega
    have hju : (j : Rat) = (u : Rat) := by rw [hu]; rfl
    have hβ : (u : Rat) * tw (-(pl : Int)) * ((2 ^ pl : Nat) : Rat) = (u : Rat) := by
      rw [cast_two, Rat.mul_assoc, ← tw_nat, tw_neg, Rat.mul_one]
    rw [hju] at hb ⊢
    refine (show Away _ _ wS from sep_pos a c u (2 ^ pl) hc (Nat.two_pow_pos _) ha hu0 hac hβ (h := 4280) (p := 3000) (k := pl) (b := 12) ?_ ?_ ?_ ?_ (by decide) (by decide) k1 (by decide) wS_pos wS_ok).le hws
    · rw [← tw_nat]; exact A1
    · rw [← tw_nat]; exact c1
    · rw [cast_two]; exact Rat.le_refl
    · have : (2 : Rat) ^ 12 = 4096 := by decide +kernel
      rw [this]; exact hb
/-- so small a width is enough -/
theorem lg_apart {a x y t w : Rat} (h : Lg a x y) (hw : y ≤ x + w) (hw1 : w ≤ tw (-((Qs + 24400 : Nat) : Int))) (w0 : 0 ≤ w) (ha : a ≤ tw ((4280 : Nat) : Int)) (hs : Away t a sepE) (h1 : x ≤ t) (h2 : t ≤ y) : False := by
  have hQs : Qs = 4398046511104 := rfl
  have hap := h.pos
  have w1 : w ≤ tw (-2) := Rat.le_trans hw1 (tw_le (by omega))
  have e2 : tw (-2) * 4 = 1 := by
    have a := tw_half 0
    have b := tw_half (-1)
    rw [show (0 : Int) - 1 = -1 by decide, tw_zero] at a
    rw [show (-1 : Int) - 1 = -2 by decide] at b
    grind
  have hs0 := sepE_pos
  refine lg_sep h hw (by grind) hs ?_ h1 h2
  have g1 : a * w ≤ tw ((4280 : Nat) : Int) * tw (-((Qs + 24400 : Nat) : Int)) := mul_le ha hw1 (Rat.le_of_lt (tw_pos _)) w0
  rw [← tw_add] at g1
  have g2 : tw (((4280 : Nat) : Int) + -((Qs + 24400 : Nat) : Int)) ≤ tw (-((Qs + 20000 : Nat) : Int) - 1) := tw_le (by omega)
  have g3 := tw_half (-((Qs + 20000 : Nat) : Int))
  have g4 : tw (-((Qs + 20000 : Nat) : Int)) = sepE := rfl
  rw [g4] at g3
  have g5 : sepE * w * 4 ≤ sepE := by
    have := Rat.mul_le_mul_of_nonneg_left (show w * 4 ≤ 1 by grind) (Rat.le_of_lt hs0)
    grind
  have g6 : a * w * 2 ≤ sepE := by grind
  grind
end Go.Proofs.YtmpdbmaokbhcjaaDoor.Ea
