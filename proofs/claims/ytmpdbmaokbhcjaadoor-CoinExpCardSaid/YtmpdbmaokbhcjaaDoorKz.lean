/-
  PLAIN: how often coin's exp tells true, and how often false, of all lists of so many bits.
-/
import Derived.Test.YtmpdbmaokbhcjaaDoorKy
import Derived.Test.YtmpdbmaokbhcjaaDoorKx
set_option linter.unusedVariables false
set_option linter.unusedSimpArgs false
namespace Go.Proofs.YtmpdbmaokbhcjaaDoor.Kn
open Ea (tm E su)

theorem bla_lt : ∀ (f x : Nat), x < 2 ^ f → x < 2 ^ Lib.bitLenAux f x
  | 0, x, h => h
  | f + 1, x, h => by
    unfold Lib.bitLenAux
    by_cases h0 : x = 0
    · rw [if_pos h0, h0]; decide
    · rw [if_neg h0, Nat.pow_add]
      have := bla_lt f (x / 2) (by rw [Nat.pow_succ] at h; omega)
      omega
theorem le_pow_bl {n : Nat} (h : n ≤ 2 ^ 64) : n ≤ 2 ^ Lib.bitLen (n - 1) := by
  have p64 : 2 ^ 64 = 18446744073709551616 := rfl
  by_cases h1 : n = 0
  · subst h1; exact Nat.zero_le _
  · have := bla_lt 64 (n - 1) (by omega)
    show n ≤ 2 ^ Lib.bitLenAux 64 (n - 1)
    omega
theorem cast_add (a b : Nat) : ((a + b : Nat) : Rat) = (a : Rat) + b := Rat.natCast_add a b
theorem cast_mul (a b : Nat) : ((a * b : Nat) : Rat) = (a : Rat) * b := Rat.natCast_mul a b
theorem cast_0 : ((0 : Nat) : Rat) = 0 := rfl
theorem cast_1 : ((1 : Nat) : Rat) = 1 := rfl
theorem sum_bd {f : Nat → Nat} {A cT cF d : Rat} {r n : Nat} (hr : r ≤ n) (h1 : ∀ v, v < r → (f v : Rat) ≤ A * cT) (h2 : ∀ v, r ≤ v → v < n → (f v : Rat) ≤ A * cF) (h3 : ∀ v, n ≤ v → (f v : Rat) ≤ A * d) :
    ∀ N, ((sumR N f : Nat) : Rat) ≤ A * (((min N r : Nat) : Rat) * cT + ((min N n - r : Nat) : Rat) * cF + ((N - n : Nat) : Rat) * d)
  | 0 => by
    rw [show min 0 r = 0 by omega, show min 0 n - r = 0 by omega, show 0 - n = 0 by omega, show sumR 0 f = 0 from rfl, cast_0]
    grind
  | N + 1 => by
    have ih := sum_bd hr h1 h2 h3 N
    rw [sumR_succ, cast_add]
    by_cases a : N < r
    · have := h1 N a
      rw [show min (N + 1) r = min N r + 1 by omega, show min (N + 1) n - r = min N n - r by omega, show N + 1 - n = N - n by omega, cast_add (min N r) 1, cast_1]
      grind
    · by_cases b : N < n
      · have := h2 N (by omega) b
        rw [show min (N + 1) r = min N r by omega, show min (N + 1) n - r = (min N n - r) + 1 by omega, show N + 1 - n = N - n by omega, cast_add (min N n - r) 1, cast_1]
        grind
      · have := h3 N (by omega)
        rw [show min (N + 1) r = min N r by omega, show min (N + 1) n - r = min N n - r by omega, show N + 1 - n = (N - n) + 1 by omega, cast_add (N - n) 1, cast_1]
        grind
theorem le_of_mul {n x y : Rat} (hn : 0 < n) (h : n * x ≤ n * y) : x ≤ y := by
  refine Rat.not_lt.1 fun e => ?_
  have := Rat.mul_lt_mul_of_pos_left e hn
  grind
theorem pow_cast (m k : Nat) (h : k ≤ m) : ((2 ^ m : Nat) : Rat) = ((2 ^ (m - k) : Nat) : Rat) * ((2 ^ k : Nat) : Rat) := by
  rw [← cast_mul, ← Nat.pow_add, Nat.sub_add_cancel h]
theorem take_cnt' (G : Nat → List Bool → Bool) (k m x : Nat) : cntL m (fun l => thenB (takeB k x l) G) = if m < k then 0 else sumR (2 ^ k) (fun j => cntL (m - k) (G (x * 2 ^ k + j))) := by
  rw [← take_cnt G k m x]
  exact cntL_congr (fun l => by cases takeB k x l <;> rfl) m
/-- a number below n is drawn, and it is below r -/
theorem below_bd {n k r : Nat} (h0 : 1 ≤ n) (hn : n ≤ 2 ^ k) (hr : r ≤ n) {F : Bool → List Bool → Bool} {cT cF : Rat} (hT0 : 0 ≤ cT) (hF0 : 0 ≤ cF) : ∀ (f m : Nat),
    (∀ m', m' + k ≤ m → ((cntL m' (F true) : Nat) : Rat) ≤ ((2 ^ m' : Nat) : Rat) * cT) → (∀ m', m' + k ≤ m → ((cntL m' (F false) : Nat) : Rat) ≤ ((2 ^ m' : Nat) : Rat) * cF) →
    (n : Rat) * ((cntL m (fun l => thenB (belowF n k f l) (fun v l' => F (decide (v < r)) l')) : Nat) : Rat) ≤ ((2 ^ m : Nat) : Rat) * ((r : Rat) * cT + ((n - r : Nat) : Rat) * cF)
  | 0, m, hT, hF => by
    rw [show (fun l => thenB (belowF n k 0 l) (fun v l' => F (decide (v < r)) l')) = (fun _ => false) from rfl, cntL_const, if_neg (by decide), cast_0, Rat.mul_zero]
    have a : (0 : Rat) ≤ (r : Rat) := Rat.natCast_nonneg
    have b : (0 : Rat) ≤ ((n - r : Nat) : Rat) := Rat.natCast_nonneg
    have := Rat.mul_nonneg a hT0
    have := Rat.mul_nonneg b hF0
    exact Rat.mul_nonneg Rat.natCast_nonneg (by grind)
  | f + 1, m, hT, hF => by
    have e := take_cnt' (fun v l' => if v < n then F (decide (v < r)) l' else thenB (belowF n k f l') (fun v l' => F (decide (v < r)) l')) k m 0
    rw [cntL_congr (Q := fun l => thenB (takeB k 0 l) (fun v l' => if v < n then F (decide (v < r)) l' else thenB (belowF n k f l') (fun v l' => F (decide (v < r)) l'))) (fun l => ?_) m, e]
    · obtain ⟨C, hC⟩ : ∃ C, C = (r : Rat) * cT + ((n - r : Nat) : Rat) * cF := ⟨_, rfl⟩
      have n0 : (0 : Rat) < (n : Rat) := Rat.natCast_pos.2 (by omega)
      obtain ⟨d, hd⟩ : ∃ d, d = C / (n : Rat) := ⟨_, rfl⟩
      have hnd : d * (n : Rat) = C := by rw [hd]; exact Rat.div_mul_cancel (Rat.ne_of_gt n0)
      have C0 : 0 ≤ C := by
        rw [hC]
        have := Rat.mul_nonneg (Rat.natCast_nonneg (a := r)) hT0
        have := Rat.mul_nonneg (Rat.natCast_nonneg (a := n - r)) hF0
        grind
      rw [← hC]
      by_cases hm : m < k
      · rw [if_pos hm, cast_0, Rat.mul_zero]
        exact Rat.mul_nonneg Rat.natCast_nonneg C0
      · rw [if_neg hm]
        have hs := sum_bd (f := fun j => cntL (m - k) (fun l' => if 0 * 2 ^ k + j < n then F (decide (0 * 2 ^ k + j < r)) l' else thenB (belowF n k f l') (fun v l' => F (decide (v < r)) l'))) (A := ((2 ^ (m - k) : Nat) : Rat)) (cT := cT) (cF := cF) (d := d) hr
          (fun v hv => by
            simp only [Nat.zero_mul, Nat.zero_add]
            rw [cntL_congr (Q := F true) (fun l => by rw [if_pos (by omega), decide_eq_true hv])]
            exact hT (m - k) (by omega))
          (fun v h1 hv => by
            simp only [Nat.zero_mul, Nat.zero_add]
            rw [cntL_congr (Q := F false) (fun l => by rw [if_pos hv, decide_eq_false (by omega)])]
            exact hF (m - k) (by omega))
          (fun v hv => by
            simp only [Nat.zero_mul, Nat.zero_add]
            rw [cntL_congr (Q := fun l' => thenB (belowF n k f l') (fun v l' => F (decide (v < r)) l')) (fun l => by rw [if_neg (by omega)])]
            have ih := below_bd h0 hn hr hT0 hF0 f (m - k) (fun m' h => hT m' (by omega)) (fun m' h => hF m' (by omega))
            rw [← hC, ← hnd] at ih
            exact le_of_mul n0 (by grind)) (2 ^ k)
        rw [show min (2 ^ k) r = r by omega, show min (2 ^ k) n - r = n - r by omega, ← hC] at hs
        have e2 : ((2 ^ k : Nat) : Rat) = (n : Rat) + ((2 ^ k - n : Nat) : Rat) := by rw [← cast_add]; congr 1; omega
        rw [pow_cast m k (by omega), e2]
        generalize ((2 ^ k - n : Nat) : Rat) = z at *
        generalize ((2 ^ (m - k) : Nat) : Rat) = y at *
        have := Rat.mul_le_mul_of_nonneg_left hs (Rat.le_of_lt n0)
        rw [← hnd] at this ⊢
        refine Rat.le_trans this ?_
        grind
    · show thenB (belowF n k (f + 1) l) _ = _
      rw [belowF_s]
      cases takeB k 0 l with
      | none => rfl
      | some p =>
        obtain ⟨v, r'⟩ := p
        by_cases hv : v < n
        · simp only [if_pos hv, thenB]
        · simp only [if_neg hv, thenB]
theorem part_bd {n r : Nat} (h0 : 1 ≤ n) (hn : n ≤ 2 ^ 64) (hr : r ≤ n) {F : Bool → List Bool → Bool} {cT cF : Rat} (hT0 : 0 ≤ cT) (hF0 : 0 ≤ cF) (m : Nat)
    (hT : ∀ m', m' ≤ m → (2 ≤ n → m' + 1 ≤ m) → ((cntL m' (F true) : Nat) : Rat) ≤ ((2 ^ m' : Nat) : Rat) * cT) (hF : ∀ m', m' ≤ m → (2 ≤ n → m' + 1 ≤ m) → ((cntL m' (F false) : Nat) : Rat) ≤ ((2 ^ m' : Nat) : Rat) * cF) :
    (n : Rat) * ((cntL m (fun l => thenB (partP r n l) F) : Nat) : Rat) ≤ ((2 ^ m : Nat) : Rat) * ((r : Rat) * cT + ((n - r : Nat) : Rat) * cF) := by
  have hk : 2 ≤ n → 1 ≤ Lib.bitLen (n - 1) := bitLen_pos
  have := below_bd h0 (le_pow_bl hn) hr (F := F) hT0 hF0 600 m (fun m' h => hT m' (by omega) (fun h2 => by have := hk h2; omega)) (fun m' h => hF m' (by omega) (fun h2 => by have := hk h2; omega))
  rw [cntL_congr (Q := fun l => thenB (belowF n (Lib.bitLen (n - 1)) 600 l) (fun v l' => F (decide (v < r)) l')) (fun l => ?_) m]
  · exact this
  · unfold partP belowP
    cases belowF n (Lib.bitLen (n - 1)) 600 l with
    | none => rfl
    | some p => rfl
/-- what rest tells, from its k-th draw on, d draws -/
def wt (r b : Nat) (cT cF : Rat) : Nat → Nat → Rat
  | 0, _ => 0
  | d + 1, k => ((r : Rat) * wt r b cT cF d (k + 1) + ((b * k - r : Nat) : Rat) * (if k % 2 = 1 then cT else cF)) / ((b * k : Nat) : Rat)
theorem wt_step {r b : Nat} {cT cF : Rat} {d k : Nat} (h : 1 ≤ b * k) : ((b * k : Nat) : Rat) * wt r b cT cF (d + 1) k = (r : Rat) * wt r b cT cF d (k + 1) + ((b * k - r : Nat) : Rat) * (if k % 2 = 1 then cT else cF) := by
  have h0 : (0 : Rat) < ((b * k : Nat) : Rat) := Rat.natCast_pos.2 (by omega)
  show ((b * k : Nat) : Rat) * (_ / ((b * k : Nat) : Rat)) = _
  rw [Rat.mul_comm, Rat.div_mul_cancel (Rat.ne_of_gt h0)]
theorem wt_nonneg {r b : Nat} {cT cF : Rat} (hb : 1 ≤ b) (hT : 0 ≤ cT) (hF : 0 ≤ cF) : ∀ (d k : Nat), 1 ≤ k → 0 ≤ wt r b cT cF d k
  | 0, k, _ => Rat.le_refl
  | d + 1, k, hk => by
    have hbk := Nat.mul_pos hb hk
    have h0 : (0 : Rat) < ((b * k : Nat) : Rat) := Rat.natCast_pos.2 (by omega)
    refine le_of_mul h0 ?_
    rw [wt_step hbk, Rat.mul_zero]
    have a := Rat.mul_nonneg (Rat.natCast_nonneg (a := r)) (wt_nonneg (r := r) hb hT hF d (k + 1) (by omega))
    have c : 0 ≤ (if k % 2 = 1 then cT else cF) := by split <;> assumption
    have e := Rat.mul_nonneg (Rat.natCast_nonneg (a := b * k - r)) c
    grind
theorem rest_bd {r b : Nat} (hb : 1 ≤ b) (hb2 : b ≤ 1000) (hr : r ≤ b) {F : Bool → List Bool → Bool} {cT cF : Rat} (hT0 : 0 ≤ cT) (hF0 : 0 ≤ cF) : ∀ (f k m d : Nat), 1 ≤ k → k + f ≤ 601 → ((2 ≤ k ∧ m ≤ d) ∨ (k = 1 ∧ m + 1 ≤ d)) →
    (∀ m', m' ≤ m → ((cntL m' (F true) : Nat) : Rat) ≤ ((2 ^ m' : Nat) : Rat) * cT) → (∀ m', m' ≤ m → ((cntL m' (F false) : Nat) : Rat) ≤ ((2 ^ m' : Nat) : Rat) * cF) →
    ((cntL m (fun l => thenB (restF r b f k l) F) : Nat) : Rat) ≤ ((2 ^ m : Nat) : Rat) * wt r b cT cF d k
  | 0, k, m, d, hk, hkf, hd, hT, hF => by
    rw [show (fun l => thenB (restF r b 0 k l) F) = (fun _ => false) from rfl, cntL_const, if_neg (by decide), cast_0]
    exact Rat.mul_nonneg Rat.natCast_nonneg (wt_nonneg hb hT0 hF0 d k hk)
  | f + 1, k, m, 0, hk, hkf, hd, hT, hF => by
    obtain ⟨h2, hm⟩ : 2 ≤ k ∧ m = 0 := by omega
    subst hm
    have e : restF r b (f + 1) k [] = none := by
      cases h : restF r b (f + 1) k [] with
      | none => rfl
      | some p =>
        obtain ⟨v, l'⟩ := p
        have := (rest_len _ _ _ h).2 (Nat.le_trans h2 (Nat.le_mul_of_pos_left k hb))
        simp at this
    have e2 : cntL 0 (fun l => thenB (restF r b (f + 1) k l) F) = 0 := by
      show (if thenB (restF r b (f + 1) k []) F = true then 1 else 0) = 0
      rw [e]; rfl
    rw [e2, cast_0]
    exact Rat.mul_nonneg Rat.natCast_nonneg (wt_nonneg hb hT0 hF0 0 k hk)
  | f + 1, k, m, d + 1, hk, hkf, hd, hT, hF => by
    have hbk : 1 ≤ b * k := Nat.mul_pos hb hk
    have hbk2 : b * k ≤ 1000 * 601 := Nat.mul_le_mul hb2 (by omega)
    have hrk : r ≤ b * k := Nat.le_trans hr (Nat.le_mul_of_pos_right b hk)
    have hk2 : 2 ≤ k → 2 ≤ b * k := fun h => Nat.le_trans h (Nat.le_mul_of_pos_left k hb)
    have n0 : (0 : Rat) < ((b * k : Nat) : Rat) := Rat.natCast_pos.2 (by omega)
    have P := part_bd (n := b * k) (r := r) hbk (by omega) hrk (F := fun t l' => if t = true then thenB (restF r b f (k + 1) l') F else F (decide (k % 2 = 1)) l') (cT := wt r b cT cF d (k + 1)) (cF := if k % 2 = 1 then cT else cF)
      (wt_nonneg hb hT0 hF0 d (k + 1) (by omega)) (by split <;> assumption) m
      (fun m' h1 h2 => by
        rw [cntL_congr (Q := fun l' => thenB (restF r b f (k + 1) l') F) (fun l => by rw [if_pos rfl])]
        exact rest_bd hb hb2 hr hT0 hF0 f (k + 1) m' d (by omega) (by omega) (Or.inl ⟨by omega, by
          rcases hd with ⟨h3, h4⟩ | ⟨h3, h4⟩
          · have := h2 (hk2 h3); omega
          · omega⟩) (fun m'' h => hT m'' (by omega)) (fun m'' h => hF m'' (by omega)))
      (fun m' h1 h2 => by
        rw [cntL_congr (Q := F (decide (k % 2 = 1))) (fun l => by rw [if_neg (by decide)])]
        by_cases ho : k % 2 = 1
        · rw [if_pos ho, decide_eq_true ho]; exact hT m' h1
        · rw [if_neg ho, decide_eq_false ho]; exact hF m' h1)
    rw [← wt_step hbk] at P
    rw [cntL_congr (Q := fun l => thenB (partP r (b * k) l) (fun t l' => if t = true then thenB (restF r b f (k + 1) l') F else F (decide (k % 2 = 1)) l')) (fun l => ?_) m]
    · exact le_of_mul n0 (by grind)
    · rw [restF_s]
      cases partP r (b * k) l with
      | none => rfl
      | some p =>
        obtain ⟨t, l'⟩ := p
        cases t <;> rfl
/-- .. in terms of the powers of x = r/b -/
theorem wt_tm {r b : Nat} (hb : 1 ≤ b) (hr : r ≤ b) {cT cF x : Rat} (hx : x * (b : Rat) = (r : Rat)) : ∀ (d k : Nat),
    tm x k * wt r b cT cF d (k + 1) = su (fun j => (tm x (k + j) - tm x (k + j + 1)) * (if (k + j + 1) % 2 = 1 then cT else cF)) d
  | 0, k => by show _ * (0 : Rat) = 0; rw [Rat.mul_zero]
  | d + 1, k => by
    have hbk : 1 ≤ b * (k + 1) := Nat.mul_pos hb (by omega)
    have hrk : r ≤ b * (k + 1) := Nat.le_trans hr (Nat.le_mul_of_pos_right b (by omega))
    have n0 : (0 : Rat) < (b : Rat) := Rat.natCast_pos.2 (by omega)
    have k0 := Ea.cast_pos k
    have s := wt_step (r := r) (cT := cT) (cF := cF) (d := d) hbk
    have ih := wt_tm hb hr (cT := cT) (cF := cF) hx d (k + 1)
    have t := Ea.tm_step x k
    rw [Ea.su_shift]
    have e : su (fun j => (tm x (k + (j + 1)) - tm x (k + (j + 1) + 1)) * (if (k + (j + 1) + 1) % 2 = 1 then cT else cF)) d = su (fun j => (tm x (k + 1 + j) - tm x (k + 1 + j + 1)) * (if (k + 1 + j + 1) % 2 = 1 then cT else cF)) d :=
      Ea.su_congr (fun j _ => by rw [show k + (j + 1) = k + 1 + j by omega])
    rw [e, ← ih]
    have e1 : ((b * (k + 1) - r : Nat) : Rat) = (b : Rat) * ((k + 1 : Nat) : Rat) - (r : Rat) := by
      have : ((b * (k + 1) - r : Nat) : Rat) + (r : Rat) = (b : Rat) * ((k + 1 : Nat) : Rat) := by rw [← cast_add, ← cast_mul]; congr 1; omega
      grind
    rw [e1, cast_mul, ← hx] at s
    simp only [Nat.add_zero]
    generalize wt r b cT cF d (k + 1 + 1) = W1 at *
    generalize wt r b cT cF (d + 1) (k + 1) = W0 at *
    generalize (if (k + 1) % 2 = 1 then cT else cF) = c at *
    generalize ((k + 1 : Nat) : Rat) = K at *
    generalize tm x (k + 1) = T1 at *
    generalize tm x k = T0 at *
    generalize (b : Rat) = β at *
    have s2 : K * W0 = x * W1 + (K - x) * c := le_antisymm' n0 (by grind)
    refine le_antisymm' k0 ?_
    grind
where
  le_antisymm' {n x y : Rat} (hn : 0 < n) (h : n * x = n * y) : x = y := Rat.le_antisymm (le_of_mul hn (by rw [h]; exact Rat.le_refl)) (le_of_mul hn (by rw [h]; exact Rat.le_refl))
/-- .. whole -/
theorem wt_E {r b : Nat} (hb : 1 ≤ b) (hr : r ≤ b) {cT cF x : Rat} (hx : x * (b : Rat) = (r : Rat)) (i : Nat) : wt r b cT cF (2 * i) 1 = E (-x) (2 * i) * cT + (1 - E (-x) (2 * i + 1)) * cF := by
  have h := wt_tm hb hr (cT := cT) (cF := cF) hx (2 * i) 0
  rw [show tm x 0 = 1 from rfl, Rat.one_mul] at h
  rw [show (1 : Nat) = 0 + 1 from rfl, h]
  clear h
  simp only [Nat.zero_add]
  induction i with
  | zero =>
    rw [show 2 * 0 = 0 from rfl, Ea.su_nil, show E (-x) 0 = 0 from rfl, show (0 + 1 : Nat) = 1 from rfl, Ea.E_one]; grind
  | succ i ih =>
    rw [show 2 * (i + 1) = 2 * i + 1 + 1 by omega, Ea.su_succ, Ea.su_succ, ih]
    rw [if_pos (by omega), if_neg (by omega)]
    have e1 : E (-x) (2 * i + 1) = E (-x) (2 * i) + tm x (2 * i) := by
      show E (-x) (2 * i) + tm (-x) (2 * i) = _
      rw [(Ea.tm_alt x i).1]
    have e2 : E (-x) (2 * i + 1 + 1) = E (-x) (2 * i + 1) - tm x (2 * i + 1) := by
      show E (-x) (2 * i + 1) + tm (-x) (2 * i + 1) = _
      rw [(Ea.tm_alt x i).2]; grind
    have e3 : E (-x) (2 * i + 1 + 1 + 1) = E (-x) (2 * i + 1 + 1) + tm x (2 * i + 1 + 1) := by
      show E (-x) (2 * i + 1 + 1) + tm (-x) (2 * (i + 1)) = _
      rw [(Ea.tm_alt x (i + 1)).1]; rfl
    grind
/-- what e to -x is from below and from above, by 2 i terms -/
def lowE (x : Rat) (i : Nat) : Rat := E (-x) (2 * i)
def upE (x : Rat) (i : Nat) : Rat := E (-x) (2 * i + 1)
theorem lowE_bd {x : Rat} (h0 : 0 ≤ x) (h1 : x ≤ 1) (i : Nat) : 0 ≤ lowE x i ∧ lowE x i ≤ upE x i ∧ upE x i ≤ 1 :=
  ⟨Ea.alt_nonneg h0 h1 _, Ea.alt_ge h0 h1 (by omega), Ea.alt_one h0 h1 _⟩
theorem ratio_bd {r b : Nat} (hb : 1 ≤ b) (hr : r ≤ b) {x : Rat} (hx : x * (b : Rat) = (r : Rat)) : 0 ≤ x ∧ x ≤ 1 := by
  have n0 : (0 : Rat) < (b : Rat) := Rat.natCast_pos.2 (by omega)
  have h1 : (r : Rat) ≤ (b : Rat) := Rat.natCast_le_natCast.2 hr
  have h2 : (0 : Rat) ≤ (r : Rat) := Rat.natCast_nonneg
  exact ⟨le_of_mul n0 (by grind), le_of_mul n0 (by grind)⟩
theorem restP_bd {r b : Nat} (hb : 1 ≤ b) (hb2 : b ≤ 1000) (hr : r ≤ b) {x : Rat} (hx : x * (b : Rat) = (r : Rat)) {F : Bool → List Bool → Bool} {cT cF : Rat} (hT0 : 0 ≤ cT) (hF0 : 0 ≤ cF) {m i : Nat} (hi : m + 1 ≤ 2 * i)
    (hT : ∀ m', m' ≤ m → ((cntL m' (F true) : Nat) : Rat) ≤ ((2 ^ m' : Nat) : Rat) * cT) (hF : ∀ m', m' ≤ m → ((cntL m' (F false) : Nat) : Rat) ≤ ((2 ^ m' : Nat) : Rat) * cF) :
    ((cntL m (fun l => thenB (restP r b l) F) : Nat) : Rat) ≤ ((2 ^ m : Nat) : Rat) * (lowE x i * cT + (1 - upE x i) * cF) := by
  have := rest_bd hb hb2 hr (F := F) hT0 hF0 600 1 m (2 * i) (by omega) (by omega) (Or.inr ⟨rfl, hi⟩) hT hF
  rw [wt_E hb hr hx] at this
  exact this
theorem pow_bd {y : Rat} (h0 : 0 ≤ y) (h1 : y ≤ 1) : ∀ n : Nat, 0 ≤ y ^ n ∧ y ^ n ≤ 1
  | 0 => by rw [Rat.pow_zero]; exact ⟨by decide, Rat.le_refl⟩
  | n + 1 => by
    obtain ⟨a, b⟩ := pow_bd h0 h1 n
    rw [Rat.pow_succ]
    have := Rat.mul_nonneg a h0
    have := Rat.mul_le_mul_of_nonneg_right b h0
    exact ⟨by grind, by grind⟩
theorem pow_nn {y : Rat} (h0 : 0 ≤ y) : ∀ n : Nat, 0 ≤ y ^ n
  | 0 => by rw [Rat.pow_zero]; decide
  | n + 1 => by rw [Rat.pow_succ]; exact Rat.mul_nonneg (pow_nn h0 n) h0
theorem pow_mono {x y : Rat} (h0 : 0 ≤ x) (h1 : x ≤ y) : ∀ n : Nat, x ^ n ≤ y ^ n
  | 0 => by rw [Rat.pow_zero, Rat.pow_zero]; exact Rat.le_refl
  | n + 1 => by
    rw [Rat.pow_succ, Rat.pow_succ]
    exact Ea.mul_le (pow_mono h0 h1 n) h1 (pow_nn (Rat.le_trans h0 h1) n) h0
theorem loop_bd {F : Bool → List Bool → Bool} {cT cF : Rat} (hT0 : 0 ≤ cT) (hF0 : 0 ≤ cF) {i : Nat} : ∀ (n m : Nat), m + 1 ≤ 2 * i →
    (∀ m', m' ≤ m → ((cntL m' (F true) : Nat) : Rat) ≤ ((2 ^ m' : Nat) : Rat) * cT) → (∀ m', m' ≤ m → ((cntL m' (F false) : Nat) : Rat) ≤ ((2 ^ m' : Nat) : Rat) * cF) →
    ((cntL m (fun l => thenB (loopE n l) F) : Nat) : Rat) ≤ ((2 ^ m : Nat) : Rat) * (lowE 1 i ^ n * cT + (1 - upE 1 i ^ n) * cF)
  | 0, m, hi, hT, hF => by
    rw [Rat.pow_zero, Rat.pow_zero, cntL_congr (P := fun l => thenB (loopE 0 l) F) (Q := F true) (fun l => rfl)]
    have := hT m (Nat.le_refl _)
    grind
  | n + 1, m, hi, hT, hF => by
    obtain ⟨a, b, c⟩ := lowE_bd (x := 1) (by decide) Rat.le_refl i
    obtain ⟨p0, p1⟩ := pow_bd a (Rat.le_trans b c) n
    obtain ⟨q0, q1⟩ := pow_bd (Rat.le_trans a b) c n
    have z0 : 0 ≤ lowE 1 i ^ n * cT + (1 - upE 1 i ^ n) * cF := by
      have := Rat.mul_nonneg p0 hT0
      have := Rat.mul_nonneg (show 0 ≤ 1 - upE 1 i ^ n by grind) hF0
      grind
    have h := restP_bd (r := 1) (b := 1) (x := 1) (F := fun t l' => if t = true then thenB (loopE n l') F else F false l') (cT := lowE 1 i ^ n * cT + (1 - upE 1 i ^ n) * cF) (cF := cF) (i := i) (m := m) (by decide) (by decide) (by decide) (by rw [cast_1, Rat.one_mul]) z0 hF0 hi
      (fun m' h => by
        rw [cntL_congr (Q := fun l' => thenB (loopE n l') F) (fun l => by rw [if_pos rfl])]
        exact loop_bd hT0 hF0 n m' (by omega) (fun m'' h' => hT m'' (by omega)) (fun m'' h' => hF m'' (by omega)))
      (fun m' h => by
        rw [cntL_congr (Q := F false) (fun l => by rw [if_neg (by decide)])]
        exact hF m' h)
    rw [cntL_congr (Q := fun l => thenB (restP 1 1 l) (fun t l' => if t = true then thenB (loopE n l') F else F false l')) (fun l => ?_) m]
    · refine Rat.le_trans h (Rat.mul_le_mul_of_nonneg_left ?_ Rat.natCast_nonneg)
      rw [Rat.pow_succ, Rat.pow_succ]
      have := Rat.mul_nonneg (Rat.mul_nonneg (show 0 ≤ upE 1 i - lowE 1 i by grind) (show 0 ≤ 1 - upE 1 i ^ n by grind)) hF0
      grind
    · rw [loopE_s]
      cases restP 1 1 l with
      | none => rfl
      | some p =>
        obtain ⟨t, l'⟩ := p
        cases t <;> rfl
theorem exp_bd {a b : Nat} (hb : 1 ≤ b) (hb2 : b ≤ 1000) {x : Rat} (hx : x * (b : Rat) = ((a % b : Nat) : Rat)) {F : Bool → List Bool → Bool} {cT cF : Rat} (hT0 : 0 ≤ cT) (hF0 : 0 ≤ cF) {m i : Nat} (hi : m + 1 ≤ 2 * i)
    (hT : ∀ m', m' ≤ m → ((cntL m' (F true) : Nat) : Rat) ≤ ((2 ^ m' : Nat) : Rat) * cT) (hF : ∀ m', m' ≤ m → ((cntL m' (F false) : Nat) : Rat) ≤ ((2 ^ m' : Nat) : Rat) * cF) :
    ((cntL m (fun l => thenB (expP a b l) F) : Nat) : Rat) ≤ ((2 ^ m : Nat) : Rat) * (lowE 1 i ^ (a / b) * lowE x i * cT + (1 - upE 1 i ^ (a / b) * upE x i) * cF) := by
  have hr : a % b ≤ b := Nat.le_of_lt (Nat.mod_lt _ (by omega))
  obtain ⟨x0, x1⟩ := ratio_bd hb hr hx
  obtain ⟨u0, u1, u2⟩ := lowE_bd x0 x1 i
  obtain ⟨v0, v1, v2⟩ := lowE_bd (x := 1) (by decide) Rat.le_refl i
  have p1 := pow_mono v0 v1 (a / b)
  have z0 : 0 ≤ lowE x i * cT + (1 - upE x i) * cF := by
    have := Rat.mul_nonneg u0 hT0
    have := Rat.mul_nonneg (show 0 ≤ 1 - upE x i by grind) hF0
    grind
  have h := loop_bd (F := fun t l' => if t = true then thenB (restP (a % b) b l') F else F false l') (cT := lowE x i * cT + (1 - upE x i) * cF) (cF := cF) z0 hF0 (i := i) (a / b) m hi
    (fun m' h => by
      rw [cntL_congr (Q := fun l' => thenB (restP (a % b) b l') F) (fun l => by rw [if_pos rfl])]
      exact restP_bd hb hb2 hr hx hT0 hF0 (by omega) (fun m'' h' => hT m'' (by omega)) (fun m'' h' => hF m'' (by omega)))
    (fun m' h => by
      rw [cntL_congr (Q := F false) (fun l => by rw [if_neg (by decide)])]
      exact hF m' h)
  rw [cntL_congr (Q := fun l => thenB (loopE (a / b) l) (fun t l' => if t = true then thenB (restP (a % b) b l') F else F false l')) (fun l => ?_) m]
  · refine Rat.le_trans h (Rat.mul_le_mul_of_nonneg_left ?_ Rat.natCast_nonneg)
    generalize lowE 1 i ^ (a / b) = P at *
    generalize upE 1 i ^ (a / b) = Q at *
    have := Rat.mul_nonneg (Rat.mul_nonneg (show 0 ≤ Q - P by grind) (show 0 ≤ 1 - upE x i by grind)) hF0
    grind
  · unfold expP
    cases loopE (a / b) l with
    | none => rfl
    | some p =>
      obtain ⟨t, l'⟩ := p
      cases t <;> rfl
/-- how many tell true, how many false -/
def expN (a b m : Nat) (v : Bool) : Nat := cntL m (fun l => thenB (expP a b l) (fun t _ => t == v))
theorem expN_law {a b : Nat} (hb : 1 ≤ b) (hb2 : b ≤ 1000) {y : Rat} (hy : y * (b : Rat) = (a : Rat)) (m : Nat) :
    ∃ L H, Ea.Lo (-y) L ∧ Ea.Hi (-y) H ∧ ((expN a b m true : Nat) : Rat) ≤ ((2 ^ m : Nat) : Rat) * L ∧ ((expN a b m false : Nat) : Rat) ≤ ((2 ^ m : Nat) : Rat) * (1 - H) := by
  have n0 : (0 : Rat) < (b : Rat) := Rat.natCast_pos.2 (by omega)
  have hr : a % b ≤ b := Nat.le_of_lt (Nat.mod_lt _ (by omega))
  obtain ⟨x, hx⟩ : ∃ x : Rat, x * (b : Rat) = ((a % b : Nat) : Rat) := ⟨((a % b : Nat) : Rat) / (b : Rat), Rat.div_mul_cancel (Rat.ne_of_gt n0)⟩
  obtain ⟨x0, x1⟩ := ratio_bd hb hr hx
  obtain ⟨u0, u1, u2⟩ := lowE_bd x0 x1 (m + 1)
  obtain ⟨v0, v1, v2⟩ := lowE_bd (x := 1) (by decide) Rat.le_refl (m + 1)
  have hs : y = ((a / b : Nat) : Rat) + x := by
    have e : (a : Rat) = (b : Rat) * ((a / b : Nat) : Rat) + ((a % b : Nat) : Rat) := by
      rw [← cast_mul, ← cast_add, Nat.div_add_mod]
    have : (b : Rat) * y = (b : Rat) * (((a / b : Nat) : Rat) + x) := by grind
    exact Rat.le_antisymm (le_of_mul n0 (by rw [this]; exact Rat.le_refl)) (le_of_mul n0 (by rw [this]; exact Rat.le_refl))
  have hl : ∀ n : Nat, Ea.Lo (-((n : Nat) : Rat)) (lowE 1 (m + 1) ^ n) := fun n => by
    induction n with
    | zero => rw [Rat.pow_zero, cast_0]; exact Ea.lo_zero
    | succ n ih =>
      rw [Rat.pow_succ, cast_add, cast_1, show -((n : Rat) + 1) = -(n : Rat) + -1 by grind]
      exact Ea.lo_mul (pow_bd v0 (Rat.le_trans v1 v2) n).1 v0 ih (Ea.alt_lo (by decide) Rat.le_refl _)
  have hh : ∀ n : Nat, Ea.Hi (-((n : Nat) : Rat)) (upE 1 (m + 1) ^ n) := fun n => by
    induction n with
    | zero => rw [Rat.pow_zero, cast_0]; exact Ea.hi_zero
    | succ n ih =>
      rw [Rat.pow_succ, cast_add, cast_1, show -((n : Rat) + 1) = -(n : Rat) + -1 by grind]
      exact Ea.hi_mul ih (Ea.alt_hi (by decide) Rat.le_refl _)
  refine ⟨lowE 1 (m + 1) ^ (a / b) * lowE x (m + 1), upE 1 (m + 1) ^ (a / b) * upE x (m + 1), ?_, ?_, ?_, ?_⟩
  · rw [hs, show -(((a / b : Nat) : Rat) + x) = -((a / b : Nat) : Rat) + -x by grind]
    exact Ea.lo_mul (pow_bd v0 (Rat.le_trans v1 v2) _).1 u0 (hl _) (Ea.alt_lo x0 x1 _)
  · rw [hs, show -(((a / b : Nat) : Rat) + x) = -((a / b : Nat) : Rat) + -x by grind]
    exact Ea.hi_mul (hh _) (Ea.alt_hi x0 x1 _)
  · have h := exp_bd hb hb2 hx (F := fun t _ => t == true) (cT := 1) (cF := 0) (by decide) Rat.le_refl (m := m) (i := m + 1) (by omega)
      (fun m' _ => by rw [cntL_const, if_pos (by rfl), Rat.mul_one]; exact Rat.le_refl) (fun m' _ => by rw [cntL_const, if_neg (by decide), Rat.mul_zero]; exact Rat.le_refl)
    unfold expN
    refine Rat.le_trans h (Rat.mul_le_mul_of_nonneg_left ?_ Rat.natCast_nonneg)
    grind
  · have h := exp_bd hb hb2 hx (F := fun t _ => t == false) (cT := 0) (cF := 1) Rat.le_refl (by decide) (m := m) (i := m + 1) (by omega)
      (fun m' _ => by rw [cntL_const, if_neg (by decide), Rat.mul_zero]; exact Rat.le_refl) (fun m' _ => by rw [cntL_const, if_pos (by rfl), Rat.mul_one]; exact Rat.le_refl)
    unfold expN
    refine Rat.le_trans h (Rat.mul_le_mul_of_nonneg_left ?_ Rat.natCast_nonneg)
    grind
end Go.Proofs.YtmpdbmaokbhcjaaDoor.Kn
