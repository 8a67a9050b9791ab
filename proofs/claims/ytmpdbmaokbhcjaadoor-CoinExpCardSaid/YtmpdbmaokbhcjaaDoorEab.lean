/-
  SOME OF MY TEXTS in one: Ea Eb Ec Ed Ee Ef Eg Eh Ei Ej. Each says what it proves.
-/
set_option linter.unusedVariables false
set_option linter.unusedSimpArgs false
/-
  PLAIN: divided differences over nodes that stand more than once: of exponentials they vanish not all (MAHLER).
-/
namespace Go.Proofs.YtmpdbmaokbhcjaaDoor.Ea

/-- how often each node stands; one more, one less of it -/
def inc (M : Nat → Nat) (j : Nat) : Nat → Nat := fun x => if x = j then M x + 1 else M x
def dec (M : Nat → Nat) (j : Nat) : Nat → Nat := fun x => if x = j then M x - 1 else M x
theorem inc_at (M : Nat → Nat) (j : Nat) : inc M j j = M j + 1 := by unfold inc; rw [if_pos rfl]
theorem inc_ne (M : Nat → Nat) {j x : Nat} (h : x ≠ j) : inc M j x = M x := by unfold inc; rw [if_neg h]
theorem dec_at (M : Nat → Nat) (j : Nat) : dec M j j = M j - 1 := by unfold dec; rw [if_pos rfl]
theorem dec_ne (M : Nat → Nat) {j x : Nat} (h : x ≠ j) : dec M j x = M x := by unfold dec; rw [if_neg h]
theorem dec_inc (M : Nat → Nat) (j : Nat) : dec (inc M j) j = M := by
  funext x; by_cases h : x = j
  · subst h; rw [dec_at, inc_at, Nat.add_sub_cancel]
  · rw [dec_ne _ h, inc_ne _ h]
theorem inc_dec {M : Nat → Nat} {j : Nat} (h0 : 0 < M j) : inc (dec M j) j = M := by
  funext x; by_cases h : x = j
  · subst h; rw [inc_at, dec_at]; omega
  · rw [inc_ne _ h, dec_ne _ h]
theorem dec_comm (M : Nat → Nat) (i j : Nat) : dec (dec M i) j = dec (dec M j) i := by
  funext x; unfold dec; split <;> split <;> rfl
theorem inc_comm (M : Nat → Nat) (i j : Nat) : inc (inc M i) j = inc (inc M j) i := by
  funext x; unfold inc; split <;> split <;> rfl
theorem dec_inc_comm (M : Nat → Nat) {i j : Nat} (h : i ≠ j) : dec (inc M i) j = inc (dec M j) i := by
  funext x; unfold inc dec
  by_cases h1 : x = j
  · subst h1
    have h2 : ¬ x = i := fun e => h e.symm
    simp [h2]
  · simp [h1]
/-- so many nodes are there -/
inductive Sz : (Nat → Nat) → Nat → Prop
  | zero : ∀ M, (∀ x, M x = 0) → Sz M 0
  | step : ∀ M a s, 0 < M a → Sz (dec M a) s → Sz M (s + 1)
theorem Sz.zero' {M : Nat → Nat} (h : Sz M 0) : ∀ x, M x = 0 := by cases h with | zero _ h => exact h
theorem Sz.pos {M : Nat → Nat} {s : Nat} (h : Sz M (s + 1)) : ∃ a, 0 < M a ∧ Sz (dec M a) s := by cases h with | step _ a _ h1 h2 => exact ⟨a, h1, h2⟩
theorem Sz.dec : ∀ {s : Nat} {M : Nat → Nat} {c : Nat}, Sz M (s + 1) → 0 < M c → Sz (dec M c) s := by
  intro s
  induction s with
  | zero =>
    intro M c h hc
    obtain ⟨a, h1, h2⟩ := h.pos
    by_cases hca : c = a
    · subst hca; exact h2
    · have := h2.zero' c
      rw [dec_ne _ hca] at this
      omega
  | succ s ih =>
    intro M c h hc
    obtain ⟨a, h1, h2⟩ := h.pos
    by_cases hca : c = a
    · subst hca; exact h2
    · have h3 : 0 < Ea.dec M a c := by rw [dec_ne _ hca]; exact hc
      have h4 := ih h2 h3
      rw [dec_comm] at h4
      exact Sz.step _ a _ (by rw [dec_ne _ (fun e => hca e.symm)]; exact h1) h4
theorem Sz.inc {s : Nat} {M : Nat → Nat} (c : Nat) (h : Sz M s) : Sz (inc M c) (s + 1) := Sz.step _ c _ (by rw [inc_at]; omega) (by rw [dec_inc]; exact h)
theorem Sz.has {s : Nat} {M : Nat → Nat} {x : Nat} (h : Sz M s) (hx : 0 < M x) : ∃ t, s = t + 1 := by
  cases s with
  | zero => have := h.zero' x; omega
  | succ t => exact ⟨t, rfl⟩
/-- but one node stands there -/
theorem Sz.one {s : Nat} {M : Nat → Nat} {j : Nat} (h : Sz M s) (hj : ∀ x, x ≠ j → M x = 0) : M j = s := by
  induction h with
  | zero M h => exact h j
  | step M a s h1 h2 ih =>
    have ha : a = j := Decidable.byContradiction fun e => by have := hj a e; omega
    subst ha
    have := ih (fun x hx => by rw [dec_ne _ hx]; exact hj x hx)
    rw [dec_at] at this
    omega
def Two (M : Nat → Nat) : Prop := ∃ p : Nat × Nat, p.1 ≠ p.2 ∧ 0 < M p.1 ∧ 0 < M p.2
open Classical in
/-- the divided difference of data: b j i at a node that stands i + 1 times -/
noncomputable def dd (b : Nat → Nat → Rat) : Nat → (Nat → Nat) → Rat
  | 0, _ => 0
  | s + 1, M =>
    if h : Two M then (dd b s (dec M h.choose.1) - dd b s (dec M h.choose.2)) / ((h.choose.2 : Rat) - (h.choose.1 : Rat))
    else if h : ∃ j, 0 < M j then b h.choose (M h.choose - 1) else 0
theorem dd_one (b : Nat → Nat → Rat) {j s : Nat} {M : Nat → Nat} (h : Sz M (s + 1)) (hj : ∀ x, x ≠ j → M x = 0) : dd b (s + 1) M = b j s := by
  have h1 : ¬ Two M := fun ⟨p, h1, h2, h3⟩ => h1 (by
    have e1 : p.1 = j := Decidable.byContradiction fun e => by have := hj _ e; omega
    have e2 : p.2 = j := Decidable.byContradiction fun e => by have := hj _ e; omega
    rw [e1, e2])
  have h2 : M j = s + 1 := h.one hj
  have h3 : ∃ j, 0 < M j := ⟨j, by omega⟩
  unfold dd
  rw [dif_neg h1, dif_pos h3]
  have e : h3.choose = j := Decidable.byContradiction fun e => by have := hj _ e; have := h3.choose_spec; omega
  rw [e, h2, Nat.add_sub_cancel]
theorem cast_ne {x y : Nat} (h : x ≠ y) : (y : Rat) - (x : Rat) ≠ 0 := by
  intro e
  have : (y : Rat) = (x : Rat) := by grind
  exact h (Rat.natCast_inj.1 this).symm
/-- any two nodes may be taken away -/
theorem dd_two (b : Nat → Nat → Rat) : ∀ {s : Nat} {M : Nat → Nat} {x y : Nat}, Sz M (s + 1) → x ≠ y → 0 < M x → 0 < M y →
    ((y : Rat) - (x : Rat)) * dd b (s + 1) M = dd b s (dec M x) - dd b s (dec M y) := by
  intro s
  induction s with
  | zero =>
    intro M x y h hxy hx hy
    have h1 := (h.dec hx).zero' y
    rw [dec_ne _ (fun e => hxy e.symm)] at h1
    omega
  | succ s ih =>
    intro M x y h hxy hx hy
    have h2 : Two M := ⟨(x, y), hxy, hx, hy⟩
    obtain ⟨ha, hb, hc⟩ := h2.choose_spec
    have e0 : dd b (s + 1 + 1) M = (dd b (s + 1) (dec M h2.choose.1) - dd b (s + 1) (dec M h2.choose.2)) / ((h2.choose.2 : Rat) - (h2.choose.1 : Rat)) := by
      conv => lhs; unfold dd
      rw [dif_pos h2]
    generalize h2.choose.1 = a at *
    generalize h2.choose.2 = c at *
    have hac := cast_ne ha
    have D0 : ((c : Rat) - (a : Rat)) * dd b (s + 1 + 1) M = dd b (s + 1) (dec M a) - dd b (s + 1) (dec M c) := by
      rw [e0, Rat.mul_comm, Rat.div_mul_cancel hac]
    -- with any third one
    have D1 : ∀ j, j ≠ a → j ≠ c → 0 < M j → ((j : Rat) - (a : Rat)) * dd b (s + 1 + 1) M = dd b (s + 1) (dec M a) - dd b (s + 1) (dec M j) := by
      intro j hja hjc hj
      have i1 := ih (h.dec hj) (x := a) (y := c) ha (by rw [dec_ne _ (fun e => hja e.symm)]; exact hb) (by rw [dec_ne _ (fun e => hjc e.symm)]; exact hc)
      have i2 := ih (h.dec hb) (x := j) (y := c) hjc (by rw [dec_ne _ hja]; exact hj) (by rw [dec_ne _ (fun e => ha e.symm)]; exact hc)
      have i3 := ih (h.dec hc) (x := a) (y := j) (fun e => hja e.symm) (by rw [dec_ne _ ha]; exact hb) (by rw [dec_ne _ hjc]; exact hj)
      rw [dec_comm M j a, dec_comm M j c] at i1
      rw [dec_comm M a c] at i2
      have : ((c : Rat) - (a : Rat)) * (((j : Rat) - (a : Rat)) * dd b (s + 1 + 1) M - (dd b (s + 1) (dec M a) - dd b (s + 1) (dec M j))) = 0 := by grind
      rcases Rat.mul_eq_zero.1 this with h | h
      · exact absurd h hac
      · grind
    have D2 : ∀ j, 0 < M j → ((j : Rat) - (a : Rat)) * dd b (s + 1 + 1) M = dd b (s + 1) (dec M a) - dd b (s + 1) (dec M j) := by
      intro j hj
      by_cases h1 : j = a
      · subst h1; grind
      · by_cases h2 : j = c
        · subst h2; exact D0
        · exact D1 j h1 h2 hj
    have k1 := D2 x hx
    have k2 := D2 y hy
    grind
theorem two_or {s : Nat} {M : Nat → Nat} (h : Sz M (s + 1)) : (∃ j, 0 < M j ∧ ∀ x, x ≠ j → M x = 0) ∨ (∃ x y, x ≠ y ∧ 0 < M x ∧ 0 < M y) := by
  obtain ⟨a, ha, -⟩ := h.pos
  by_cases h1 : ∃ y, y ≠ a ∧ 0 < M y
  · obtain ⟨y, h1, h2⟩ := h1; exact Or.inr ⟨a, y, fun e => h1 e.symm, ha, h2⟩
  · exact Or.inl ⟨a, ha, fun x hx => Decidable.byContradiction fun e => h1 ⟨x, hx, by omega⟩⟩
/-- sums over the nodes up to L -/
def sm (f : Nat → Rat) : Nat → Rat
  | 0 => f 0
  | n + 1 => sm f n + f (n + 1)
theorem sm_succ (f : Nat → Rat) (n : Nat) : sm f (n + 1) = sm f n + f (n + 1) := rfl
theorem sm_nil (f : Nat → Rat) : sm f 0 = f 0 := rfl
theorem sm_add (f g : Nat → Rat) : ∀ n, sm (fun x => f x + g x) n = sm f n + sm g n
  | 0 => rfl
  | n + 1 => by rw [sm_succ, sm_succ, sm_succ, sm_add f g n]; grind
theorem sm_mul (c : Rat) (f : Nat → Rat) : ∀ n, sm (fun x => c * f x) n = c * sm f n
  | 0 => rfl
  | n + 1 => by rw [sm_succ, sm_succ, sm_mul c f n]; grind
theorem sm_congr {f g : Nat → Rat} : ∀ {n : Nat}, (∀ x, x ≤ n → f x = g x) → sm f n = sm g n
  | 0, h => h 0 (Nat.le_refl _)
  | n + 1, h => by rw [sm_succ, sm_succ, sm_congr (fun x hx => h x (by omega)), h (n + 1) (Nat.le_refl _)]
theorem sm_zero : ∀ (n : Nat), sm (fun _ => 0) n = 0
  | 0 => rfl
  | n + 1 => by rw [sm_succ, sm_zero n]; grind
theorem sm_at {j : Nat} (c : Rat) : ∀ {n : Nat}, j ≤ n → sm (fun x => if x = j then c else 0) n = c
  | 0, h => by obtain rfl : j = 0 := by omega
               rw [sm_nil, if_pos rfl]
  | n + 1, h => by
    rw [sm_succ]
    by_cases h1 : j = n + 1
    · subst h1
      rw [if_pos rfl, sm_congr (g := fun _ => 0) (fun x hx => if_neg (by omega)), sm_zero]; grind
    · rw [if_neg (fun e => h1 e.symm), sm_at c (by omega)]; grind
/-- data of an exponential function: its derivative is so many times itself -/
def Ex (b : Nat → Nat → Rat) (β : Rat) : Prop := ∀ j i, β * b j i = ((i + 1 : Nat) : Rat) * b j (i + 1)
/-- with each node once more -/
theorem dd_more {b : Nat → Nat → Rat} {β : Rat} (hb : Ex b β) {L : Nat} : ∀ {s : Nat} {M : Nat → Nat}, Sz M (s + 1) → (∀ x, L < x → M x = 0) →
    β * dd b (s + 1) M = sm (fun x => (M x : Rat) * dd b (s + 1 + 1) (inc M x)) L := by
  intro s
  induction s with
  | zero =>
    intro M h hL
    rcases two_or h with ⟨j, hj, h1⟩ | ⟨x, y, hxy, hx, hy⟩
    · have hjL : j ≤ L := Decidable.byContradiction fun e => by have := hL j (by omega); omega
      have e1 := h.one h1
      rw [sm_congr (g := fun x => if x = j then ((0 + 1 : Nat) : Rat) * dd b (0 + 1 + 1) (inc M j) else 0) (fun x hx => by
        by_cases h2 : x = j
        · subst h2; rw [if_pos rfl, e1]
        · rw [if_neg h2, h1 x h2, show ((0 : Nat) : Rat) = 0 from rfl, Rat.zero_mul]), sm_at _ hjL, dd_one b h h1, dd_one b (h.inc j) (fun x hx => by rw [inc_ne _ hx]; exact h1 x hx)]
      exact hb j 0
    · exfalso
      have h1 := (h.dec hx).zero' y
      rw [dec_ne _ (fun e => hxy e.symm)] at h1
      omega
  | succ s ih =>
    intro M h hL
    rcases two_or h with ⟨j, hj, h1⟩ | ⟨x, y, hxy, hx, hy⟩
    · have hjL : j ≤ L := Decidable.byContradiction fun e => by have := hL j (by omega); omega
      have e1 := h.one h1
      rw [sm_congr (g := fun x => if x = j then ((s + 1 + 1 : Nat) : Rat) * dd b (s + 1 + 1 + 1) (inc M j) else 0) (fun x hx => by
        by_cases h2 : x = j
        · subst h2; rw [if_pos rfl, e1]
        · rw [if_neg h2, h1 x h2, show ((0 : Nat) : Rat) = 0 from rfl, Rat.zero_mul]), sm_at _ hjL, dd_one b h h1, dd_one b (h.inc j) (fun x hx => by rw [inc_ne _ hx]; exact h1 x hx)]
      exact hb j (s + 1)
    · have hxL : x ≤ L := Decidable.byContradiction fun e => by have := hL x (by omega); omega
      have hyL : y ≤ L := Decidable.byContradiction fun e => by have := hL y (by omega); omega
      have i1 := ih (h.dec hx) (fun z hz => by rw [dec_ne _ (by omega)]; exact hL z hz)
      have i2 := ih (h.dec hy) (fun z hz => by rw [dec_ne _ (by omega)]; exact hL z hz)
      have d0 := dd_two b h hxy hx hy
      -- the sums of the ones that are one less
      have t1 : sm (fun z => (dec M x z : Rat) * dd b (s + 1 + 1) (inc (dec M x) z)) L = sm (fun z => (M z : Rat) * dd b (s + 1 + 1) (inc (dec M x) z)) L - dd b (s + 1 + 1) M := by
        have : sm (fun z => (M z : Rat) * dd b (s + 1 + 1) (inc (dec M x) z)) L = sm (fun z => (dec M x z : Rat) * dd b (s + 1 + 1) (inc (dec M x) z) + (if z = x then dd b (s + 1 + 1) M else 0)) L := by
          apply sm_congr
          intro z hz
          by_cases h2 : z = x
          · subst h2
            rw [if_pos rfl, dec_at, inc_dec hx]
            obtain ⟨m, hm⟩ : ∃ m, M z = m + 1 := ⟨M z - 1, by omega⟩
            rw [hm, Nat.add_sub_cancel, Rat.natCast_add]
            grind
          · rw [if_neg h2, dec_ne _ h2]; grind
        rw [this, sm_add, sm_at _ hxL]
        grind
      have t2 : sm (fun z => (dec M y z : Rat) * dd b (s + 1 + 1) (inc (dec M y) z)) L = sm (fun z => (M z : Rat) * dd b (s + 1 + 1) (inc (dec M y) z)) L - dd b (s + 1 + 1) M := by
        have : sm (fun z => (M z : Rat) * dd b (s + 1 + 1) (inc (dec M y) z)) L = sm (fun z => (dec M y z : Rat) * dd b (s + 1 + 1) (inc (dec M y) z) + (if z = y then dd b (s + 1 + 1) M else 0)) L := by
          apply sm_congr
          intro z hz
          by_cases h2 : z = y
          · subst h2
            rw [if_pos rfl, dec_at, inc_dec hy]
            obtain ⟨m, hm⟩ : ∃ m, M z = m + 1 := ⟨M z - 1, by omega⟩
            rw [hm, Nat.add_sub_cancel, Rat.natCast_add]
            grind
          · rw [if_neg h2, dec_ne _ h2]; grind
        rw [this, sm_add, sm_at _ hyL]
        grind
      have t3 : ((y : Rat) - (x : Rat)) * sm (fun z => (M z : Rat) * dd b (s + 1 + 1 + 1) (inc M z)) L = sm (fun z => (M z : Rat) * dd b (s + 1 + 1) (inc (dec M x) z)) L - sm (fun z => (M z : Rat) * dd b (s + 1 + 1) (inc (dec M y) z)) L := by
        have : sm (fun z => (M z : Rat) * dd b (s + 1 + 1) (inc (dec M x) z)) L = sm (fun z => ((y : Rat) - (x : Rat)) * ((M z : Rat) * dd b (s + 1 + 1 + 1) (inc M z)) + (M z : Rat) * dd b (s + 1 + 1) (inc (dec M y) z)) L := by
          apply sm_congr
          intro z hz
          have d1 := dd_two b (h.inc z) hxy (by unfold inc; split <;> omega) (by unfold inc; split <;> omega)
          have f1 : dec (inc M z) x = inc (dec M x) z := by
            by_cases e : z = x
            · subst e; rw [dec_inc, inc_dec hx]
            · exact dec_inc_comm M e
          have f2 : dec (inc M z) y = inc (dec M y) z := by
            by_cases e : z = y
            · subst e; rw [dec_inc, inc_dec hy]
            · exact dec_inc_comm M e
          rw [f1, f2] at d1
          grind
        rw [this, sm_add, sm_mul]
        grind
      have hne := cast_ne hxy
      have : ((y : Rat) - (x : Rat)) * (β * dd b (s + 1 + 1) M - sm (fun z => (M z : Rat) * dd b (s + 1 + 1 + 1) (inc M z)) L) = 0 := by
        rw [t1] at i1
        rw [t2] at i2
        grind
      rcases Rat.mul_eq_zero.1 this with h | h
      · exact absurd h hne
      · grind
/-- not all of them vanish -/
theorem dd_some {b : Nat → Nat → Rat} {β : Rat} (hb : Ex b β) (hβ : β ≠ 0) {L : Nat} (h0 : ∀ j, j ≤ L → b j 0 ≠ 0) : ∀ {s : Nat} {M : Nat → Nat}, Sz M (s + 1) → (∀ x, L < x → M x = 0) →
    ∃ j, j ≤ L ∧ dd b (s + 1 + 1) (inc M j) ≠ 0 := by
  intro s
  induction s with
  | zero =>
    intro M h hL
    refine Classical.byContradiction fun hn => ?_
    have hz : ∀ j, j ≤ L → dd b (0 + 1 + 1) (inc M j) = 0 := fun j hj => Classical.byContradiction fun e => hn ⟨j, hj, e⟩
    have h1 := dd_more hb h hL
    rw [sm_congr (g := fun _ => 0) (fun x hx => by rw [hz x hx, Rat.mul_zero]), sm_zero] at h1
    rcases two_or h with ⟨j, hj, h2⟩ | ⟨x, y, hxy, hx, hy⟩
    · rw [dd_one b h h2] at h1
      rcases Rat.mul_eq_zero.1 h1 with h | h
      · exact hβ h
      · exact h0 j (Decidable.byContradiction fun e => by have := hL j (by omega); omega) h
    · have h1 := (h.dec hx).zero' y
      rw [dec_ne _ (fun e => hxy e.symm)] at h1
      omega
  | succ s ih =>
    intro M h hL
    refine Classical.byContradiction fun hn => ?_
    have hz : ∀ j, j ≤ L → dd b (s + 1 + 1 + 1) (inc M j) = 0 := fun j hj => Classical.byContradiction fun e => hn ⟨j, hj, e⟩
    have h1 := dd_more hb h hL
    rw [sm_congr (g := fun _ => 0) (fun x hx => by rw [hz x hx, Rat.mul_zero]), sm_zero] at h1
    have h2 : dd b (s + 1 + 1) M = 0 := by
      rcases Rat.mul_eq_zero.1 h1 with h | h
      · exact absurd h hβ
      · exact h
    obtain ⟨l, hl, hs⟩ := h.pos
    obtain ⟨j, hj, h3⟩ := ih hs (fun z hz => by
      have : z ≠ l := fun e => by subst e; have := hL z hz; omega
      rw [dec_ne _ this]; exact hL z hz)
    apply h3
    by_cases e : j = l
    · subst e; rw [inc_dec hl]; exact h2
    · have d := dd_two b (h.inc j) (x := l) (y := j) (fun h => e h.symm) (by rw [inc_ne _ (fun h => e h.symm)]; exact hl) (by rw [inc_at]; omega)
      rw [hz j hj, Rat.mul_zero, dec_inc, h2, dec_inc_comm M e] at d
      grind
end Go.Proofs.YtmpdbmaokbhcjaaDoor.Ea

/-
  PLAIN: divided differences: how whole they are, how great; of powers.
-/
namespace Go.Proofs.YtmpdbmaokbhcjaaDoor.Ea

/-- a whole number -/
def Zq (r : Rat) : Prop := ∃ z : Int, r = (z : Rat)
theorem Zq.mul {a b : Rat} (ha : Zq a) (hb : Zq b) : Zq (a * b) := by
  obtain ⟨x, rfl⟩ := ha; obtain ⟨y, rfl⟩ := hb; exact ⟨x * y, (Rat.intCast_mul x y).symm⟩
theorem Zq.add {a b : Rat} (ha : Zq a) (hb : Zq b) : Zq (a + b) := by
  obtain ⟨x, rfl⟩ := ha; obtain ⟨y, rfl⟩ := hb; exact ⟨x + y, (Rat.intCast_add x y).symm⟩
theorem Zq.sub {a b : Rat} (ha : Zq a) (hb : Zq b) : Zq (a - b) := by
  obtain ⟨x, rfl⟩ := ha; obtain ⟨y, rfl⟩ := hb; exact ⟨x - y, (Rat.intCast_sub x y).symm⟩
theorem Zq.int (z : Int) : Zq (z : Rat) := ⟨z, rfl⟩
theorem Zq.zero : Zq 0 := ⟨0, rfl⟩
theorem Zq.nat (n : Nat) : Zq (n : Rat) := ⟨n, rfl⟩
theorem Zq.pow {a : Rat} (ha : Zq a) : ∀ n : Nat, Zq (a ^ n)
  | 0 => by rw [Rat.pow_zero]; exact ⟨1, rfl⟩
  | n + 1 => by rw [Rat.pow_succ]; exact (Zq.pow ha n).mul ha
theorem Zq.one_le {a : Rat} (ha : Zq a) (h : a ≠ 0) : 1 ≤ a ∨ a ≤ -1 := by
  obtain ⟨z, rfl⟩ := ha
  have hz : z ≠ 0 := fun e => h (by rw [e]; rfl)
  rcases Int.lt_or_le 0 z with h1 | h1
  · left; have : ((1 : Int) : Rat) ≤ (z : Rat) := Rat.intCast_le_intCast.2 (by omega)
    exact this
  · right; have : (z : Rat) ≤ ((-1 : Int) : Rat) := Rat.intCast_le_intCast.2 (by omega)
    exact this
/-- products over the nodes up to L -/
def pr (f : Nat → Rat) : Nat → Rat
  | 0 => f 0
  | n + 1 => pr f n * f (n + 1)
theorem pr_congr {f g : Nat → Rat} : ∀ {n : Nat}, (∀ x, x ≤ n → f x = g x) → pr f n = pr g n
  | 0, h => h 0 (Nat.le_refl _)
  | n + 1, h => by unfold pr; rw [pr_congr (fun x hx => h x (by omega)), h (n + 1) (Nat.le_refl _)]
theorem pr_split {f g : Nat → Rat} {j : Nat} (c : Rat) : ∀ {n : Nat}, j ≤ n → (∀ x, x ≤ n → x ≠ j → f x = g x) → f j = c * g j → pr f n = c * pr g n
  | 0, h, h1, h2 => by obtain rfl : j = 0 := by omega
                       exact h2
  | n + 1, h, h1, h2 => by
    unfold pr
    by_cases e : j = n + 1
    · subst e
      rw [pr_congr (fun x hx => h1 x (by omega) (by omega)), h2]; grind
    · rw [pr_split c (by omega) (fun x hx => h1 x (by omega)) h2, h1 (n + 1) (Nat.le_refl _) (fun e2 => e e2.symm)]; grind
theorem pr_zq {f : Nat → Rat} : ∀ {n : Nat}, (∀ x, x ≤ n → Zq (f x)) → Zq (pr f n)
  | 0, h => h 0 (Nat.le_refl _)
  | n + 1, h => by unfold pr; exact (pr_zq (fun x hx => h x (by omega))).mul (h (n + 1) (Nat.le_refl _))
/-- the denominators of one node's part -/
def qd (j0 L : Nat) (M : Nat → Nat) : Rat := pr (fun l => if l = j0 then 1 else ((l : Rat) - (j0 : Rat)) ^ M l) L
theorem qd_zq (j0 L : Nat) (M : Nat → Nat) : Zq (qd j0 L M) := pr_zq fun x _ => by
  split
  · exact ⟨1, rfl⟩
  · exact ((Zq.nat x).sub (Zq.nat j0)).pow _
theorem qd_dec {j0 l L : Nat} {M : Nat → Nat} (hl : l ≤ L) (h : l ≠ j0) (hm : 0 < M l) : qd j0 L M = ((l : Rat) - (j0 : Rat)) * qd j0 L (dec M l) := by
  unfold qd
  refine pr_split _ hl (fun x hx hxl => ?_) ?_
  · show (if x = j0 then (1 : Rat) else _) = if x = j0 then 1 else _
    rw [dec_ne _ hxl]
  · show (if l = j0 then (1 : Rat) else _) = _ * (if l = j0 then 1 else _)
    rw [if_neg h, if_neg h, dec_at]
    obtain ⟨m, hm2⟩ : ∃ m, M l = m + 1 := ⟨M l - 1, by omega⟩
    rw [hm2, Nat.add_sub_cancel, Rat.pow_succ]
    grind
theorem qd_same {j0 L : Nat} (M : Nat → Nat) : qd j0 L (dec M j0) = qd j0 L M := by
  unfold qd
  apply pr_congr
  intro x _
  show (if x = j0 then (1 : Rat) else _) = if x = j0 then 1 else _
  by_cases h : x = j0
  · rw [if_pos h, if_pos h]
  · rw [if_neg h, if_neg h, dec_ne _ h]
/-- of data of one node alone -/
theorem dd_none {b : Nat → Nat → Rat} {j0 : Nat} (hb : ∀ j i, j ≠ j0 → b j i = 0) : ∀ {s : Nat} {M : Nat → Nat}, Sz M (s + 1) → M j0 = 0 → dd b (s + 1) M = 0 := by
  intro s
  induction s with
  | zero =>
    intro M h h0
    rcases two_or h with ⟨j, hj, h2⟩ | ⟨x, y, hxy, hx, hy⟩
    · rw [dd_one b h h2]
      exact hb j 0 (fun e => by subst e; omega)
    · have h1 := (h.dec hx).zero' y
      rw [dec_ne _ (fun e => hxy e.symm)] at h1
      omega
  | succ s ih =>
    intro M h h0
    rcases two_or h with ⟨j, hj, h2⟩ | ⟨x, y, hxy, hx, hy⟩
    · rw [dd_one b h h2]
      exact hb j _ (fun e => by subst e; omega)
    · have d := dd_two b h hxy hx hy
      rw [ih (h.dec hx) (by unfold dec; split <;> omega), ih (h.dec hy) (by unfold dec; split <;> omega)] at d
      have hne := cast_ne hxy
      have : ((y : Rat) - (x : Rat)) * dd b (s + 1 + 1) M = 0 := by grind
      rcases Rat.mul_eq_zero.1 this with h | h
      · exact absurd h hne
      · exact h
theorem dd_zq {b : Nat → Nat → Rat} {j0 L n : Nat} {W lam : Rat} (hb : ∀ j i, j ≠ j0 → b j i = 0) (hW : ∀ i, i ≤ n → Zq (W * b j0 i)) (hlam : ∀ l, l ≤ L → l ≠ j0 → ∃ z : Int, lam = (z : Rat) * ((l : Rat) - (j0 : Rat))) (hlz : Zq lam) :
    ∀ {s m : Nat} {M : Nat → Nat}, Sz M (s + 1) → (∀ x, L < x → M x = 0) → M j0 = m + 1 → m ≤ n → Zq (qd j0 L M * lam ^ m * W * dd b (s + 1) M) := by
  intro s
  induction s with
  | zero =>
    intro m M h hL hm hn
    rcases two_or h with ⟨j, hj, h2⟩ | ⟨x, y, hxy, hx, hy⟩
    · have : j0 = j := Decidable.byContradiction fun e => by have := h2 j0 e; omega
      subst this
      rw [dd_one b h h2, Rat.mul_assoc]
      exact ((qd_zq _ _ _).mul (hlz.pow _)).mul (hW 0 (by omega))
    · have h1 := (h.dec hx).zero' y
      rw [dec_ne _ (fun e => hxy e.symm)] at h1
      omega
  | succ s ih =>
    intro m M h hL hm hn
    by_cases h1 : ∃ l, l ≠ j0 ∧ 0 < M l
    · obtain ⟨l, hl, hp⟩ := h1
      have hlL : l ≤ L := Decidable.byContradiction fun e => by have := hL l (by omega); omega
      have d := dd_two b h (fun e => hl e.symm) (by omega) hp
      have i2 := ih (h.dec hp) (fun z hz => by rw [dec_ne _ (by omega)]; exact hL z hz) (m := m) (by rw [dec_ne _ (fun e => hl e.symm)]; exact hm) hn
      have hq := qd_dec hlL hl hp
      obtain ⟨z, hz⟩ := hlam l hlL hl
      rcases Nat.eq_zero_or_pos m with h0 | h0
      · subst h0
        have e1 := dd_none hb (h.dec (c := j0) (by omega)) (by rw [dec_at, hm])
        have : qd j0 L M * lam ^ 0 * W * dd b (s + 1 + 1) M = ((-1 : Int) : Rat) * (qd j0 L (dec M l) * lam ^ 0 * W * dd b (s + 1) (dec M l)) := by
          rw [hq, show ((-1 : Int) : Rat) = -1 by rfl]
          rw [e1] at d
          grind
        rw [this]
        exact (Zq.int _).mul i2
      · obtain ⟨k, rfl⟩ : ∃ k, m = k + 1 := ⟨m - 1, by omega⟩
        have i1 := ih (h.dec (c := j0) (by omega)) (fun z hz => by
          by_cases e : z = j0
          · rw [e] at hz; have := hL j0 hz; omega
          · rw [dec_ne _ e]; exact hL z hz) (m := k) (by rw [dec_at, hm, Nat.add_sub_cancel]) (by omega)
        rw [qd_same] at i1
        have : qd j0 L M * lam ^ (k + 1) * W * dd b (s + 1 + 1) M = (z : Rat) * (qd j0 L M * lam ^ k * W * dd b (s + 1) (dec M j0)) - qd j0 L (dec M l) * lam ^ (k + 1) * W * dd b (s + 1) (dec M l) := by
          rw [Rat.pow_succ]
          have e2 : qd j0 L M * (lam ^ k * lam) * W * dd b (s + 1 + 1) M = (z : Rat) * (qd j0 L M * lam ^ k * W) * (((l : Rat) - (j0 : Rat)) * dd b (s + 1 + 1) M) := by
            conv => lhs; rw [hz]
            rw [← hz]
            grind
          rw [e2, d]
          have e3 : (z : Rat) * (qd j0 L M * lam ^ k * W) * dd b (s + 1) (dec M l) = qd j0 L (dec M l) * (lam ^ k * lam) * W * dd b (s + 1) (dec M l) := by
            rw [hq]
            conv => rhs; rw [hz]
            rw [← hz]
            grind
          grind
        rw [this]
        exact ((Zq.int _).mul i1).sub i2
    · have hj : ∀ x, x ≠ j0 → M x = 0 := fun x hx => Decidable.byContradiction fun e => h1 ⟨x, hx, by omega⟩
      have := h.one hj
      rw [dd_one b h hj, Rat.mul_assoc]
      exact ((qd_zq _ _ _).mul (hlz.pow _)).mul (hW (s + 1) (by omega))
/-- sums of data -/
theorem dd_add (a b : Nat → Nat → Rat) : ∀ {s : Nat} {M : Nat → Nat}, Sz M (s + 1) → dd (fun j i => a j i + b j i) (s + 1) M = dd a (s + 1) M + dd b (s + 1) M := by
  intro s
  induction s with
  | zero =>
    intro M h
    rcases two_or h with ⟨j, hj, h2⟩ | ⟨x, y, hxy, hx, hy⟩
    · rw [dd_one _ h h2, dd_one _ h h2, dd_one _ h h2]
    · have h1 := (h.dec hx).zero' y
      rw [dec_ne _ (fun e => hxy e.symm)] at h1
      omega
  | succ s ih =>
    intro M h
    rcases two_or h with ⟨j, hj, h2⟩ | ⟨x, y, hxy, hx, hy⟩
    · rw [dd_one _ h h2, dd_one _ h h2, dd_one _ h h2]
    · have d1 := dd_two (fun j i => a j i + b j i) h hxy hx hy
      have d2 := dd_two a h hxy hx hy
      have d3 := dd_two b h hxy hx hy
      rw [ih (h.dec hx), ih (h.dec hy)] at d1
      have hne := cast_ne hxy
      have : ((y : Rat) - (x : Rat)) * (dd (fun j i => a j i + b j i) (s + 1 + 1) M - (dd a (s + 1 + 1) M + dd b (s + 1 + 1) M)) = 0 := by grind
      rcases Rat.mul_eq_zero.1 this with h | h
      · exact absurd h hne
      · grind
/-- data that are no greater than c -/
theorem dd_le {b : Nat → Nat → Rat} {c : Rat} : ∀ {s : Nat} {M : Nat → Nat}, Sz M (s + 1) → (∀ j i, i < M j → -c ≤ b j i ∧ b j i ≤ c) →
    -(2 ^ s * c) ≤ dd b (s + 1) M ∧ dd b (s + 1) M ≤ 2 ^ s * c := by
  intro s
  induction s with
  | zero =>
    intro M h hc
    rcases two_or h with ⟨j, hj, h2⟩ | ⟨x, y, hxy, hx, hy⟩
    · rw [dd_one _ h h2, Rat.pow_zero, Rat.one_mul]
      exact hc j 0 hj
    · have h1 := (h.dec hx).zero' y
      rw [dec_ne _ (fun e => hxy e.symm)] at h1
      omega
  | succ s ih =>
    intro M h hc
    have hp : (0 : Rat) ≤ 2 ^ s := Rat.pow_nonneg (by decide)
    rcases two_or h with ⟨j, hj, h2⟩ | ⟨x, y, hxy, hx, hy⟩
    · rw [dd_one _ h h2]
      obtain ⟨h3, h4⟩ := hc j (s + 1) (by rw [h.one h2]; omega)
      have hc0 : 0 ≤ c := by grind
      have hp1 : (1 : Rat) ≤ 2 ^ (s + 1) := by
        have : ((1 : Nat) : Rat) ≤ ((2 ^ (s + 1) : Nat) : Rat) := Rat.natCast_le_natCast.2 (Nat.one_le_two_pow)
        rw [Rat.natCast_pow] at this
        exact this
      have := Rat.mul_le_mul_of_nonneg_right hp1 hc0
      grind
    · have d := dd_two b h hxy hx hy
      obtain ⟨a1, a2⟩ := ih (h.dec hx) (fun j i hi => hc j i (by unfold dec at hi; split at hi <;> omega))
      obtain ⟨b1, b2⟩ := ih (h.dec hy) (fun j i hi => hc j i (by unfold dec at hi; split at hi <;> omega))
      rw [Rat.pow_succ]
      generalize dd b (s + 1) (dec M x) = u at *
      generalize dd b (s + 1) (dec M y) = v at *
      generalize dd b (s + 1 + 1) M = r at *
      generalize ht : (2 : Rat) ^ s * c = t at *
      -- the distance of two nodes is 1 at least
      have hd : 1 ≤ (y : Rat) - (x : Rat) ∨ (y : Rat) - (x : Rat) ≤ -1 := ((Zq.nat y).sub (Zq.nat x)).one_le (cast_ne hxy)
      have e : (2 : Rat) ^ s * 2 * c = 2 * t := by rw [← ht]; grind
      rw [e]
      clear ht e
      constructor
      · refine Rat.not_lt.1 fun h6 => ?_
        rcases hd with h5 | h5
        · have := Rat.mul_nonneg (a := -r) (b := (y : Rat) - (x : Rat) - 1) (by grind) (by grind)
          grind
        · have := Rat.mul_nonneg (a := -r) (b := -1 - ((y : Rat) - (x : Rat))) (by grind) (by grind)
          grind
      · refine Rat.not_lt.1 fun h6 => ?_
        rcases hd with h5 | h5
        · have := Rat.mul_nonneg (a := r) (b := (y : Rat) - (x : Rat) - 1) (by grind) (by grind)
          grind
        · have := Rat.mul_nonneg (a := r) (b := -1 - ((y : Rat) - (x : Rat))) (by grind) (by grind)
          grind
end Go.Proofs.YtmpdbmaokbhcjaaDoor.Ea

/-
  PLAIN: partial sums of e to a number that isn't negative; what is no less than all of them, and no more than all such.
-/
namespace Go.Proofs.YtmpdbmaokbhcjaaDoor.Ea

/-- x^k by k! -/
def tm (x : Rat) : Nat → Rat
  | 0 => 1
  | k + 1 => tm x k * x / ((k + 1 : Nat) : Rat)
/-- the first n terms -/
def E (x : Rat) : Nat → Rat
  | 0 => 0
  | n + 1 => E x n + tm x n
def su (f : Nat → Rat) : Nat → Rat
  | 0 => 0
  | n + 1 => su f n + f n
theorem su_succ (f : Nat → Rat) (n : Nat) : su f (n + 1) = su f n + f n := rfl
theorem su_nil (f : Nat → Rat) : su f 0 = 0 := rfl
theorem su_add (f g : Nat → Rat) : ∀ n, su (fun x => f x + g x) n = su f n + su g n
  | 0 => by rw [su_nil, su_nil, su_nil]; grind
  | n + 1 => by rw [su_succ, su_succ, su_succ, su_add f g n]; grind
theorem su_mul (c : Rat) (f : Nat → Rat) : ∀ n, su (fun x => c * f x) n = c * su f n
  | 0 => by rw [su_nil, su_nil, Rat.mul_zero]
  | n + 1 => by rw [su_succ, su_succ, su_mul c f n]; grind
theorem su_congr {f g : Nat → Rat} : ∀ {n : Nat}, (∀ x, x < n → f x = g x) → su f n = su g n
  | 0, h => rfl
  | n + 1, h => by rw [su_succ, su_succ, su_congr (fun x hx => h x (by omega)), h n (by omega)]
theorem su_le {f g : Nat → Rat} : ∀ {n : Nat}, (∀ x, x < n → f x ≤ g x) → su f n ≤ su g n
  | 0, h => Rat.le_refl
  | n + 1, h => by
    rw [su_succ, su_succ]
    have h1 := su_le (f := f) (g := g) (n := n) (fun x hx => h x (by omega))
    have h2 := h n (by omega)
    grind
theorem su_more {f : Nat → Rat} (hf : ∀ x, 0 ≤ f x) {m : Nat} : ∀ {n : Nat}, m ≤ n → su f m ≤ su f n
  | 0, h => by obtain rfl : m = 0 := by omega
               exact Rat.le_refl
  | n + 1, h => by
    by_cases e : m = n + 1
    · subst e; exact Rat.le_refl
    · have h1 := su_more (f := f) hf (m := m) (n := n) (by omega)
      have h2 := hf n
      rw [su_succ]
      grind
theorem su_shift (f : Nat → Rat) : ∀ n, su f (n + 1) = f 0 + su (fun i => f (i + 1)) n
  | 0 => by show 0 + f 0 = f 0 + 0; grind
  | n + 1 => by
    have h := su_shift f n
    show su f (n + 1) + f (n + 1) = f 0 + (su (fun i => f (i + 1)) n + f (n + 1))
    rw [h]; grind
theorem E_su (x : Rat) : ∀ n, E x n = su (tm x) n
  | 0 => rfl
  | n + 1 => by rw [su_succ, ← E_su x n]; rfl
theorem cast_pos (k : Nat) : (0 : Rat) < ((k + 1 : Nat) : Rat) := Rat.natCast_pos.2 (by omega)
theorem tm_step (x : Rat) (k : Nat) : ((k + 1 : Nat) : Rat) * tm x (k + 1) = x * tm x k := by
  show ((k + 1 : Nat) : Rat) * (tm x k * x / ((k + 1 : Nat) : Rat)) = _
  rw [Rat.mul_comm, Rat.div_mul_cancel (Rat.ne_of_gt (cast_pos k)), Rat.mul_comm]
theorem tm_nonneg {x : Rat} (h : 0 ≤ x) : ∀ k, 0 ≤ tm x k
  | 0 => by show (0 : Rat) ≤ 1; decide
  | k + 1 => by
    have h1 := tm_step x k
    have h2 := Rat.mul_nonneg h (tm_nonneg h k)
    rw [← h1] at h2
    have h3 := cast_pos k
    refine Rat.not_lt.1 fun h4 => ?_
    have := Rat.mul_lt_mul_of_pos_left h4 h3
    rw [Rat.mul_zero] at this
    grind
theorem E_mono {x : Rat} (h : 0 ≤ x) {m n : Nat} (hmn : m ≤ n) : E x m ≤ E x n := by
  rw [E_su, E_su]; exact su_more (tm_nonneg h) hmn
theorem E_one (x : Rat) : E x 1 = 1 := by show 0 + 1 = (1 : Rat); grind
theorem E_nonneg {x : Rat} (h : 0 ≤ x) (n : Nat) : 0 ≤ E x n := E_mono h (Nat.zero_le n)
theorem tm_zero (k : Nat) : tm 0 (k + 1) = 0 := by
  have h1 := tm_step 0 k
  rw [Rat.zero_mul] at h1
  rcases Rat.mul_eq_zero.1 h1 with h | h
  · exact absurd h (Rat.ne_of_gt (cast_pos k))
  · exact h
theorem E_zero : ∀ n, E 0 (n + 1) = 1
  | 0 => E_one 0
  | n + 1 => by
    show E 0 (n + 1) + tm 0 (n + 1) = 1
    rw [E_zero n, tm_zero]; grind
/-- of a sum -/
def cv (x y : Rat) (n : Nat) : Rat := su (fun i => tm x i * tm y (n - i)) (n + 1)
theorem cv_step (x y : Rat) (n : Nat) : ((n + 1 : Nat) : Rat) * cv x y (n + 1) = (x + y) * cv x y n := by
  have e1 : ((n + 1 : Nat) : Rat) * cv x y (n + 1) = su (fun i => ((i : Nat) : Rat) * tm x i * tm y (n + 1 - i) + tm x i * (((n + 1 - i : Nat) : Rat) * tm y (n + 1 - i))) (n + 1 + 1) := by
    unfold cv
    rw [← su_mul]
    apply su_congr
    intro i hi
    have : ((n + 1 : Nat) : Rat) = ((i : Nat) : Rat) + ((n + 1 - i : Nat) : Rat) := by
      rw [← Rat.natCast_add]; congr 1; omega
    rw [this]
    grind
  have e2 : su (fun i => ((i : Nat) : Rat) * tm x i * tm y (n + 1 - i)) (n + 1 + 1) = x * cv x y n := by
    rw [su_shift]
    unfold cv
    rw [← su_mul]
    have : ∀ i, i < n + 1 → (fun i => (((i + 1 : Nat) : Nat) : Rat) * tm x (i + 1) * tm y (n + 1 - (i + 1))) i = (fun i => x * (tm x i * tm y (n - i))) i := by
      intro i hi
      show ((i + 1 : Nat) : Rat) * tm x (i + 1) * tm y (n + 1 - (i + 1)) = x * (tm x i * tm y (n - i))
      rw [tm_step, show n + 1 - (i + 1) = n - i by omega]; grind
    rw [su_congr this]
    have h0 : ((0 : Nat) : Rat) = 0 := rfl
    rw [h0]
    grind
  have e3 : su (fun i => tm x i * (((n + 1 - i : Nat) : Rat) * tm y (n + 1 - i))) (n + 1 + 1) = y * cv x y n := by
    show su (fun i => tm x i * (((n + 1 - i : Nat) : Rat) * tm y (n + 1 - i))) (n + 1) + tm x (n + 1) * (((n + 1 - (n + 1) : Nat) : Rat) * tm y (n + 1 - (n + 1))) = _
    rw [show n + 1 - (n + 1) = 0 by omega, show ((0 : Nat) : Rat) = 0 from rfl]
    unfold cv
    rw [← su_mul]
    have : ∀ i, i < n + 1 → (fun i => tm x i * (((n + 1 - i : Nat) : Rat) * tm y (n + 1 - i))) i = (fun i => y * (tm x i * tm y (n - i))) i := by
      intro i hi
      show tm x i * (((n + 1 - i : Nat) : Rat) * tm y (n + 1 - i)) = y * (tm x i * tm y (n - i))
      rw [show n + 1 - i = (n - i) + 1 by omega, tm_step]; grind
    rw [su_congr this]
    grind
  rw [e1, su_add, e2, e3]
  grind
theorem cv_tm (x y : Rat) : ∀ n, cv x y n = tm (x + y) n
  | 0 => by show 0 + 1 * 1 = (1 : Rat); grind
  | n + 1 => by
    have h1 := cv_step x y n
    have h2 := tm_step (x + y) n
    rw [cv_tm x y n, ← h2] at h1
    have h3 := cast_pos n
    have : ((n + 1 : Nat) : Rat) * (cv x y (n + 1) - tm (x + y) (n + 1)) = 0 := by grind
    rcases Rat.mul_eq_zero.1 this with h | h
    · exact absurd h (Rat.ne_of_gt h3)
    · grind
theorem E_sum (x y : Rat) : ∀ m, E (x + y) m = su (fun i => tm x i * E y (m - i)) m
  | 0 => rfl
  | m + 1 => by
    have e1 : su (fun i => tm x i * E y (m + 1 - i)) (m + 1) = su (fun i => tm x i * E y (m - i) + tm x i * tm y (m - i)) (m + 1) := by
      apply su_congr
      intro i hi
      rw [show m + 1 - i = (m - i) + 1 by omega]
      show tm x i * (E y (m - i) + tm y (m - i)) = _
      grind
    have e2 : su (fun i => tm x i * E y (m - i)) (m + 1) = su (fun i => tm x i * E y (m - i)) m := by
      show su (fun i => tm x i * E y (m - i)) m + tm x m * E y (m - m) = _
      rw [Nat.sub_self, show E y 0 = 0 from rfl]
      grind
    rw [e1, su_add, e2, ← E_sum x y m]
    show E (x + y) m + tm (x + y) m = E (x + y) m + cv x y m
    rw [cv_tm]
theorem E_add_le {x y : Rat} (hx : 0 ≤ x) (hy : 0 ≤ y) (m : Nat) : E (x + y) m ≤ E x m * E y m := by
  rw [E_sum, E_su x, Rat.mul_comm, ← su_mul]
  apply su_le
  intro i hi
  have h1 := E_mono hy (show m - i ≤ m by omega)
  have h2 := Rat.mul_le_mul_of_nonneg_left h1 (tm_nonneg hx i)
  rw [Rat.mul_comm (E y m)]
  exact h2
theorem E_le_add {x y : Rat} (hx : 0 ≤ x) (hy : 0 ≤ y) (m n : Nat) : E x m * E y n ≤ E (x + y) (m + n) := by
  have h0 : ∀ i, 0 ≤ tm x i * E y (m + n - i) := fun i => Rat.mul_nonneg (tm_nonneg hx i) (E_nonneg hy _)
  rw [E_sum, E_su x, Rat.mul_comm, ← su_mul]
  refine Rat.le_trans (su_le (g := fun i => tm x i * E y (m + n - i)) fun i hi => ?_) (su_more h0 (by omega))
  have h1 := E_mono hy (show n ≤ m + n - i by omega)
  have h2 := Rat.mul_le_mul_of_nonneg_left h1 (tm_nonneg hx i)
  rw [Rat.mul_comm (E y n)]
  exact h2
/-- no less than all of them -/
def Up (x z : Rat) : Prop := ∀ n, E x n ≤ z
/-- no more than whatever is no less -/
def Dn (x y : Rat) : Prop := ∀ z, Up x z → y ≤ z
theorem Up.one_le {x z : Rat} (h : Up x z) : 1 ≤ z := by have := h 1; rw [E_one] at this; exact this
theorem dn_E (x : Rat) (n : Nat) : Dn x (E x n) := fun z h => h n
theorem Dn.le {x y y' : Rat} (h : Dn x y) (h1 : y' ≤ y) : Dn x y' := fun z hz => Rat.le_trans h1 (h z hz)
theorem Up.le {x z z' : Rat} (h : Up x z) (h1 : z ≤ z') : Up x z' := fun n => Rat.le_trans (h n) h1
theorem tail_half {x : Rat} (hx : 0 ≤ x) {n : Nat} (h : 2 * x ≤ ((n + 1 : Nat) : Rat)) : 2 * tm x (n + 1) ≤ tm x n := by
  have h1 := tm_step x n
  have h2 := tm_nonneg hx n
  have h3 := cast_pos n
  have h4 := Rat.mul_le_mul_of_nonneg_right h h2
  refine Rat.not_lt.1 fun h5 => ?_
  have := Rat.mul_lt_mul_of_pos_left h5 h3
  grind
theorem E_tail {x : Rat} (hx : 0 ≤ x) {K : Nat} (h : 2 * x ≤ ((K + 1 : Nat) : Rat)) : ∀ j, E x (K + j) + 2 * tm x (K + j) ≤ E x K + 2 * tm x K
  | 0 => Rat.le_refl
  | j + 1 => by
    have h1 := E_tail hx h j
    have h2 : 2 * x ≤ ((K + j + 1 : Nat) : Rat) := Rat.le_trans h (Rat.natCast_le_natCast.2 (by omega))
    have h3 := tail_half hx h2
    show E x (K + j) + tm x (K + j) + 2 * tm x (K + j + 1) ≤ _
    grind
theorem up_tail {x : Rat} (hx : 0 ≤ x) {K : Nat} (h : 2 * x ≤ ((K + 1 : Nat) : Rat)) : Up x (E x K + 2 * tm x K) := by
  intro n
  have h1 := E_tail hx h n
  have h2 := tm_nonneg hx (K + n)
  have h3 := E_mono hx (show n ≤ K + n by omega)
  grind
theorem nat_above (x : Rat) : ∃ K : Nat, x ≤ (K : Rat) := by
  refine ⟨x.ceil.toNat, Rat.le_trans (Rat.le_ceil (x := x)) ?_⟩
  have : ((x.ceil : Int) : Rat) ≤ (((x.ceil.toNat : Nat) : Int) : Rat) := Rat.intCast_le_intCast.2 (by omega)
  exact this
theorem up_any {x : Rat} (hx : 0 ≤ x) : ∃ z, Up x z := by
  obtain ⟨K, hK⟩ := nat_above (2 * x)
  exact ⟨_, up_tail hx (K := K) (Rat.le_trans hK (Rat.natCast_le_natCast.2 (by omega)))⟩
theorem up_mul {x y a b : Rat} (hx : 0 ≤ x) (hy : 0 ≤ y) (ha : Up x a) (hb : Up y b) : Up (x + y) (a * b) := by
  intro n
  have h1 := E_add_le hx hy n
  have h2 := Rat.mul_le_mul_of_nonneg_right (ha n) (E_nonneg hy n)
  have h3 : 0 ≤ a := by have := ha.one_le; grind
  have h4 := Rat.mul_le_mul_of_nonneg_left (hb n) h3
  grind
theorem le_div {a b c : Rat} (hc : 0 < c) : a ≤ b / c ↔ a * c ≤ b := by
  have := Rat.div_lt_iff (a := b) (b := c) (c := a) hc
  rw [← Rat.not_lt, ← Rat.not_lt, this]
theorem dn_mul {x y a b : Rat} (hx : 0 ≤ x) (hy : 0 ≤ y) (ha : Dn x a) (hb : Dn y b) (ha0 : 0 ≤ a) (hb0 : 0 ≤ b) : Dn (x + y) (a * b) := by
  intro z hz
  have hz1 := hz.one_le
  rcases Rat.le_iff_lt_or_eq.1 ha0 with h | h
  · have h1 : ∀ m, E y m * a ≤ z := by
      intro m
      rcases Nat.eq_zero_or_pos m with h0 | h0
      · subst h0
        rw [show E y 0 = 0 from rfl, Rat.zero_mul]; grind
      · have hp : 0 < E y m := by
          have := E_mono hy h0
          rw [E_one] at this; grind
        have : Up x (z / E y m) := fun k => by
          rw [le_div hp]
          exact Rat.le_trans (E_le_add hx hy k m) (hz _)
        have := ha _ this
        rw [le_div hp] at this
        grind
    have h2 : Up y (z / a) := fun m => by rw [le_div h]; exact h1 m
    have := hb _ h2
    rw [le_div h] at this
    grind
  · rw [← h, Rat.zero_mul]; grind
theorem E_arg {x y : Rat} (hx : 0 ≤ x) (h : x ≤ y) (n : Nat) : E x n ≤ E y n := by
  have h1 : 0 ≤ y - x := by grind
  have h2 := E_le_add hx h1 n 1
  have h3 : y = x + (y - x) := by grind
  rcases Nat.eq_zero_or_pos n with h0 | h0
  · subst h0; exact Rat.le_refl
  · rw [E_su, E_su]
    apply su_le
    intro i hi
    rw [h3, ← cv_tm]
    have h4 : ∀ j, 0 ≤ (fun k => tm x k * tm (y - x) (i - k)) j := fun j => Rat.mul_nonneg (tm_nonneg hx j) (tm_nonneg h1 _)
    show tm x i ≤ su (fun k => tm x k * tm (y - x) (i - k)) i + tm x i * tm (y - x) (i - i)
    rw [Nat.sub_self, show tm (y - x) 0 = 1 from rfl]
    have := su_more h4 (Nat.zero_le i)
    show tm x i ≤ _
    have e0 : su (fun k => tm x k * tm (y - x) (i - k)) 0 = 0 := rfl
    grind
end Go.Proofs.YtmpdbmaokbhcjaaDoor.Ea

/-
  PLAIN: how near a quotient can be to e to a quotient (MAHLER): not nearer than a bound in the sizes of both.
-/
namespace Go.Proofs.YtmpdbmaokbhcjaaDoor.Ea

/-- data that are one and so many times another one -/
theorem dd_lin {r p q : Nat → Nat → Rat} {c : Rat} (hr : ∀ j i, r j i = p j i + c * q j i) : ∀ {s : Nat} {M : Nat → Nat}, Sz M (s + 1) → dd r (s + 1) M = dd p (s + 1) M + c * dd q (s + 1) M := by
  intro s
  induction s with
  | zero =>
    intro M h
    rcases two_or h with ⟨j, hj, h2⟩ | ⟨x, y, hxy, hx, hy⟩
    · rw [dd_one _ h h2, dd_one _ h h2, dd_one _ h h2, hr]
    · have h1 := (h.dec hx).zero' y
      rw [dec_ne _ (fun e => hxy e.symm)] at h1
      omega
  | succ s ih =>
    intro M h
    rcases two_or h with ⟨j, hj, h2⟩ | ⟨x, y, hxy, hx, hy⟩
    · rw [dd_one _ h h2, dd_one _ h h2, dd_one _ h h2, hr]
    · have d1 := dd_two r h hxy hx hy
      have d2 := dd_two p h hxy hx hy
      have d3 := dd_two q h hxy hx hy
      rw [ih (h.dec hx), ih (h.dec hy)] at d1
      have hne := cast_ne hxy
      have : ((y : Rat) - (x : Rat)) * (dd r (s + 1 + 1) M - (dd p (s + 1 + 1) M + c * dd q (s + 1 + 1) M)) = 0 := by grind
      rcases Rat.mul_eq_zero.1 this with h | h
      · exact absurd h hne
      · grind
theorem dd_nil : ∀ {s : Nat} {M : Nat → Nat}, Sz M (s + 1) → dd (fun _ _ => 0) (s + 1) M = 0 := by
  intro s M h
  have := dd_lin (r := fun _ _ => 0) (p := fun _ _ => 0) (q := fun _ _ => 0) (c := 1) (fun j i => by grind) h
  grind
theorem dd_su (c : Nat → Rat) (f : Nat → Nat → Nat → Rat) {s : Nat} {M : Nat → Nat} (h : Sz M (s + 1)) : ∀ K, dd (fun j i => su (fun m => c m * f m j i) K) (s + 1) M = su (fun m => c m * dd (f m) (s + 1) M) K
  | 0 => dd_nil h
  | K + 1 => by
    rw [su_succ, ← dd_su c f h K]
    exact dd_lin (fun j i => su_succ _ _) h
/-- data of powers -/
def mo : Nat → Nat → Nat → Rat
  | 0, _, i => if i = 0 then 1 else 0
  | m + 1, j, i => (j : Rat) * mo m j i + (if i = 0 then 0 else mo m j (i - 1))
theorem mo_nonneg : ∀ (m j i : Nat), 0 ≤ mo m j i
  | 0, j, i => by unfold mo; split <;> decide
  | m + 1, j, i => by
    unfold mo
    have h1 := Rat.mul_nonneg (Rat.natCast_nonneg (a := j)) (mo_nonneg m j i)
    split
    · grind
    · have := mo_nonneg m j (i - 1); grind
theorem mo_above : ∀ (m j i : Nat), m < i → mo m j i = 0
  | 0, j, i, h => by unfold mo; rw [if_neg (by omega)]
  | m + 1, j, i, h => by
    unfold mo
    rw [mo_above m j i (by omega), if_neg (by omega), mo_above m j (i - 1) (by omega)]; grind
theorem dd_mo0 : ∀ {s : Nat} {M : Nat → Nat}, Sz M (s + 1) → dd (mo 0) (s + 1) M = if s = 0 then 1 else 0 := by
  intro s
  induction s with
  | zero =>
    intro M h
    rcases two_or h with ⟨j, hj, h2⟩ | ⟨x, y, hxy, hx, hy⟩
    · rw [dd_one _ h h2]; rfl
    · have h1 := (h.dec hx).zero' y
      rw [dec_ne _ (fun e => hxy e.symm)] at h1
      omega
  | succ s ih =>
    intro M h
    rcases two_or h with ⟨j, hj, h2⟩ | ⟨x, y, hxy, hx, hy⟩
    · rw [dd_one _ h h2]; rfl
    · have d1 := dd_two (mo 0) h hxy hx hy
      rw [ih (h.dec hx), ih (h.dec hy)] at d1
      have hne := cast_ne hxy
      rw [if_neg (by omega)]
      have : ((y : Rat) - (x : Rat)) * dd (mo 0) (s + 1 + 1) M = 0 := by grind
      rcases Rat.mul_eq_zero.1 this with h | h
      · exact absurd h hne
      · exact h
/-- LEIBNIZ -/
theorem dd_mo (m : Nat) : ∀ {s : Nat} {M : Nat → Nat} {x : Nat}, Sz M (s + 1) → 0 < M x → dd (mo (m + 1)) (s + 1) M = (x : Rat) * dd (mo m) (s + 1) M + dd (mo m) s (dec M x) := by
  intro s
  induction s with
  | zero =>
    intro M x h hx
    rcases two_or h with ⟨j, hj, h2⟩ | ⟨x, y, hxy, hx, hy⟩
    · obtain rfl : x = j := Decidable.byContradiction fun e => by have := h2 x e; omega
      rw [dd_one _ h h2, dd_one _ h h2, show dd (mo m) 0 (dec M x) = 0 from rfl]
      show (x : Rat) * mo m x 0 + 0 = _
      rfl
    · have h1 := (h.dec hx).zero' y
      rw [dec_ne _ (fun e => hxy e.symm)] at h1
      omega
  | succ s ih =>
    intro M x h hx
    by_cases h1 : ∃ c, c ≠ x ∧ 0 < M c
    · obtain ⟨c, hcx, hc⟩ := h1
      have d1 := dd_two (mo (m + 1)) h (fun e => hcx e.symm) hx hc
      have d2 := dd_two (mo m) h (fun e => hcx e.symm) hx hc
      rw [ih (h.dec hx) (x := c) (by rw [dec_ne _ hcx]; exact hc), ih (h.dec hc) (x := x) (by rw [dec_ne _ (fun e => hcx e.symm)]; exact hx), dec_comm M x c] at d1
      have hne := cast_ne (fun e => hcx e.symm : x ≠ c)
      have : ((c : Rat) - (x : Rat)) * (dd (mo (m + 1)) (s + 1 + 1) M - ((x : Rat) * dd (mo m) (s + 1 + 1) M + dd (mo m) (s + 1) (dec M x))) = 0 := by grind
      rcases Rat.mul_eq_zero.1 this with h | h
      · exact absurd h hne
      · grind
    · have hj : ∀ y, y ≠ x → M y = 0 := fun y hy => Decidable.byContradiction fun e => h1 ⟨y, hy, by omega⟩
      rw [dd_one _ h hj, dd_one _ h hj, dd_one _ (h.dec hx) (fun y hy => by rw [dec_ne _ hy]; exact hj y hy)]
      show (x : Rat) * mo m x (s + 1) + (if s + 1 = 0 then 0 else mo m x (s + 1 - 1)) = _
      rw [if_neg (by omega), Nat.add_sub_cancel]
theorem dd_mo_bd {L : Nat} : ∀ (m : Nat) {s : Nat} {M : Nat → Nat}, Sz M (s + 1) → (∀ x, L < x → M x = 0) → 0 ≤ dd (mo m) (s + 1) M ∧ dd (mo m) (s + 1) M ≤ mo m L s
  | 0, s, M, h, hL => by
    rw [dd_mo0 h]
    unfold mo
    split
    · exact ⟨by decide, Rat.le_refl⟩
    · exact ⟨Rat.le_refl, Rat.le_refl⟩
  | m + 1, s, M, h, hL => by
    obtain ⟨x, hx, hs⟩ := h.pos
    have hxL : x ≤ L := Decidable.byContradiction fun e => by have := hL x (by omega); omega
    rw [dd_mo m h hx]
    unfold mo
    obtain ⟨a1, a2⟩ := dd_mo_bd m h hL
    have hx0 := Rat.natCast_nonneg (a := x)
    have hxc : (x : Rat) ≤ (L : Rat) := Rat.natCast_le_natCast.2 hxL
    have k1 := Rat.mul_nonneg hx0 a1
    have k2 := Rat.mul_le_mul_of_nonneg_left a2 hx0
    have k3 := Rat.mul_le_mul_of_nonneg_right hxc (mo_nonneg m L s)
    cases s with
    | zero =>
      rw [if_pos rfl, show dd (mo m) 0 (dec M x) = 0 from rfl]
      constructor <;> grind
    | succ s =>
      have hL2 : ∀ z, L < z → dec M x z = 0 := fun z hz => by rw [dec_ne M (show z ≠ x by omega)]; exact hL z hz
      obtain ⟨b1, b2⟩ := dd_mo_bd m hs hL2
      rw [if_neg (by omega), Nat.add_sub_cancel]
      constructor <;> grind
/-- powers and exponentials -/
theorem mo_tm (β : Rat) (j : Nat) : ∀ (m i : Nat), i ≤ m → tm β m * mo m j i = tm β i * tm (β * (j : Rat)) (m - i)
  | 0, i, h => by
    obtain rfl : i = 0 := by omega
    show tm β 0 * 1 = tm β 0 * 1
    rfl
  | m + 1, i, h => by
    have hp := cast_pos m
    have h1 := tm_step β m
    have key : ((m + 1 : Nat) : Rat) * (tm β (m + 1) * mo (m + 1) j i) = ((m + 1 : Nat) : Rat) * (tm β i * tm (β * (j : Rat)) (m + 1 - i)) := by
      have e0 : ((m + 1 : Nat) : Rat) * (tm β (m + 1) * mo (m + 1) j i) = β * (tm β m * mo (m + 1) j i) := by grind
      rw [e0]
      have e1 : mo (m + 1) j i = (j : Rat) * mo m j i + (if i = 0 then 0 else mo m j (i - 1)) := rfl
      rw [e1]
      cases i with
      | zero =>
        rw [if_pos rfl, Nat.sub_zero]
        have i1 := mo_tm β j m 0 (by omega)
        rw [Nat.sub_zero] at i1
        have h2 := tm_step (β * (j : Rat)) m
        have : tm β 0 = 1 := rfl
        rw [this] at i1 ⊢
        grind
      | succ i =>
        rw [if_neg (by omega), Nat.add_sub_cancel]
        have i2 := mo_tm β j m i (by omega)
        have h3 := tm_step β i
        by_cases hi : i + 1 ≤ m
        · have i1 := mo_tm β j m (i + 1) hi
          have h2 := tm_step (β * (j : Rat)) (m - (i + 1))
          rw [show m - (i + 1) + 1 = m - i by omega] at h2
          rw [show m + 1 - (i + 1) = m - i by omega]
          have hc : ((m + 1 : Nat) : Rat) = ((i + 1 : Nat) : Rat) + ((m - i : Nat) : Rat) := by rw [← Rat.natCast_add]; congr 1; omega
          rw [hc]
          grind
        · obtain rfl : i = m := by omega
          rw [mo_above i j (i + 1) (by omega)]
          rw [Nat.sub_self] at i2
          rw [show i + 1 - (i + 1) = 0 by omega]
          have e2 : tm (β * (j : Rat)) 0 = 1 := rfl
          rw [e2] at i2 ⊢
          grind
    have : ((m + 1 : Nat) : Rat) * (tm β (m + 1) * mo (m + 1) j i - tm β i * tm (β * (j : Rat)) (m + 1 - i)) = 0 := by grind
    rcases Rat.mul_eq_zero.1 this with h | h
    · exact absurd h (Rat.ne_of_gt hp)
    · grind
theorem mo_E (β : Rat) (j i : Nat) : ∀ K, su (fun m => tm β m * mo m j i) K = tm β i * E (β * (j : Rat)) (K - i)
  | 0 => by rw [su_nil, Nat.zero_sub]; show (0 : Rat) = tm β i * 0; rw [Rat.mul_zero]
  | K + 1 => by
    rw [su_succ, mo_E β j i K]
    by_cases h : i ≤ K
    · rw [mo_tm β j K i h, show K + 1 - i = (K - i) + 1 by omega]
      show _ = tm β i * (E (β * (j : Rat)) (K - i) + tm (β * (j : Rat)) (K - i))
      grind
    · rw [mo_above K j i (by omega), show K + 1 - i = 0 by omega, show K - i = 0 by omega]
      grind
/-- the sum that tells of exponentials is small -/
theorem dd_small {β : Rat} (hβ : 0 ≤ β) {L s K : Nat} {M : Nat → Nat} (h : Sz M (s + 1)) (hL : ∀ x, L < x → M x = 0) :
    0 ≤ dd (fun j i => tm β i * E (β * (j : Rat)) (K - i)) (s + 1) M ∧ dd (fun j i => tm β i * E (β * (j : Rat)) (K - i)) (s + 1) M ≤ tm β s * E (β * (L : Rat)) (K - s) := by
  have e : (fun (j i : Nat) => tm β i * E (β * (j : Rat)) (K - i)) = fun j i => su (fun m => tm β m * mo m j i) K := by
    funext j i; exact (mo_E β j i K).symm
  rw [e, dd_su (tm β) mo h, ← mo_E β L s K]
  constructor
  · have : su (fun _ => (0 : Rat)) K ≤ su (fun m => tm β m * dd (mo m) (s + 1) M) K := su_le fun m _ => Rat.mul_nonneg (tm_nonneg hβ m) (dd_mo_bd m h hL).1
    have e0 : su (fun _ => (0 : Rat)) K = 0 := by
      have := su_mul 0 (fun _ => (0 : Rat)) K
      rw [su_congr (fun _ _ => by rw [Rat.zero_mul])] at this
      exact this.trans (Rat.zero_mul _)
    rw [e0] at this; exact this
  · exact su_le fun m _ => Rat.mul_le_mul_of_nonneg_left (dd_mo_bd m h hL).2 (tm_nonneg hβ m)
end Go.Proofs.YtmpdbmaokbhcjaaDoor.Ea

/-
  PLAIN: the sum of exponentials' data at a quotient is no whole number by less than its denominators.
-/
namespace Go.Proofs.YtmpdbmaokbhcjaaDoor.Ea

def fc : Nat → Nat
  | 0 => 1
  | n + 1 => (n + 1) * fc n
theorem fc_pos : ∀ n, 0 < fc n
  | 0 => Nat.one_pos
  | n + 1 => Nat.mul_pos (Nat.succ_pos n) (fc_pos n)
theorem fc_dvd : ∀ j k, fc j * fc k ∣ fc (j + k)
  | 0, k => by rw [Nat.zero_add]; show 1 * fc k ∣ _; rw [Nat.one_mul]; exact Nat.dvd_refl _
  | j + 1, 0 => by show fc (j + 1) * 1 ∣ _; rw [Nat.mul_one]; exact Nat.dvd_refl _
  | j + 1, k + 1 => by
    have h1 := fc_dvd j (k + 1)
    have h2 := fc_dvd (j + 1) k
    rw [show j + 1 + k = j + (k + 1) by omega] at h2
    have e : fc (j + 1 + (k + 1)) = (j + 1) * fc (j + (k + 1)) + (k + 1) * fc (j + (k + 1)) := by
      rw [← Nat.add_mul, show j + 1 + (k + 1) = (j + (k + 1)) + 1 by omega]
      show (j + (k + 1) + 1) * _ = _
      congr 1
    rw [e]
    have e1 : fc (j + 1) * fc (k + 1) = (j + 1) * (fc j * fc (k + 1)) := by show (j + 1) * fc j * fc (k + 1) = _; rw [Nat.mul_assoc]
    have e2 : fc (j + 1) * fc (k + 1) = (k + 1) * (fc (j + 1) * fc k) := by show fc (j + 1) * ((k + 1) * fc k) = _; rw [Nat.mul_left_comm]
    apply Nat.dvd_add
    · rw [e1]; exact Nat.mul_dvd_mul_left _ h1
    · rw [e2]; exact Nat.mul_dvd_mul_left _ h2
theorem fc_dvd_le {i n : Nat} (h : i ≤ n) : fc i ∣ fc n := by
  have := fc_dvd i (n - i)
  rw [show i + (n - i) = n by omega] at this
  exact Nat.dvd_trans (Nat.dvd_mul_right _ _) this
theorem fc_tm (β : Rat) : ∀ i, (fc i : Rat) * tm β i = β ^ i
  | 0 => by show ((1 : Nat) : Rat) * 1 = β ^ 0; rw [Rat.pow_zero, Rat.mul_one]; rfl
  | i + 1 => by
    have h1 := fc_tm β i
    have h2 := tm_step β i
    show (((i + 1) * fc i : Nat) : Rat) * tm β (i + 1) = β ^ (i + 1)
    rw [Rat.natCast_mul, Rat.pow_succ, ← h1]
    grind
def pd (j0 L : Nat) : Rat := pr (fun l => if l = j0 then 1 else (l : Rat) - (j0 : Rat)) L
theorem pd_succ (j0 L : Nat) : pd j0 (L + 1) = pd j0 L * (if L + 1 = j0 then 1 else ((L + 1 : Nat) : Rat) - (j0 : Rat)) := rfl
theorem pd_below (j0 : Nat) : ∀ L, L < j0 → ∃ z : Int, (fc j0 : Rat) = (z : Rat) * (fc (j0 - L - 1) : Rat) * pd j0 L
  | 0, h => by
    refine ⟨-1, ?_⟩
    obtain ⟨j, rfl⟩ : ∃ j, j0 = j + 1 := ⟨j0 - 1, by omega⟩
    show ((((j + 1) * fc j : Nat)) : Rat) = ((-1 : Int) : Rat) * (fc (j + 1 - 0 - 1) : Rat) * (if 0 = j + 1 then 1 else ((0 : Nat) : Rat) - ((j + 1 : Nat) : Rat))
    rw [if_neg (by omega), show j + 1 - 0 - 1 = j by omega, Rat.natCast_mul, show ((-1 : Int) : Rat) = -1 from rfl, show ((0 : Nat) : Rat) = 0 from rfl]
    grind
  | L + 1, h => by
    obtain ⟨z, hz⟩ := pd_below j0 L (by omega)
    refine ⟨-z, ?_⟩
    rw [pd_succ, if_neg (by omega), hz]
    obtain ⟨d, hd⟩ : ∃ d, j0 = L + 1 + 1 + d := ⟨j0 - L - 2, by omega⟩
    rw [show j0 - L - 1 = d + 1 by omega, show j0 - (L + 1) - 1 = d by omega]
    show (z : Rat) * (((d + 1) * fc d : Nat) : Rat) * pd j0 L = _
    rw [Rat.natCast_mul, Rat.intCast_neg, hd]
    have : ((L + 1 + 1 + d : Nat) : Rat) = ((L + 1 : Nat) : Rat) + ((d + 1 : Nat) : Rat) := by rw [← Rat.natCast_add]; congr 1; omega
    rw [this]
    grind
theorem pd_above (j0 : Nat) : ∀ L, j0 ≤ L → ∃ z : Int, ((fc j0 : Nat) : Rat) * (fc (L - j0) : Rat) = (z : Rat) * pd j0 L
  | 0, h => by
    obtain rfl : j0 = 0 := by omega
    exact ⟨1, rfl⟩
  | L + 1, h => by
    by_cases e : j0 = L + 1
    · subst e
      obtain ⟨z, hz⟩ := pd_below (L + 1) L (by omega)
      refine ⟨z, ?_⟩
      rw [pd_succ, if_pos rfl, hz, show L + 1 - L - 1 = 0 by omega, Nat.sub_self]
      show (z : Rat) * ((1 : Nat) : Rat) * pd (L + 1) L * ((1 : Nat) : Rat) = _
      rw [show ((1 : Nat) : Rat) = 1 from rfl]
      grind
    · obtain ⟨z, hz⟩ := pd_above j0 L (by omega)
      refine ⟨z, ?_⟩
      rw [pd_succ, if_neg (fun e2 => e e2.symm), show L + 1 - j0 = (L - j0) + 1 by omega]
      show ((fc j0 : Nat) : Rat) * (((L - j0 + 1) * fc (L - j0) : Nat) : Rat) = _
      rw [Rat.natCast_mul]
      have : ((L + 1 : Nat) : Rat) = ((L - j0 + 1 : Nat) : Rat) + (j0 : Rat) := by rw [← Rat.natCast_add]; congr 1; omega
      rw [this]
      grind
theorem fc_pd {j0 L : Nat} (h : j0 ≤ L) : ∃ z : Int, (fc L : Rat) = (z : Rat) * pd j0 L := by
  obtain ⟨z, hz⟩ := pd_above j0 L h
  obtain ⟨c, hc⟩ := fc_dvd j0 (L - j0)
  rw [show j0 + (L - j0) = L by omega] at hc
  refine ⟨z * (c : Int), ?_⟩
  rw [hc, Rat.natCast_mul, Rat.natCast_mul, Rat.intCast_mul, Rat.intCast_natCast]
  grind
theorem pr_mul (f g : Nat → Rat) : ∀ n, pr (fun x => f x * g x) n = pr f n * pr g n
  | 0 => rfl
  | n + 1 => by
    have := pr_mul f g n
    show pr (fun x => f x * g x) n * (f (n + 1) * g (n + 1)) = pr f n * f (n + 1) * (pr g n * g (n + 1))
    rw [this]; grind
theorem pr_pow (f : Nat → Rat) (k : Nat) : ∀ n, pr (fun x => f x ^ k) n = pr f n ^ k
  | 0 => rfl
  | n + 1 => by
    have := pr_pow f k n
    show pr (fun x => f x ^ k) n * f (n + 1) ^ k = (pr f n * f (n + 1)) ^ k
    rw [this]
    generalize pr f n = a
    generalize f (n + 1) = b
    clear this
    induction k with
    | zero => rw [Rat.pow_zero, Rat.pow_zero, Rat.pow_zero, Rat.mul_one]
    | succ k ih => rw [Rat.pow_succ, Rat.pow_succ, Rat.pow_succ, ← ih]; grind
theorem pow_add (a : Rat) (m : Nat) : ∀ n, a ^ (m + n) = a ^ m * a ^ n
  | 0 => by rw [Nat.add_zero, Rat.pow_zero, Rat.mul_one]
  | n + 1 => by rw [← Nat.add_assoc, Rat.pow_succ, Rat.pow_succ, pow_add a m n]; grind
theorem mul_pow (a b : Rat) : ∀ k : Nat, (a * b) ^ k = a ^ k * b ^ k
  | 0 => by rw [Rat.pow_zero, Rat.pow_zero, Rat.pow_zero, Rat.mul_one]
  | k + 1 => by rw [Rat.pow_succ, Rat.pow_succ, Rat.pow_succ, mul_pow a b k]; grind
theorem qd_dvd {j0 L k : Nat} (h : j0 ≤ L) {M : Nat → Nat} (hM : ∀ l, M l ≤ k) : ∃ z : Int, (fc L : Rat) ^ k = (z : Rat) * qd j0 L M := by
  obtain ⟨z, hz⟩ := fc_pd h
  have e : pd j0 L ^ k = pr (fun l => if l = j0 then 1 else ((l : Rat) - (j0 : Rat)) ^ (k - M l)) L * qd j0 L M := by
    unfold pd qd
    rw [← pr_mul, ← pr_pow]
    apply pr_congr
    intro x _
    by_cases e : x = j0
    · simp only [e, if_true]
      have : ∀ k : Nat, (1 : Rat) ^ k = 1 := fun k => by induction k with
        | zero => rfl
        | succ k ih => rw [Rat.pow_succ, ih, Rat.mul_one]
      rw [this, Rat.mul_one]
    · simp only [e, if_false]
      rw [← pow_add]
      congr 1
      have := hM x
      omega
  obtain ⟨y, hy⟩ : Zq (pr (fun l => if l = j0 then 1 else ((l : Rat) - (j0 : Rat)) ^ (k - M l)) L) := pr_zq fun x _ => by
    split
    · exact ⟨1, rfl⟩
    · exact ((Zq.nat x).sub (Zq.nat j0)).pow _
  refine ⟨z ^ k * y, ?_⟩
  rw [hz, mul_pow, e, hy, Rat.intCast_mul, Rat.intCast_pow]
  grind
theorem lam_dvd {j0 L l : Nat} (h : j0 ≤ L) (hl : l ≤ L) (hne : l ≠ j0) : ∃ z : Int, (fc L : Rat) = (z : Rat) * ((l : Rat) - (j0 : Rat)) := by
  obtain ⟨z, hz⟩ := fc_pd h
  have e : pd j0 L = ((l : Rat) - (j0 : Rat)) * pr (fun x => if x = l then 1 else if x = j0 then 1 else (x : Rat) - (j0 : Rat)) L := by
    unfold pd
    refine pr_split _ hl (fun x hx hxl => ?_) ?_
    · simp only [hxl, if_false]
    · simp only [hne, if_false, if_true, Rat.mul_one]
  obtain ⟨y, hy⟩ : Zq (pr (fun x => if x = l then 1 else if x = j0 then 1 else (x : Rat) - (j0 : Rat)) L) := pr_zq fun x _ => by
    split
    · exact ⟨1, rfl⟩
    · split
      · exact ⟨1, rfl⟩
      · exact (Zq.nat x).sub (Zq.nat j0)
  refine ⟨z * y, ?_⟩
  rw [hz, e, hy, Rat.intCast_mul]
  grind
theorem Zq.sm {f : Nat → Rat} : ∀ {n : Nat}, (∀ x, x ≤ n → Zq (f x)) → Zq (sm f n)
  | 0, h => h 0 (Nat.le_refl _)
  | n + 1, h => by rw [sm_succ]; exact (Zq.sm (fun x hx => h x (by omega))).add (h (n + 1) (Nat.le_refl _))
theorem dd_sm (f : Nat → Nat → Nat → Rat) {s : Nat} {M : Nat → Nat} (h : Sz M (s + 1)) : ∀ L, dd (fun j i => sm (fun j0 => f j0 j i) L) (s + 1) M = sm (fun j0 => dd (f j0) (s + 1) M) L
  | 0 => rfl
  | L + 1 => by
    rw [sm_succ, ← dd_sm f h L]
    have := dd_lin (r := fun j i => sm (fun j0 => f j0 j i) (L + 1)) (p := fun j i => sm (fun j0 => f j0 j i) L) (q := f (L + 1)) (c := 1) (fun j i => by rw [sm_succ]; grind) h
    rw [this, Rat.one_mul]
/-- each node n times -/
def M0 (L n : Nat) : Nat → Nat := fun x => if x ≤ L then n else 0
theorem sz_more {M : Nat → Nat} {s : Nat} (h : Sz M s) (c : Nat) (h0 : M c = 0) : ∀ k, Sz (fun x => if x = c then k else M x) (s + k)
  | 0 => by
    have : (fun x => if x = c then 0 else M x) = M := by funext x; split; (rename_i e; rw [e, h0]); rfl
    rw [this]; exact h
  | k + 1 => by
    have := (sz_more h c h0 k).inc c
    have e : inc (fun x => if x = c then k else M x) c = fun x => if x = c then k + 1 else M x := by
      funext x; unfold inc; by_cases hx : x = c <;> simp [hx]
    rw [e] at this
    exact this
theorem sz_M0 (n : Nat) : ∀ L, Sz (M0 L n) ((L + 1) * n)
  | 0 => by
    have := sz_more (Sz.zero (fun _ => 0) (fun _ => rfl)) 0 rfl n
    have e : (fun x => if x = 0 then n else 0) = M0 0 n := by funext x; unfold M0; by_cases h : x = 0 <;> simp [h]
    rw [e] at this
    simpa using this
  | L + 1 => by
    have := sz_more (sz_M0 n L) (L + 1) (by unfold M0; rw [if_neg (by omega)]) n
    have e : (fun x => if x = L + 1 then n else M0 L n x) = M0 (L + 1) n := by
      funext x; unfold M0; by_cases h : x = L + 1
      · simp [h]
      · by_cases h2 : x ≤ L
        · simp [h, h2]; omega
        · simp [h, h2]; omega
    rw [e] at this
    rw [Nat.add_mul (L + 1) 1 n, Nat.one_mul]
    exact this
/-- data of e to a quotient, and of a quotient -/
def bα (α β : Rat) (L : Nat) (j i : Nat) : Rat := sm (fun j0 => if j = j0 then α ^ j0 * tm β i else 0) L
theorem bα_in {α β : Rat} {L j : Nat} (h : j ≤ L) (i : Nat) : bα α β L j i = α ^ j * tm β i := by
  unfold bα
  rw [sm_congr (g := fun x => if x = j then α ^ j * tm β i else 0) (fun x _ => by
    by_cases e : j = x
    · simp [e]
    · rw [if_neg e, if_neg (fun e2 => e e2.symm)]), sm_at _ h]
theorem bα_out {α β : Rat} {L j : Nat} (h : L < j) (i : Nat) : bα α β L j i = 0 := by
  unfold bα
  rw [sm_congr (g := fun _ => 0) (fun x hx => if_neg (by omega)), sm_zero]
theorem form_ge {α β : Rat} (u v a c : Nat) (hv : 0 < v) (hc : 0 < c) (hu : 0 < u) (ha : 0 < a) (hα : α * (v : Rat) = (u : Rat)) (hβ : β * (c : Rat) = (a : Rat)) (L n : Nat) (hn : 0 < n) :
    ∃ M, Sz M ((L + 1) * n + 1) ∧ (∀ x, L < x → M x = 0) ∧ (∀ x, M x ≤ n + 1) ∧
      (1 ≤ (fc L : Rat) ^ (2 * n + 1) * ((v : Rat) ^ L * ((c : Rat) ^ n * (fc n : Rat))) * dd (bα α β L) ((L + 1) * n + 1) M ∨
       (fc L : Rat) ^ (2 * n + 1) * ((v : Rat) ^ L * ((c : Rat) ^ n * (fc n : Rat))) * dd (bα α β L) ((L + 1) * n + 1) M ≤ -1) := by
  have hv0 : (0 : Rat) < (v : Rat) := Rat.natCast_pos.2 hv
  have hc0 : (0 : Rat) < (c : Rat) := Rat.natCast_pos.2 hc
  have hα0 : α ≠ 0 := fun e => by
    rw [e, Rat.zero_mul] at hα
    have := Rat.natCast_pos.2 hu
    rw [← hα] at this
    exact Rat.lt_irrefl this
  have hβ0 : β ≠ 0 := fun e => by
    rw [e, Rat.zero_mul] at hβ
    have := Rat.natCast_pos.2 ha
    rw [← hβ] at this
    exact Rat.lt_irrefl this
  have hpow0 : ∀ j : Nat, α ^ j ≠ 0 := fun j => by
    induction j with
    | zero => rw [Rat.pow_zero]; decide
    | succ j ih => rw [Rat.pow_succ]; intro e; rcases Rat.mul_eq_zero.1 e with h | h; exact ih h; exact hα0 h
  obtain ⟨N, hN⟩ : ∃ N, (L + 1) * n = N + 1 := ⟨(L + 1) * n - 1, by have := Nat.mul_pos (show 0 < L + 1 by omega) hn; omega⟩
  have hs := sz_M0 n L
  rw [hN] at hs
  have hex : Ex (bα α β L) β := fun j i => by
    by_cases h : j ≤ L
    · rw [bα_in h, bα_in h]
      have := tm_step β i
      grind
    · rw [bα_out (by omega), bα_out (by omega)]; grind
  obtain ⟨j, hj, hne⟩ := dd_some hex hβ0 (L := L) (fun j hj => by rw [bα_in hj]; show α ^ j * 1 ≠ 0; rw [Rat.mul_one]; exact hpow0 j) hs (fun x hx => by unfold M0; rw [if_neg (by omega)])
  have hsz := hs.inc j
  have hsup : ∀ x, L < x → inc (M0 L n) j x = 0 := fun x hx => by
    rw [inc_ne _ (by omega)]; unfold M0; rw [if_neg (by omega)]
  have hle : ∀ x, inc (M0 L n) j x ≤ n + 1 := fun x => by
    unfold inc M0; split <;> split <;> omega
  rw [hN]
  refine ⟨_, hsz, hsup, hle, ?_⟩
  generalize inc (M0 L n) j = M at *
  clear hs hN hj
  have hD0 : (fc L : Rat) ^ (2 * n + 1) * ((v : Rat) ^ L * ((c : Rat) ^ n * (fc n : Rat))) ≠ 0 := by
    have h1 : (0 : Rat) < (fc L : Rat) := Rat.natCast_pos.2 (fc_pos L)
    have h2 : (0 : Rat) < (fc n : Rat) := Rat.natCast_pos.2 (fc_pos n)
    exact Rat.ne_of_gt (Rat.mul_pos (Rat.pow_pos h1) (Rat.mul_pos (Rat.pow_pos hv0) (Rat.mul_pos (Rat.pow_pos hc0) h2)))
  refine Zq.one_le ?_ (fun e => by rcases Rat.mul_eq_zero.1 e with h | h; exact hD0 h; exact hne h)
  have e1 : dd (bα α β L) (N + 1 + 1) M = sm (fun j0 => dd (fun j i => if j = j0 then α ^ j0 * tm β i else 0) (N + 1 + 1) M) L := dd_sm (fun j0 j i => if j = j0 then α ^ j0 * tm β i else 0) hsz L
  rw [e1, ← sm_mul]
  apply Zq.sm
  intro j0 hj0
  have hb : ∀ j i, j ≠ j0 → (fun j i => if j = j0 then α ^ j0 * tm β i else 0) j i = 0 := fun j i h => if_neg h
  rcases Nat.eq_zero_or_pos (M j0) with h0 | h0
  · rw [dd_none hb hsz h0, Rat.mul_zero]; exact Zq.zero
  · obtain ⟨m, hm⟩ : ∃ m, M j0 = m + 1 := ⟨M j0 - 1, by omega⟩
    have hmn : m ≤ n := by have := hle j0; omega
    have hW : ∀ i, i ≤ n → Zq ((v : Rat) ^ L * ((c : Rat) ^ n * (fc n : Rat)) * (fun j i => if j = j0 then α ^ j0 * tm β i else 0) j0 i) := by
      intro i hi
      show Zq (_ * (if j0 = j0 then α ^ j0 * tm β i else 0))
      rw [if_pos rfl]
      obtain ⟨q, hq⟩ := fc_dvd_le hi
      have e2 : (v : Rat) ^ L * ((c : Rat) ^ n * (fc n : Rat)) * (α ^ j0 * tm β i) = ((v : Rat) ^ (L - j0) * (u : Rat) ^ j0) * ((c : Rat) ^ (n - i) * (a : Rat) ^ i * (q : Rat)) := by
        have f1 : (v : Rat) ^ L = (v : Rat) ^ (L - j0) * (v : Rat) ^ j0 := by rw [← pow_add]; congr 1; omega
        have f2 : (c : Rat) ^ n = (c : Rat) ^ (n - i) * (c : Rat) ^ i := by rw [← pow_add]; congr 1; omega
        have f3 := fc_tm β i
        rw [f1, f2, hq, Rat.natCast_mul, ← hα, ← hβ, mul_pow, mul_pow, ← f3]
        grind
      rw [e2]
      exact (((Zq.nat v).pow _).mul ((Zq.nat u).pow _)).mul ((((Zq.nat c).pow _).mul ((Zq.nat a).pow _)).mul (Zq.nat q))
    have hz := dd_zq hb hW (lam := (fc L : Rat)) (fun l hl hne => lam_dvd hj0 hl hne) (Zq.nat _) hsz hsup hm hmn
    obtain ⟨z, hz2⟩ := qd_dvd (k := n + 1) hj0 hle
    have e3 : (fc L : Rat) ^ (2 * n + 1) = (z : Rat) * (fc L : Rat) ^ (n - m) * (qd j0 L M * (fc L : Rat) ^ m) := by
      rw [show 2 * n + 1 = (n + 1) + ((n - m) + m) by omega, pow_add _ (n + 1) ((n - m) + m), hz2, pow_add _ (n - m) m]
      grind
    rw [e3]
    have : (z : Rat) * (fc L : Rat) ^ (n - m) * (qd j0 L M * (fc L : Rat) ^ m) * ((v : Rat) ^ L * ((c : Rat) ^ n * (fc n : Rat))) * dd (fun j i => if j = j0 then α ^ j0 * tm β i else 0) (N + 1 + 1) M = ((z : Rat) * (fc L : Rat) ^ (n - m)) * (qd j0 L M * (fc L : Rat) ^ m * ((v : Rat) ^ L * ((c : Rat) ^ n * (fc n : Rat))) * dd (fun j i => if j = j0 then α ^ j0 * tm β i else 0) (N + 1 + 1) M) := by
      grind
    rw [this]
    exact ((Zq.int z).mul ((Zq.nat _).pow _)).mul hz
end Go.Proofs.YtmpdbmaokbhcjaaDoor.Ea

/-
  PLAIN: how near a quotient can be to e to a quotient, in numbers.
-/
namespace Go.Proofs.YtmpdbmaokbhcjaaDoor.Ea

theorem pow_le {a b : Rat} (ha : 0 ≤ a) (h : a ≤ b) : ∀ k : Nat, a ^ k ≤ b ^ k
  | 0 => by rw [Rat.pow_zero, Rat.pow_zero]; exact Rat.le_refl
  | k + 1 => by
    rw [Rat.pow_succ, Rat.pow_succ]
    have h1 := pow_le ha h k
    have h2 := Rat.mul_le_mul_of_nonneg_right h1 ha
    have h3 := Rat.mul_le_mul_of_nonneg_left h (Rat.pow_nonneg (n := k) (Rat.le_trans ha h))
    grind
theorem one_le_pow {a : Rat} (ha : 1 ≤ a) : ∀ k : Nat, 1 ≤ a ^ k
  | 0 => by rw [Rat.pow_zero]; exact Rat.le_refl
  | k + 1 => by
    rw [Rat.pow_succ]
    have h1 := one_le_pow ha k
    have h2 := Rat.mul_nonneg (a := a ^ k - 1) (b := a) (by grind) (by grind)
    grind
theorem pow_exp_le {a : Rat} (ha : 1 ≤ a) {m n : Nat} (h : m ≤ n) : a ^ m ≤ a ^ n := by
  have h1 := one_le_pow ha (n - m)
  have h2 : a ^ n = a ^ m * a ^ (n - m) := by rw [← pow_add]; congr 1; omega
  have h3 := Rat.pow_nonneg (n := m) (show 0 ≤ a by grind)
  have h4 := Rat.mul_le_mul_of_nonneg_left h1 h3
  grind
theorem pow_diff {x y : Rat} (hy : 0 ≤ y) (h : y ≤ x) (hx : 1 ≤ x) : ∀ j : Nat, x ^ j - y ^ j ≤ (j : Rat) * x ^ j * (x - y)
  | 0 => by rw [Rat.pow_zero, Rat.pow_zero]; show (1 : Rat) - 1 ≤ ((0 : Nat) : Rat) * 1 * (x - y); rw [show ((0 : Nat) : Rat) = 0 from rfl]; grind
  | j + 1 => by
    rw [Rat.pow_succ, Rat.pow_succ]
    have h1 := pow_diff hy h hx j
    have h2 := pow_le hy h j
    have h3 := Rat.pow_nonneg (n := j) (show 0 ≤ x by grind)
    have h4 := Rat.mul_le_mul_of_nonneg_right h1 (show 0 ≤ x by grind)
    have h5 := Rat.mul_le_mul_of_nonneg_right h2 (show 0 ≤ x - y by grind)
    have h6 := Rat.mul_nonneg (Rat.mul_nonneg h3 (show 0 ≤ x - 1 by grind)) (show 0 ≤ x - y by grind)
    have hc : ((j + 1 : Nat) : Rat) = (j : Rat) + 1 := Rat.natCast_add j 1
    rw [hc]
    grind
theorem E_pow_le {x : Rat} (hx : 0 ≤ x) (m : Nat) : ∀ j : Nat, E (x * (j : Rat)) m ≤ E x m ^ j
  | 0 => by
    rw [show ((0 : Nat) : Rat) = 0 from rfl, Rat.mul_zero, Rat.pow_zero]
    cases m with
    | zero => show (0 : Rat) ≤ 1; decide
    | succ m => rw [E_zero]; exact Rat.le_refl
  | j + 1 => by
    have hc : x * ((j + 1 : Nat) : Rat) = x * (j : Rat) + x := by rw [Rat.natCast_add]; show x * ((j : Rat) + 1) = _; grind
    have hj := Rat.mul_nonneg hx (Rat.natCast_nonneg (a := j))
    rw [hc, Rat.pow_succ]
    have h1 := E_add_le hj hx m
    have h2 := Rat.mul_le_mul_of_nonneg_right (E_pow_le hx m j) (E_nonneg hx m)
    exact Rat.le_trans h1 h2
theorem E_le_pow {x : Rat} (hx : 0 ≤ x) {k : Nat} (hk : 0 < k) : ∀ j : Nat, E x k ^ j ≤ E (x * (j : Rat)) (j * k + 1)
  | 0 => by
    rw [show ((0 : Nat) : Rat) = 0 from rfl, Rat.mul_zero, Rat.pow_zero, Nat.zero_mul, E_zero]
    exact Rat.le_refl
  | j + 1 => by
    have hc : x * ((j + 1 : Nat) : Rat) = x * (j : Rat) + x := by rw [Rat.natCast_add]; show x * ((j : Rat) + 1) = _; grind
    have hj := Rat.mul_nonneg hx (Rat.natCast_nonneg (a := j))
    rw [hc, Rat.pow_succ]
    have h1 := E_le_add hj hx (j * k + 1) k
    have h2 := Rat.mul_le_mul_of_nonneg_right (E_le_pow hx hk j) (E_nonneg hx k)
    rw [show (j + 1) * k + 1 = j * k + 1 + k by rw [Nat.add_mul]; omega]
    exact Rat.le_trans h2 h1
theorem dn_near {x lo : Rat} (hx : 0 ≤ x) (h : Dn x lo) {η : Rat} (hη : 0 < η) : ∃ k, 0 < k ∧ lo - η ≤ E x k := by
  refine Classical.byContradiction fun hn => ?_
  have h1 : Up x (lo - η) := fun n => by
    refine Rat.not_lt.1 fun h2 => hn ⟨n + 1, by omega, ?_⟩
    have := E_mono hx (show n ≤ n + 1 by omega)
    grind
  have := h _ h1
  grind
/-- MAHLER: if a quotient stands between bounds of e to a quotient, they are so far from each other -/
theorem far_raw {α β lo hi w : Rat} (u v a c : Nat) (hv : 0 < v) (hc : 0 < c) (hu : 0 < u) (ha : 0 < a) (hα : α * (v : Rat) = (u : Rat)) (hβ : β * (c : Rat) = (a : Rat)) (L n : Nat) (hn : 0 < n)
    (hlo : Dn β lo) (hhi : Up β hi) (l0 : 0 ≤ lo) (h1 : lo ≤ α) (h2 : α ≤ hi) (hw : hi - lo < w) (hwl : w < lo + (hi - lo)) :
    1 ≤ (fc L : Rat) ^ (2 * n + 1) * ((v : Rat) ^ L * ((c : Rat) ^ n * (fc n : Rat))) * (tm β ((L + 1) * n) * hi ^ L + 2 ^ ((L + 1) * n) * (hi * ((L : Rat) * hi ^ L * w))) := by
  obtain ⟨M, hsz, hsup, hle, hone⟩ := form_ge u v a c hv hc hu ha hα hβ L n hn
  have hβ0 : 0 ≤ β := by
    refine Rat.not_lt.1 fun e => ?_
    have := Rat.mul_lt_mul_of_pos_right e (Rat.natCast_pos.2 hc)
    rw [hβ, Rat.zero_mul] at this
    have := Rat.natCast_nonneg (a := a)
    grind
  obtain ⟨N, hN⟩ : ∃ N, N = (L + 1) * n := ⟨_, rfl⟩
  rw [← hN] at hsz hone ⊢
  have hi1 := hhi.one_le
  have hη : 0 < w - (hi - lo) := by grind
  obtain ⟨k, hk, hEk⟩ := dn_near hβ0 hlo hη
  obtain ⟨K, hK⟩ : ∃ K, K = L * k + 1 + n := ⟨_, rfl⟩
  -- how near the data are
  have hLr := Rat.natCast_nonneg (a := L)
  have hhL := Rat.pow_nonneg (n := L) (show 0 ≤ hi by grind)
  have hw0 : 0 ≤ w := by grind
  have near : ∀ j i, i < M j → -(hi * ((L : Rat) * hi ^ L * w)) ≤ bα α β L j i + (-1) * (tm β i * E (β * (j : Rat)) (K - i)) ∧ bα α β L j i + (-1) * (tm β i * E (β * (j : Rat)) (K - i)) ≤ hi * ((L : Rat) * hi ^ L * w) := by
    intro j i hij
    have hj : j ≤ L := Decidable.byContradiction fun e => by have := hsup j (by omega); omega
    have hin : i ≤ n := by have := hle j; omega
    rw [bα_in hj]
    -- the power of the quotient, and e's
    have a1 : E (β * (j : Rat)) (K - i) ≤ hi ^ j := Rat.le_trans (E_pow_le hβ0 _ j) (pow_le (E_nonneg hβ0 _) (hhi _) j)
    have hjk : j * k + 1 ≤ K - i := by
      have := Nat.mul_le_mul_right k hj
      omega
    have hbj := Rat.mul_nonneg hβ0 (Rat.natCast_nonneg (a := j))
    have l1 : 0 ≤ lo - (w - (hi - lo)) := by grind
    have a2 : (lo - (w - (hi - lo))) ^ j ≤ E (β * (j : Rat)) (K - i) := Rat.le_trans (Rat.le_trans (pow_le l1 hEk j) (E_le_pow hβ0 hk j)) (E_mono hbj hjk)
    have a3 : α ^ j ≤ hi ^ j := pow_le (Rat.le_trans l0 h1) h2 j
    have a4 : (lo - (w - (hi - lo))) ^ j ≤ α ^ j := pow_le l1 (by grind) j
    have a5 := pow_diff l1 (show lo - (w - (hi - lo)) ≤ hi by grind) hi1 j
    have a6 : (j : Rat) * hi ^ j * (hi - (lo - (w - (hi - lo)))) ≤ (L : Rat) * hi ^ L * w := by
      have e1 : hi - (lo - (w - (hi - lo))) = w := by grind
      rw [e1]
      have b1 : (j : Rat) ≤ (L : Rat) := Rat.natCast_le_natCast.2 hj
      have b2 := pow_exp_le hi1 hj
      have b3 := Rat.pow_nonneg (n := j) (show 0 ≤ hi by grind)
      have b4 := Rat.mul_le_mul_of_nonneg_right b1 b3
      have b5 := Rat.mul_le_mul_of_nonneg_left b2 hLr
      exact Rat.mul_le_mul_of_nonneg_right (Rat.le_trans b4 b5) hw0
    have t0 := tm_nonneg hβ0 i
    have t1 : tm β i ≤ hi := by
      have := hhi (i + 1)
      have h0 := E_nonneg hβ0 i
      have : E β i + tm β i ≤ hi := this
      grind
    generalize (L : Rat) * hi ^ L * w = z at *
    have z0 : 0 ≤ z := by grind
    have d1 : α ^ j - E (β * (j : Rat)) (K - i) ≤ z := by grind
    have d2 : -z ≤ α ^ j - E (β * (j : Rat)) (K - i) := by grind
    generalize α ^ j = p at *
    generalize E (β * (j : Rat)) (K - i) = q at *
    have m1 := Rat.mul_le_mul_of_nonneg_left d1 t0
    have m2 := Rat.mul_le_mul_of_nonneg_left d2 t0
    have m3 := Rat.mul_le_mul_of_nonneg_right t1 z0
    constructor <;> grind
  have e1 := dd_lin (r := fun j i => bα α β L j i + (-1) * (tm β i * E (β * (j : Rat)) (K - i))) (p := bα α β L) (q := fun j i => tm β i * E (β * (j : Rat)) (K - i)) (c := -1) (fun j i => rfl) hsz
  obtain ⟨n1, n2⟩ := dd_le hsz near
  obtain ⟨s1, s2⟩ := dd_small (K := K) hβ0 hsz hsup
  rw [e1] at n1 n2
  have s3 : E (β * (L : Rat)) (K - N) ≤ hi ^ L := Rat.le_trans (E_pow_le hβ0 _ L) (pow_le (E_nonneg hβ0 _) (hhi _) L)
  have s4 := Rat.mul_le_mul_of_nonneg_left s3 (tm_nonneg hβ0 N)
  have hD0 : 0 ≤ (fc L : Rat) ^ (2 * n + 1) * ((v : Rat) ^ L * ((c : Rat) ^ n * (fc n : Rat))) :=
    Rat.mul_nonneg (Rat.pow_nonneg Rat.natCast_nonneg) (Rat.mul_nonneg (Rat.pow_nonneg Rat.natCast_nonneg) (Rat.mul_nonneg (Rat.pow_nonneg Rat.natCast_nonneg) Rat.natCast_nonneg))
  generalize (fc L : Rat) ^ (2 * n + 1) * ((v : Rat) ^ L * ((c : Rat) ^ n * (fc n : Rat))) = D at *
  generalize dd (bα α β L) (N + 1) M = X at *
  generalize dd (fun j i => tm β i * E (β * (j : Rat)) (K - i)) (N + 1) M = Y at *
  generalize tm β N * hi ^ L = S at *
  generalize 2 ^ N * (hi * ((L : Rat) * hi ^ L * w)) = T at *
  rcases hone with h | h
  · have := Rat.mul_le_mul_of_nonneg_left (show X ≤ S + T by grind) hD0
    grind
  · have := Rat.mul_le_mul_of_nonneg_left (show -X ≤ S + T by grind) hD0
    grind
end Go.Proofs.YtmpdbmaokbhcjaaDoor.Ea

/-
  PLAIN: how near a quotient can be to e to a quotient: a bound for all numbers of some size.
-/
namespace Go.Proofs.YtmpdbmaokbhcjaaDoor.Ea

theorem fc_le (m : Nat) : ∀ n, n ≤ m → fc n ≤ m ^ n
  | 0, h => by rw [Nat.pow_zero]; exact Nat.le_refl _
  | n + 1, h => by
    show (n + 1) * fc n ≤ _
    rw [Nat.pow_succ, Nat.mul_comm]
    exact Nat.mul_le_mul (fc_le m n (by omega)) h
theorem tm_scale (c x : Rat) : ∀ k : Nat, tm (c * x) k = c ^ k * tm x k
  | 0 => by rw [Rat.pow_zero, Rat.one_mul]; rfl
  | k + 1 => by
    have h1 := tm_step (c * x) k
    have h2 := tm_step x k
    rw [tm_scale c x k] at h1
    have h3 := cast_pos k
    have : ((k + 1 : Nat) : Rat) * (tm (c * x) (k + 1) - c ^ (k + 1) * tm x (k + 1)) = 0 := by rw [Rat.pow_succ]; grind
    rcases Rat.mul_eq_zero.1 this with h | h
    · exact absurd h (Rat.ne_of_gt h3)
    · grind
theorem tm_arg {x y : Rat} (hx : 0 ≤ x) (h : x ≤ y) : ∀ k, tm x k ≤ tm y k
  | 0 => Rat.le_refl
  | k + 1 => by
    have h1 := tm_step x k
    have h2 := tm_step y k
    have h3 := cast_pos k
    have h4 := Rat.mul_le_mul_of_nonneg_left (tm_arg hx h k) hx
    have h5 := Rat.mul_le_mul_of_nonneg_right h (tm_nonneg (Rat.le_trans hx h) k)
    exact Rat.le_of_mul_le_mul_left (c := ((k + 1 : Nat) : Rat)) (by grind) h3
theorem up_one : Up 1 3 := by
  have := up_tail (x := 1) (K := 1) (by decide) (by rw [Rat.mul_one]; exact Rat.le_refl)
  have e : E 1 1 + 2 * tm 1 1 = 3 := by
    rw [E_one]
    have h := tm_step 1 0
    rw [show ((0 + 1 : Nat) : Rat) = 1 from rfl, show tm 1 0 = 1 from rfl] at h
    grind
  rw [e] at this
  exact this
theorem tm_nn (N : Nat) : tm (N : Rat) N ≤ 4 ^ N := by
  have h0 : (0 : Rat) ≤ (N : Rat) := Rat.natCast_nonneg
  have h1 := E_pow_le (x := 1) (by decide) (N + 1) N
  rw [Rat.one_mul] at h1
  have h2 := pow_le (E_nonneg (x := 1) (by decide) (N + 1)) (Rat.le_trans (up_one (N + 1)) (show (3 : Rat) ≤ 4 by decide)) N
  have h3 := E_nonneg h0 N
  have h4 : E (N : Rat) (N + 1) = E (N : Rat) N + tm (N : Rat) N := rfl
  grind
theorem tm_small {β : Rat} (h0 : 0 ≤ β) {t N : Nat} (h : β * 4 * 2 ^ t ≤ (N : Rat)) : tm β N * 2 ^ (t * N) ≤ 1 := by
  have h1 : (0 : Rat) ≤ 4 * 2 ^ t := Rat.mul_nonneg (by decide) (Rat.pow_nonneg (by decide))
  have h2 : (0 : Rat) ≤ (4 * 2 ^ t) * β := Rat.mul_nonneg h1 h0
  have h3 := tm_arg h2 (y := (N : Rat)) (by grind) N
  rw [tm_scale, mul_pow] at h3
  have h4 := Rat.le_trans h3 (tm_nn N)
  have h5 : (0 : Rat) < 4 ^ N := Rat.pow_pos (by decide)
  have h6 : ((2 : Rat) ^ t) ^ N = 2 ^ (t * N) := by
    clear h h1 h2 h3 h4 h5
    induction N with
    | zero => rw [Rat.pow_zero, Nat.mul_zero, Rat.pow_zero]
    | succ N ih => rw [Rat.pow_succ, ih, Nat.mul_succ, pow_add]
  rw [h6] at h4
  refine Rat.le_of_mul_le_mul_left (c := 4 ^ N) ?_ h5
  grind
theorem pow_pow (a : Rat) (m : Nat) : ∀ n : Nat, (a ^ m) ^ n = a ^ (m * n)
  | 0 => by rw [Rat.pow_zero, Nat.mul_zero, Rat.pow_zero]
  | n + 1 => by rw [Rat.pow_succ, pow_pow a m n, Nat.mul_succ, pow_add]
theorem two_nonneg (n : Nat) : (0 : Rat) ≤ 2 ^ n := Rat.pow_nonneg (by decide)
theorem two_pos (n : Nat) : (0 : Rat) < 2 ^ n := Rat.pow_pos (by decide)
theorem two_le {m n : Nat} (h : m ≤ n) : (2 : Rat) ^ m ≤ 2 ^ n := pow_exp_le (by decide) h
theorem cast_two (n : Nat) : ((2 ^ n : Nat) : Rat) = 2 ^ n := Rat.natCast_pow 2 n
theorem mul_le {a b c d : Rat} (h1 : a ≤ b) (h2 : c ≤ d) (ha : 0 ≤ b) (hc : 0 ≤ c) : a * c ≤ b * d := by
  have h3 := Rat.mul_le_mul_of_nonneg_right h1 hc
  have h4 := Rat.mul_le_mul_of_nonneg_left h2 ha
  grind
/-- in powers of two -/
theorem far_two {α β lo hi w : Rat} (u v a c : Nat) (hv : 0 < v) (hc : 0 < c) (hu : 0 < u) (ha : 0 < a) (hα : α * (v : Rat) = (u : Rat)) (hβ : β * (c : Rat) = (a : Rat)) {l ν h p k t L n N : Nat} (hL : L = 2 ^ l) (hn : n = 2 ^ ν) (hN : N = (L + 1) * n)
    (hlo : Dn β lo) (hhi : Up β hi) (l0 : 1 ≤ lo) (h1 : lo ≤ α) (h2 : α ≤ hi) (hw : hi - lo < w) (hw1 : w < 1)
    (bh : hi ≤ 2 ^ h) (bv : (v : Rat) ≤ 2 ^ p) (bc : (c : Rat) ≤ 2 ^ k) (bt : β * 4 * 2 ^ t ≤ (N : Rat)) (hA : l * L * (2 * n + 1) + p * L + k * n + ν * n + h * L + 1 ≤ t * N) :
    1 ≤ 2 ^ (l * L * (2 * n + 1) + p * L + k * n + ν * n + h * L + N + h + l + 1) * w := by
  have hn0 : 0 < n := by rw [hn]; exact Nat.two_pow_pos _
  have raw := far_raw u v a c hv hc hu ha hα hβ L n hn0 hlo hhi (by grind) h1 h2 hw (by grind)
  rw [← hN] at raw
  have hβ0 : 0 ≤ β := by
    refine Rat.not_lt.1 fun e => ?_
    have := Rat.mul_lt_mul_of_pos_right e (Rat.natCast_pos.2 hc)
    rw [hβ, Rat.zero_mul] at this
    have := Rat.natCast_nonneg (a := a)
    grind
  have hw0 : 0 ≤ w := by grind
  have hh0 : 0 ≤ hi := by grind
  -- the denominators
  have c1 : (fc L : Rat) ^ (2 * n + 1) ≤ 2 ^ (l * L * (2 * n + 1)) := by
    have g1 : fc L ≤ 2 ^ (l * L) := by
      have := fc_le L L (Nat.le_refl _)
      rw [show L ^ L = 2 ^ (l * L) by rw [Nat.pow_mul, ← hL]] at this
      exact this
    have g2 : (fc L : Rat) ≤ 2 ^ (l * L) := by rw [← cast_two]; exact Rat.natCast_le_natCast.2 g1
    rw [← pow_pow]
    exact pow_le Rat.natCast_nonneg g2 _
  have c2 : (v : Rat) ^ L ≤ 2 ^ (p * L) := by rw [← pow_pow]; exact pow_le Rat.natCast_nonneg bv _
  have c3 : (c : Rat) ^ n ≤ 2 ^ (k * n) := by rw [← pow_pow]; exact pow_le Rat.natCast_nonneg bc _
  have c4 : (fc n : Rat) ≤ 2 ^ (ν * n) := by
    have := fc_le n n (Nat.le_refl _)
    rw [show n ^ n = 2 ^ (ν * n) by rw [Nat.pow_mul, ← hn]] at this
    rw [← cast_two]; exact Rat.natCast_le_natCast.2 this
  have c5 : hi ^ L ≤ 2 ^ (h * L) := by rw [← pow_pow]; exact pow_le hh0 bh _
  have c6 : (L : Rat) ≤ 2 ^ l := by rw [hL, cast_two]; exact Rat.le_refl
  have D1 : (fc L : Rat) ^ (2 * n + 1) * ((v : Rat) ^ L * ((c : Rat) ^ n * (fc n : Rat))) ≤ 2 ^ (l * L * (2 * n + 1) + p * L + k * n + ν * n) := by
    rw [pow_add 2 (l * L * (2 * n + 1) + p * L + k * n) (ν * n), pow_add 2 (l * L * (2 * n + 1) + p * L) (k * n), pow_add 2 (l * L * (2 * n + 1)) (p * L), Rat.mul_assoc, Rat.mul_assoc]
    exact mul_le c1 (mul_le c2 (mul_le c3 c4 (two_nonneg _) Rat.natCast_nonneg) (two_nonneg _) (Rat.mul_nonneg (Rat.pow_nonneg Rat.natCast_nonneg) Rat.natCast_nonneg)) (two_nonneg _) (Rat.mul_nonneg (Rat.pow_nonneg Rat.natCast_nonneg) (Rat.mul_nonneg (Rat.pow_nonneg Rat.natCast_nonneg) Rat.natCast_nonneg))
  have D0 : 0 ≤ (fc L : Rat) ^ (2 * n + 1) * ((v : Rat) ^ L * ((c : Rat) ^ n * (fc n : Rat))) :=
    Rat.mul_nonneg (Rat.pow_nonneg Rat.natCast_nonneg) (Rat.mul_nonneg (Rat.pow_nonneg Rat.natCast_nonneg) (Rat.mul_nonneg (Rat.pow_nonneg Rat.natCast_nonneg) Rat.natCast_nonneg))
  have S1 := tm_small hβ0 bt
  have S0 := tm_nonneg hβ0 N
  have H0 : 0 ≤ hi ^ L := Rat.pow_nonneg hh0
  have T1 : hi * ((L : Rat) * hi ^ L * w) ≤ 2 ^ h * (2 ^ l * 2 ^ (h * L) * w) :=
    mul_le bh (Rat.mul_le_mul_of_nonneg_right (mul_le c6 c5 (two_nonneg _) H0) hw0) (two_nonneg _) (Rat.mul_nonneg (Rat.mul_nonneg Rat.natCast_nonneg H0) hw0)
  generalize hA2 : l * L * (2 * n + 1) + p * L + k * n + ν * n = A at *
  generalize (fc L : Rat) ^ (2 * n + 1) * ((v : Rat) ^ L * ((c : Rat) ^ n * (fc n : Rat))) = D at *
  generalize hi * ((L : Rat) * hi ^ L * w) = T at *
  have hT0 : 0 ≤ tm β N * hi ^ L := Rat.mul_nonneg S0 H0
  -- the first part is no more than a half
  have P1 : D * (tm β N * hi ^ L) * 2 ≤ 1 := by
    have q1 : D * hi ^ L * 2 ≤ 2 ^ (A + h * L + 1) := by
      rw [Rat.pow_succ, pow_add]
      exact Rat.mul_le_mul_of_nonneg_right (mul_le D1 c5 (two_nonneg _) H0) (by decide)
    have q2 : D * hi ^ L * 2 ≤ 2 ^ (t * N) := Rat.le_trans q1 (two_le hA)
    have q3 := Rat.mul_le_mul_of_nonneg_left q2 S0
    grind
  have P2 : D * (2 ^ N * T) ≤ 2 ^ A * (2 ^ N * (2 ^ h * (2 ^ l * 2 ^ (h * L) * w))) := by
    rcases Rat.le_total (a := 0) (b := T) with h | h
    · exact mul_le D1 (Rat.mul_le_mul_of_nonneg_left T1 (two_nonneg _)) (two_nonneg _) (Rat.mul_nonneg (two_nonneg _) h)
    · have z1 : D * (2 ^ N * T) ≤ 0 := by
        have := Rat.mul_nonneg D0 (Rat.mul_nonneg (two_nonneg N) (show 0 ≤ -T by grind))
        grind
      exact Rat.le_trans z1 (Rat.mul_nonneg (two_nonneg _) (Rat.mul_nonneg (two_nonneg _) (Rat.mul_nonneg (two_nonneg _) (Rat.mul_nonneg (Rat.mul_nonneg (two_nonneg _) (two_nonneg _)) hw0))))
  have e : (2 : Rat) ^ (A + h * L + N + h + l + 1) = 2 ^ A * 2 ^ (h * L) * 2 ^ N * 2 ^ h * 2 ^ l * 2 := by
    rw [Rat.pow_succ, pow_add, pow_add, pow_add, pow_add]
  rw [e]
  generalize (2 : Rat) ^ A = y1 at *
  generalize (2 : Rat) ^ (h * L) = y2 at *
  generalize (2 : Rat) ^ N = y3 at *
  generalize (2 : Rat) ^ h = y4 at *
  generalize (2 : Rat) ^ l = y5 at *
  grind
/-- so many bits are enough -/
def Qm : Nat := 140737488355328
theorem far {α β lo hi w : Rat} (u v a c : Nat) (hv : 0 < v) (hc : 0 < c) (hu : 0 < u) (ha : 0 < a) (hα : α * (v : Rat) = (u : Rat)) (hβ : β * (c : Rat) = (a : Rat)) {h p k b : Nat}
    (hlo : Dn β lo) (hhi : Up β hi) (l0 : 1 ≤ lo) (h1 : lo ≤ α) (h2 : α ≤ hi) (hw : hi - lo < w) (hw1 : w < 1)
    (bh : hi ≤ 2 ^ h) (bv : (v : Rat) ≤ 2 ^ p) (bc : (c : Rat) ≤ 2 ^ k) (bb : β ≤ 2 ^ b) (hh : h ≤ 10000) (hp : p ≤ 10000) (hk : k ≤ 12000) (hb : b ≤ 13) :
    1 ≤ 2 ^ Qm * w := by
  obtain ⟨l, hl⟩ : ∃ l : Nat, l = 12 := ⟨_, rfl⟩
  obtain ⟨ν, hν⟩ : ∃ l : Nat, l = 30 := ⟨_, rfl⟩
  obtain ⟨L, hL⟩ : ∃ L : Nat, L = 2 ^ l := ⟨_, rfl⟩
  obtain ⟨n, hn⟩ : ∃ n : Nat, n = 2 ^ ν := ⟨_, rfl⟩
  obtain ⟨N, hN⟩ : ∃ N : Nat, N = (L + 1) * n := ⟨_, rfl⟩
  obtain ⟨t, ht⟩ : ∃ t : Nat, t = 27 := ⟨_, rfl⟩
  have hL2 : L = 4096 := by rw [hL, hl]
  have hn2 : n = 1073741824 := by rw [hn, hν]
  have hN2 : N = 4399120252928 := by rw [hN, hL2, hn2]
  have hβ0 : 0 ≤ β := by
    refine Rat.not_lt.1 fun e => ?_
    have := Rat.mul_lt_mul_of_pos_right e (Rat.natCast_pos.2 hc)
    rw [hβ, Rat.zero_mul] at this
    have := Rat.natCast_nonneg (a := a)
    grind
  have bt : β * 4 * 2 ^ t ≤ (N : Rat) := by
    have g1 : β * 4 * 2 ^ t ≤ 2 ^ (b + 2 + t) := by
      rw [pow_add, pow_add]
      have : (2 : Rat) ^ 2 = 4 := by decide
      rw [this]
      exact Rat.mul_le_mul_of_nonneg_right (Rat.mul_le_mul_of_nonneg_right bb (by decide)) (two_nonneg _)
    refine Rat.le_trans g1 ?_
    rw [← cast_two]
    apply Rat.natCast_le_natCast.2
    have g2 : 2 ^ (b + 2 + t) ≤ 2 ^ 42 := Nat.pow_le_pow_right (by omega) (by omega)
    have g3 : (2 : Nat) ^ 42 = 4398046511104 := by decide
    omega
  have hA : l * L * (2 * n + 1) + p * L + k * n + ν * n + h * L + 1 ≤ t * N := by
    rw [hN2, hn2, hL2, hl, hν, ht]
    omega
  have := far_two u v a c hv hc hu ha hα hβ hL hn hN hlo hhi l0 h1 h2 hw hw1 bh bv bc bt hA
  have hQ : l * L * (2 * n + 1) + p * L + k * n + ν * n + h * L + N + h + l + 1 ≤ Qm := by
    rw [hN2, hn2, hL2, hl, hν, show Qm = 140737488355328 from rfl]
    omega
  generalize l * L * (2 * n + 1) + p * L + k * n + ν * n + h * L + N + h + l + 1 = q at *
  have g := two_le hQ
  have hw0 : 0 ≤ w := by grind
  have := Rat.mul_le_mul_of_nonneg_right g hw0
  grind
end Go.Proofs.YtmpdbmaokbhcjaaDoor.Ea

/-
  PLAIN: what is no more, and no less, than e to a quotient of any sign.
-/
namespace Go.Proofs.YtmpdbmaokbhcjaaDoor.Ea

/-- bounds as near as one likes -/
theorem gap {x η : Rat} (hx : 0 ≤ x) (hη : 0 < η) : ∃ n z, 0 < n ∧ Up x z ∧ z ≤ E x n + η := by
  obtain ⟨A, hA⟩ := nat_above (8 * x)
  obtain ⟨B, hB⟩ := nat_above (2 / η)
  obtain ⟨N, hN⟩ : ∃ N, N = A + B + 1 := ⟨_, rfl⟩
  have hAN : ((A : Nat) : Rat) ≤ (N : Rat) := Rat.natCast_le_natCast.2 (by omega)
  have hBN : ((B : Nat) : Rat) ≤ (N : Rat) := Rat.natCast_le_natCast.2 (by omega)
  have h1 := tm_small hx (t := 1) (N := N) (by rw [Rat.pow_one]; grind)
  have h0 := tm_nonneg hx N
  have h2 : (N : Rat) ≤ 2 ^ (1 * N) := by
    rw [Nat.one_mul, ← cast_two]
    exact Rat.natCast_le_natCast.2 (Nat.le_of_lt Nat.lt_two_pow_self)
  have h3 : 2 ≤ (N : Rat) * η := by
    have g1 : 2 / η * η = 2 := Rat.div_mul_cancel (Rat.ne_of_gt hη)
    have g2 := Rat.mul_le_mul_of_nonneg_right (Rat.le_trans hB hBN) (Rat.le_of_lt hη)
    grind
  refine ⟨N, _, by omega, up_tail hx (K := N) ?_, ?_⟩
  · have : ((N + 1 : Nat) : Rat) = (N : Rat) + 1 := Rat.natCast_add N 1
    rw [this]
    grind
  · have g3 : tm x N * (N : Rat) ≤ 1 := Rat.le_trans (Rat.mul_le_mul_of_nonneg_left h2 h0) h1
    have hN0 : (0 : Rat) < (N : Rat) := Rat.natCast_pos.2 (by omega)
    have g4 : 2 * tm x N ≤ η := by
      refine Rat.not_lt.1 fun e => ?_
      have := Rat.mul_lt_mul_of_pos_right e hN0
      grind
    grind
def LoP (p q a : Rat) : Prop := ∀ z, Up p z → ∀ n, a * E q n ≤ z
def HiP (p q b : Rat) : Prop := ∀ z, Up q z → ∀ n, E p n ≤ b * z
theorem E_pos {x : Rat} (hx : 0 ≤ x) {n : Nat} (hn : 0 < n) : 1 ≤ E x n := by have := E_mono hx hn; rw [E_one] at this; exact this
theorem HiP.pos {p q b : Rat} (hq : 0 ≤ q) (h : HiP p q b) : 0 < b := by
  obtain ⟨z, hz⟩ := up_any hq
  have h1 := h z hz 1
  rw [E_one] at h1
  have := hz.one_le
  refine Rat.not_le.1 fun e => ?_
  have := Rat.mul_nonneg (show 0 ≤ -b by grind) (show 0 ≤ z by grind)
  grind
theorem lo_hi_p {p q a b : Rat} (hq : 0 ≤ q) (hp : 0 ≤ p) (h1 : LoP p q a) (h2 : HiP p q b) : a ≤ b := by
  refine Rat.not_lt.1 fun e => ?_
  have hb := h2.pos hq
  have hη : 0 < (a - b) / (2 * b) := by rw [Rat.lt_div_iff (by grind)]; grind
  obtain ⟨n, z, hn, hz, hzn⟩ := gap hq hη
  have h3 : Up p (b * z) := fun m => h2 z hz m
  have h4 := h1 _ h3 n
  have h5 := E_pos hq hn
  have h6 : (a - b) / (2 * b) * (2 * b) = a - b := Rat.div_mul_cancel (Rat.ne_of_gt (by grind))
  generalize (a - b) / (2 * b) = η at *
  have h7 := Rat.mul_le_mul_of_nonneg_left hzn (Rat.le_of_lt hb)
  have h8 := Rat.mul_le_mul_of_nonneg_left h5 (show 0 ≤ a - b by grind)
  grind
theorem not_lo_p {p q b : Rat} (hq : 0 ≤ q) (hb : 0 ≤ b) (h : ¬ LoP p q b) : HiP p q b := by
  have : ∃ z n, Up p z ∧ z < b * E q n := by
    refine Classical.byContradiction fun hn => h fun z hz n => Rat.not_lt.1 fun e => hn ⟨z, n, hz, e⟩
  obtain ⟨z, n, hz, hlt⟩ := this
  intro z' hz' m
  have h1 := hz m
  have h2 := Rat.mul_le_mul_of_nonneg_left (hz' n) hb
  grind
theorem not_hi_p {p q b : Rat} (hb : 0 ≤ b) (h : ¬ HiP p q b) : LoP p q b := by
  have : ∃ z n, Up q z ∧ b * z < E p n := by
    refine Classical.byContradiction fun hn => h fun z hz n => Rat.not_lt.1 fun e => hn ⟨z, n, hz, e⟩
  obtain ⟨z, n, hz, hlt⟩ := this
  intro z' hz' m
  have h1 := hz' n
  have h2 := Rat.mul_le_mul_of_nonneg_left (hz m) hb
  grind
theorem hi_mul_p {p q b p' q' b' : Rat} (hp : 0 ≤ p) (hq : 0 ≤ q) (hp' : 0 ≤ p') (hq' : 0 ≤ q') (h : HiP p q b) (h' : HiP p' q' b') : HiP (p + p') (q + q') (b * b') := by
  intro z hz n
  have hb := h.pos hq
  have hb' := h'.pos hq'
  -- any two parts are no more than what stands above the sum
  have h1 : ∀ m k, E q m * E q' k ≤ z := fun m k => Rat.le_trans (E_le_add hq hq' m k) (hz _)
  have h2 := E_add_le hp hp' n
  rcases Nat.eq_zero_or_pos n with h0 | h0
  · subst h0
    have := hz.one_le
    have := Rat.mul_nonneg (Rat.mul_nonneg (Rat.le_of_lt hb) (Rat.le_of_lt hb')) (show 0 ≤ z by grind)
    show (0 : Rat) ≤ _
    exact this
  have hpn := E_pos hp h0
  have hpn' := E_pos hp' h0
  -- E p n by b is below e^q
  have g1 : ∀ k, E p n * E q' k ≤ b * z := by
    intro k
    rcases Nat.eq_zero_or_pos k with k0 | k0
    · subst k0
      rw [show E q' 0 = 0 from rfl, Rat.mul_zero]
      have := hz.one_le
      exact Rat.mul_nonneg (Rat.le_of_lt hb) (by grind)
    · have hk : 0 < E q' k := by have := E_pos hq' k0; grind
      have : Up q (z / E q' k) := fun m => by rw [le_div hk]; exact h1 m k
      have := h _ this n
      have e : z / E q' k * E q' k = z := Rat.div_mul_cancel (Rat.ne_of_gt hk)
      have := Rat.mul_le_mul_of_nonneg_right this (Rat.le_of_lt hk)
      rw [Rat.mul_assoc, e] at this
      exact this
  have hE : 0 < E p n := by grind
  have g2 : Up q' (b * z / E p n) := fun k => by rw [le_div hE]; have := g1 k; grind
  have g3 := h' _ g2 n
  have e : b * z / E p n * E p n = b * z := Rat.div_mul_cancel (Rat.ne_of_gt hE)
  have g4 := Rat.mul_le_mul_of_nonneg_right g3 (Rat.le_of_lt hE)
  rw [Rat.mul_assoc, e] at g4
  grind
theorem lo_mul_p {p q a p' q' a' : Rat} (hp : 0 ≤ p) (hq : 0 ≤ q) (hp' : 0 ≤ p') (hq' : 0 ≤ q') (ha : 0 ≤ a) (ha' : 0 ≤ a') (h : LoP p q a) (h' : LoP p' q' a') : LoP (p + p') (q + q') (a * a') := by
  intro z hz n
  have h1 : ∀ m k, E p m * E p' k ≤ z := fun m k => Rat.le_trans (E_le_add hp hp' m k) (hz _)
  have h2 := E_add_le hq hq' n
  have hz0 := hz.one_le
  -- a E q n is no more than e^p
  have g1 : ∀ k, a * E q n * E p' k ≤ z := by
    intro k
    rcases Nat.eq_zero_or_pos k with k0 | k0
    · subst k0
      rw [show E p' 0 = 0 from rfl, Rat.mul_zero]; grind
    · have hk : 0 < E p' k := by have := E_pos hp' k0; grind
      have : Up p (z / E p' k) := fun m => by rw [le_div hk]; exact h1 m k
      have := h _ this n
      rw [le_div hk] at this
      exact this
  have hA := Rat.mul_nonneg ha (E_nonneg hq n)
  have hB := Rat.mul_nonneg ha' (E_nonneg hq' n)
  have h3 := Rat.mul_le_mul_of_nonneg_left h2 (Rat.mul_nonneg ha ha')
  rcases Rat.le_iff_lt_or_eq.1 hA with hlt | heq
  · have g2 : Up p' (z / (a * E q n)) := fun k => by rw [le_div hlt]; have := g1 k; grind
    have g3 := h' _ g2 n
    rw [le_div hlt] at g3
    grind
  · have : a * a' * (E q n * E q' n) = (a * E q n) * (a' * E q' n) := by grind
    rw [this, ← heq, Rat.zero_mul] at h3
    grind
theorem lo_self {s : Rat} : LoP s s 1 := fun z hz n => by rw [Rat.one_mul]; exact hz n
theorem hi_self {s : Rat} : HiP s s 1 := fun z hz n => by rw [Rat.one_mul]; exact hz n
/-- with the same on both sides -/
theorem lo_shift {p q s a : Rat} (hp : 0 ≤ p) (hq : 0 ≤ q) (hs : 0 ≤ s) (ha : 0 ≤ a) : LoP (p + s) (q + s) a ↔ LoP p q a := by
  constructor
  · intro h
    refine Classical.byContradiction fun hn => ?_
    have : ∃ z n, Up p z ∧ z < a * E q n := by
      refine Classical.byContradiction fun hn2 => hn fun z hz n => Rat.not_lt.1 fun e => hn2 ⟨z, n, hz, e⟩
    obtain ⟨z, n, hz, hlt⟩ := this
    have hz1 := hz.one_le
    have hn0 : 0 < n := by
      rcases Nat.eq_zero_or_pos n with h0 | h0
      · subst h0
        rw [show E q 0 = 0 from rfl, Rat.mul_zero] at hlt
        grind
      · exact h0
    have hE : 0 < E q n := by have := E_pos hq hn0; grind
    have h1 : HiP p q (z / E q n) := fun z' hz' m => by
      have e : z / E q n * E q n = z := Rat.div_mul_cancel (Rat.ne_of_gt hE)
      have h2 : 0 ≤ z / E q n := by rw [le_div hE]; grind
      have h3 := Rat.mul_le_mul_of_nonneg_left (hz' n) h2
      have := hz m
      grind
    have h2 := hi_mul_p hp hq hs hs h1 hi_self
    rw [Rat.mul_one] at h2
    have h3 := lo_hi_p (by grind) (by grind) h h2
    rw [le_div hE] at h3
    grind
  · intro h
    have := lo_mul_p hp hq hs hs ha (by decide) h lo_self
    rw [Rat.mul_one] at this
    exact this
theorem hi_shift {p q s b : Rat} (hp : 0 ≤ p) (hq : 0 ≤ q) (hs : 0 ≤ s) : HiP (p + s) (q + s) b ↔ HiP p q b := by
  constructor
  · intro h
    refine Classical.byContradiction fun hn => ?_
    have hb := h.pos (by grind)
    have h1 := not_hi_p (Rat.le_of_lt hb) hn
    have : ∃ z n, Up q z ∧ b * z < E p n := by
      refine Classical.byContradiction fun hn2 => hn fun z hz n => Rat.not_lt.1 fun e => hn2 ⟨z, n, hz, e⟩
    obtain ⟨z, n, hz, hlt⟩ := this
    have hz1 := hz.one_le
    have hz0 : 0 < z := by grind
    have hpn := E_nonneg hp n
    have h1 : LoP p q (E p n / z) := fun z' hz' m => by
      have e : E p n / z * z = E p n := Rat.div_mul_cancel (Rat.ne_of_gt hz0)
      have h2 : 0 ≤ E p n / z := by rw [le_div hz0]; grind
      have h3 := Rat.mul_le_mul_of_nonneg_left (hz m) h2
      have := hz' n
      grind
    have h2 : 0 ≤ E p n / z := by rw [le_div hz0]; grind
    have h3 := lo_mul_p hp hq hs hs h2 (by decide) h1 lo_self
    rw [Rat.mul_one] at h3
    have h4 := lo_hi_p (by grind) (by grind) h3 h
    have e : E p n / z * z = E p n := Rat.div_mul_cancel (Rat.ne_of_gt hz0)
    have := Rat.mul_le_mul_of_nonneg_right h4 (Rat.le_of_lt hz0)
    grind
  · intro h
    have := hi_mul_p hp hq hs hs h hi_self
    rw [Rat.mul_one] at this
    exact this
/-- a is no more, b no less than e to x -/
def Lo (x a : Rat) : Prop := a ≤ 0 ∨ ∃ p q, 0 ≤ p ∧ 0 ≤ q ∧ x + q = p ∧ LoP p q a
def Hi (x b : Rat) : Prop := ∃ p q, 0 ≤ p ∧ 0 ≤ q ∧ x + q = p ∧ HiP p q b
theorem lo_iff {x a p q : Rat} (hp : 0 ≤ p) (hq : 0 ≤ q) (h : x + q = p) (ha : 0 < a) : Lo x a ↔ LoP p q a := by
  constructor
  · rintro (h1 | ⟨p', q', hp', hq', h', h1⟩)
    · grind
    · have h2 := (lo_shift hp' hq' hq (Rat.le_of_lt ha)).2 h1
      rw [show p' + q = p + q' by grind, show q' + q = q + q' by grind] at h2
      exact (lo_shift hp hq hq' (Rat.le_of_lt ha)).1 h2
  · exact fun h1 => Or.inr ⟨p, q, hp, hq, h, h1⟩
theorem hi_iff {x b p q : Rat} (hp : 0 ≤ p) (hq : 0 ≤ q) (h : x + q = p) : Hi x b ↔ HiP p q b := by
  constructor
  · rintro ⟨p', q', hp', hq', h', h1⟩
    have h2 := (hi_shift hp' hq' hq).2 h1
    rw [show p' + q = p + q' by grind, show q' + q = q + q' by grind] at h2
    exact (hi_shift hp hq hq').1 h2
  · exact fun h1 => ⟨p, q, hp, hq, h, h1⟩
theorem parts (x : Rat) : ∃ p q, 0 ≤ p ∧ 0 ≤ q ∧ x + q = p := by
  rcases Rat.le_total (a := 0) (b := x) with h | h
  · exact ⟨x, 0, h, Rat.le_refl, by grind⟩
  · exact ⟨0, -x, Rat.le_refl, by grind, by grind⟩
theorem Hi.pos {x b : Rat} (h : Hi x b) : 0 < b := by
  obtain ⟨p, q, hp, hq, _, h1⟩ := h
  exact h1.pos hq
theorem lo_hi {x a b : Rat} (h1 : Lo x a) (h2 : Hi x b) : a ≤ b := by
  have hb := h2.pos
  rcases Rat.le_total (a := a) (b := 0) with h | h
  · grind
  · rcases Rat.le_iff_lt_or_eq.1 h with h | h
    · obtain ⟨p, q, hp, hq, he⟩ := parts x
      exact lo_hi_p hq hp ((lo_iff hp hq he h).1 h1) ((hi_iff hp hq he).1 h2)
    · grind
theorem not_lo {x b : Rat} (h : ¬ Lo x b) : Hi x b := by
  have hb : 0 < b := Rat.not_le.1 fun e => h (Or.inl e)
  obtain ⟨p, q, hp, hq, he⟩ := parts x
  exact (hi_iff hp hq he).2 (not_lo_p hq (Rat.le_of_lt hb) fun h1 => h ((lo_iff hp hq he hb).2 h1))
theorem not_hi {x b : Rat} (h : ¬ Hi x b) : Lo x b := by
  rcases Rat.le_total (a := b) (b := 0) with hb | hb
  · exact Or.inl hb
  · rcases Rat.le_iff_lt_or_eq.1 hb with h0 | h0
    · obtain ⟨p, q, hp, hq, he⟩ := parts x
      exact (lo_iff hp hq he h0).2 (not_hi_p hb fun h1 => h ((hi_iff hp hq he).2 h1))
    · exact Or.inl (by grind)
theorem lo_mul {x y a b : Rat} (ha : 0 ≤ a) (hb : 0 ≤ b) (h1 : Lo x a) (h2 : Lo y b) : Lo (x + y) (a * b) := by
  rcases Rat.le_iff_lt_or_eq.1 ha with ha' | ha'
  · rcases Rat.le_iff_lt_or_eq.1 hb with hb' | hb'
    · obtain ⟨p, q, hp, hq, he⟩ := parts x
      obtain ⟨p', q', hp', hq', he'⟩ := parts y
      exact (lo_iff (p := p + p') (q := q + q') (by grind) (by grind) (by grind) (Rat.mul_pos ha' hb')).2 (lo_mul_p hp hq hp' hq' ha hb ((lo_iff hp hq he ha').1 h1) ((lo_iff hp' hq' he' hb').1 h2))
    · exact Or.inl (by rw [← hb', Rat.mul_zero]; exact Rat.le_refl)
  · exact Or.inl (by rw [← ha', Rat.zero_mul]; exact Rat.le_refl)
theorem hi_mul {x y a b : Rat} (h1 : Hi x a) (h2 : Hi y b) : Hi (x + y) (a * b) := by
  obtain ⟨p, q, hp, hq, he⟩ := parts x
  obtain ⟨p', q', hp', hq', he'⟩ := parts y
  exact (hi_iff (p := p + p') (q := q + q') (by grind) (by grind) (by grind)).2 (hi_mul_p hp hq hp' hq' ((hi_iff hp hq he).1 h1) ((hi_iff hp' hq' he').1 h2))
theorem Lo.le {x a a' : Rat} (h : Lo x a) (h1 : a' ≤ a) : Lo x a' := by
  rcases Rat.le_total (a := a') (b := 0) with hb | hb
  · exact Or.inl hb
  · rcases h with h | ⟨p, q, hp, hq, he, h2⟩
    · exact Or.inl (by grind)
    · exact Or.inr ⟨p, q, hp, hq, he, fun z hz n => by
        have := Rat.mul_le_mul_of_nonneg_right h1 (E_nonneg hq n)
        have := h2 z hz n
        grind⟩
theorem Hi.le {x b b' : Rat} (h : Hi x b) (h1 : b ≤ b') : Hi x b' := by
  obtain ⟨p, q, hp, hq, he, h2⟩ := h
  exact ⟨p, q, hp, hq, he, fun z hz n => by
    have := Rat.mul_le_mul_of_nonneg_right h1 (show 0 ≤ z by have := hz.one_le; grind)
    have := h2 z hz n
    grind⟩
theorem lo_dn {x a : Rat} (hx : 0 ≤ x) (h : Dn x a) : Lo x a := by
  rcases Rat.le_total (a := a) (b := 0) with hb | hb
  · exact Or.inl hb
  · refine Or.inr ⟨x, 0, hx, Rat.le_refl, by grind, fun z hz n => ?_⟩
    cases n with
    | zero => rw [show E 0 0 = 0 from rfl, Rat.mul_zero]; have := hz.one_le; grind
    | succ n => rw [E_zero, Rat.mul_one]; exact h z hz
theorem hi_up {x b : Rat} (hx : 0 ≤ x) (h : Up x b) : Hi x b := by
  refine ⟨x, 0, hx, Rat.le_refl, by grind, fun z hz n => ?_⟩
  have h1 := hz.one_le
  have h2 := h n
  have h3 := h.one_le
  have := Rat.mul_nonneg (show 0 ≤ b by grind) (show 0 ≤ z - 1 by grind)
  grind
theorem up_hi {x b : Rat} (hx : 0 ≤ x) (h : Hi x b) : Up x b := by
  have h1 := (hi_iff hx (Rat.le_refl (a := 0)) (by grind)).1 h
  intro n
  have h0 : Up 0 1 := fun n => by
    cases n with
    | zero => show (0 : Rat) ≤ 1; decide
    | succ n => rw [E_zero]; exact Rat.le_refl
  have := h1 1 h0 n
  grind
theorem dn_lo {x a : Rat} (hx : 0 ≤ x) (h : Lo x a) : Dn x a := fun z hz => lo_hi h (hi_up hx hz)
/-- turned -/
theorem hi_neg {x a : Rat} (ha : 0 < a) (h : Lo x a) : Hi (-x) (1 / a) := by
  obtain ⟨p, q, hp, hq, he⟩ := parts x
  have h1 := (lo_iff hp hq he ha).1 h
  refine ⟨q, p, hq, hp, by grind, fun z hz n => ?_⟩
  have h2 := h1 z hz n
  have e : 1 / a * a = 1 := Rat.div_mul_cancel (Rat.ne_of_gt ha)
  have h3 : 0 ≤ 1 / a := by rw [le_div ha]; grind
  have := Rat.mul_le_mul_of_nonneg_left h2 h3
  rw [← Rat.mul_assoc, e, Rat.one_mul] at this
  exact this
theorem lo_neg {x b : Rat} (h : Hi x b) : Lo (-x) (1 / b) := by
  have hb := h.pos
  obtain ⟨p, q, hp, hq, he⟩ := parts x
  have h1 := (hi_iff hp hq he).1 h
  refine Or.inr ⟨q, p, hq, hp, by grind, fun z hz n => ?_⟩
  have h2 := h1 z hz n
  have e : 1 / b * b = 1 := Rat.div_mul_cancel (Rat.ne_of_gt hb)
  have h3 : 0 ≤ 1 / b := by rw [le_div hb]; grind
  have := Rat.mul_le_mul_of_nonneg_left h2 h3
  rw [← Rat.mul_assoc, e, Rat.one_mul] at this
  exact this
/-- more than 1 and x -/
theorem lo_line (x : Rat) : Lo x (1 + x) := by
  rcases Rat.le_total (a := 0) (b := x) with h | h
  · refine lo_dn h ((dn_E x 2).le ?_)
    show 1 + x ≤ 0 + tm x 0 + tm x 1
    have h1 := tm_step x 0
    rw [show ((0 + 1 : Nat) : Rat) = 1 from rfl] at h1
    have : tm x 0 = 1 := rfl
    rw [this] at h1 ⊢
    grind
  · rcases Rat.le_total (a := 1 + x) (b := 0) with h0 | h0
    · exact Or.inl h0
    · rcases Rat.le_iff_lt_or_eq.1 h0 with h2 | h2
      · obtain ⟨y, hy⟩ : ∃ y, y = -x := ⟨_, rfl⟩
        have hy0 : 0 ≤ y := by grind
        have key : ∀ n, E y n * (1 - y) ≤ 1 - y ^ n ∧ tm y n ≤ y ^ n := by
          intro n
          induction n with
          | zero => exact ⟨by show (0 : Rat) * (1 - y) ≤ 1 - y ^ 0; rw [Rat.pow_zero]; grind, by rw [Rat.pow_zero]; exact Rat.le_refl⟩
          | succ n ih =>
            obtain ⟨i1, i2⟩ := ih
            have t := tm_step y n
            have t0 := tm_nonneg hy0 (n + 1)
            have hp := Rat.pow_nonneg (n := n) hy0
            constructor
            · show (E y n + tm y n) * (1 - y) ≤ _
              rw [Rat.pow_succ]
              have := Rat.mul_le_mul_of_nonneg_right i2 (show 0 ≤ 1 - y by grind)
              grind
            · rw [Rat.pow_succ]
              have h3 := Rat.mul_le_mul_of_nonneg_left i2 hy0
              have h4 : (1 : Rat) ≤ ((n + 1 : Nat) : Rat) := Rat.natCast_le_natCast.2 (show 1 ≤ n + 1 by omega)
              have h5 := Rat.mul_le_mul_of_nonneg_right h4 t0
              grind
        have hu : Up y (1 / (1 + x)) := fun n => by
          rw [le_div h2]
          have h1 := (key n).1
          have h3 := Rat.pow_nonneg (n := n) hy0
          have h4 : 1 - y = 1 + x := by grind
          rw [h4] at h1
          grind
        have := lo_neg (hi_up hy0 hu)
        have e1 : -y = x := by grind
        have e2 : 1 / (1 / (1 + x)) = 1 + x := by
          rw [Rat.div_def, Rat.div_def, Rat.one_mul, Rat.one_mul, Rat.inv_inv]
        rw [e1, e2] at this
        exact this
      · exact Or.inl (by grind)
theorem lo_mono {x y a : Rat} (h : Lo x a) (hxy : x ≤ y) : Lo y a := by
  rcases Rat.le_total (a := a) (b := 0) with hb | hb
  · exact Or.inl hb
  · have h1 := lo_mul hb (by decide) h ((lo_line (y - x)).le (a' := 1) (by grind))
    rw [Rat.mul_one, show x + (y - x) = y by grind] at h1
    exact h1
theorem hi_mono {x y b : Rat} (h : Hi y b) (hxy : x ≤ y) : Hi x b := by
  refine Classical.byContradiction fun hn => ?_
  -- strictly less than e to x
  have h1 := lo_mono (not_hi hn) hxy
  have hb := h.pos
  -- both at once: then x below y is no matter
  have h2 : Lo (x - y) 1 := by
    have := lo_mul (Rat.le_of_lt hb) (by rw [le_div hb]; grind) (not_hi hn) (lo_neg h)
    have e : b * (1 / b) = 1 := by rw [Rat.mul_comm]; exact Rat.div_mul_cancel (Rat.ne_of_gt hb)
    rw [e, show x + -y = x - y by grind] at this
    exact this
  have h3 := hi_neg (by decide) h2
  rw [show -(x - y) = y - x by grind] at h3
  have h4 := lo_hi (lo_line (y - x)) h3
  have e1 : (1 : Rat) / 1 = 1 := by have := Rat.div_mul_cancel (a := 1) (b := 1) (by decide); grind
  rw [e1] at h4
  have : x = y := by grind
  subst this
  exact hn h
/-- e to less is less -/
theorem lo_hi_lt {x y a b : Rat} (h : x < y) (ha : 0 < a) (h1 : Lo x a) (h2 : Hi y b) : a < b := by
  have h3 := lo_mul (Rat.le_of_lt ha) (by grind) h1 (lo_line (y - x))
  rw [show x + (y - x) = y by grind] at h3
  have h4 := lo_hi h3 h2
  have := Rat.mul_pos ha (show 0 < y - x by grind)
  grind
theorem lo_zero : Lo 0 1 := (lo_line 0).le (by grind)
theorem hi_zero : Hi 0 1 := by
  have := hi_neg (by decide) lo_zero
  have e1 : (1 : Rat) / 1 = 1 := by have := Rat.div_mul_cancel (a := 1) (b := 1) (by decide); grind
  rw [e1, Rat.neg_zero] at this
  exact this
end Go.Proofs.YtmpdbmaokbhcjaaDoor.Ea

/-
  PLAIN: twice the inverse hyperbolic tangent, summed up, between logarithms.
-/
namespace Go.Proofs.YtmpdbmaokbhcjaaDoor.Ea

/-- twice the sum of z^(2k+1) by 2k+1, k below K -/
def ah (z : Rat) : Nat → Rat
  | 0 => 0
  | k + 1 => ah z k + 2 * (z ^ (2 * k + 1) / ((2 * k + 1 : Nat) : Rat))
theorem hi_lim {x b : Rat} (hb : 0 < b) (h : ∀ η, 0 < η → Hi x (b + η)) : Hi x b := by
  refine Classical.byContradiction fun hn => ?_
  obtain ⟨p, q, hp, hq, he⟩ := parts x
  have hn2 : ¬ HiP p q b := fun e => hn ((hi_iff hp hq he).2 e)
  have : ∃ z n, Up q z ∧ b * z < E p n := by
    refine Classical.byContradiction fun hn3 => hn2 fun z hz n => Rat.not_lt.1 fun e => hn3 ⟨z, n, hz, e⟩
  obtain ⟨z, n, hz, hlt⟩ := this
  have hz0 : 0 < z := by have := hz.one_le; grind
  have hη : 0 < (E p n - b * z) / (2 * z) := by rw [Rat.lt_div_iff (by grind)]; grind
  have h1 := (hi_iff hp hq he).1 (h _ hη) z hz n
  have h2 : (E p n - b * z) / (2 * z) * (2 * z) = E p n - b * z := Rat.div_mul_cancel (Rat.ne_of_gt (by grind))
  generalize (E p n - b * z) / (2 * z) = η at *
  grind
theorem lo_lim {x a : Rat} (h : ∀ η, 0 < η → Lo x (a - η)) : Lo x a := by
  refine Classical.byContradiction fun hn => ?_
  have hb : 0 < a := Rat.not_le.1 fun e => hn (Or.inl e)
  obtain ⟨p, q, hp, hq, he⟩ := parts x
  have hn2 : ¬ LoP p q a := fun e => hn ((lo_iff hp hq he hb).2 e)
  have : ∃ z n, Up p z ∧ z < a * E q n := by
    refine Classical.byContradiction fun hn3 => hn2 fun z hz n => Rat.not_lt.1 fun e => hn3 ⟨z, n, hz, e⟩
  obtain ⟨z, n, hz, hlt⟩ := this
  have hz1 := hz.one_le
  have hE : 0 < E q n := by
    rcases Rat.le_iff_lt_or_eq.1 (E_nonneg hq n) with h | h
    · exact h
    · rw [← h, Rat.mul_zero] at hlt; grind
  have hη : 0 < (a * E q n - z) / (2 * E q n) := by rw [Rat.lt_div_iff (by grind)]; grind
  have h2 : (a * E q n - z) / (2 * E q n) * (2 * E q n) = a * E q n - z := Rat.div_mul_cancel (Rat.ne_of_gt (by grind))
  have h1 := h _ hη
  generalize (a * E q n - z) / (2 * E q n) = η at *
  have h3 : 0 < a - η := by
    refine Rat.not_le.1 fun e => ?_
    have := Rat.mul_le_mul_of_nonneg_right e (Rat.le_of_lt hE)
    grind
  have := (lo_iff hp hq he h3).1 h1 z hz n
  grind
theorem hi_recip {x : Rat} (h : x < 1) : Hi x (1 / (1 - x)) := by
  have h1 := lo_line (-x)
  rw [show 1 + -x = 1 - x by grind] at h1
  have := hi_neg (show 0 < 1 - x by grind) h1
  rw [Rat.neg_neg] at this
  exact this
/-- (1+z) by (1-z), by a factor A: e to U is no more (no less) -/
theorem step_hi {x y h u A s : Rat} (hx : 0 ≤ x) (hy : y = x + h) (hy3 : 3 * y ≤ 1) (h0 : 0 ≤ h) (h1 : 100 * h ≤ 1) (hu : u * (1 - y * y) ≤ 2 * h) (hs : 0 ≤ s) (hA : A * (1 - x) = (1 + x) * s) {U : Rat} (hU : Hi U A) :
    ∃ B, B * (1 - y) = (1 + y) * (s * (1 + 5 * (h * h))) ∧ Hi (U + u) B := by
  have hyy : y * y ≤ 1 / 9 := by
    rw [le_div (by decide)]
    have := Rat.mul_nonneg (show 0 ≤ 1 - 3 * y by grind) (show 0 ≤ 1 + 3 * y by grind)
    grind
  have hu1 : u < 1 := by
    refine Rat.not_le.1 fun e => ?_
    have := Rat.mul_le_mul_of_nonneg_right e (show 0 ≤ 1 - y * y by grind)
    grind
  have hp : 0 < 1 - u := by grind
  have hq : 0 < 1 - y := by grind
  refine ⟨(1 + y) * (s * (1 + 5 * (h * h))) / (1 - y), Rat.div_mul_cancel (Rat.ne_of_gt hq), ?_⟩
  refine (hi_mul hU (hi_recip hu1)).le ?_
  rw [le_div hq]
  have e1 : 1 / (1 - u) * (1 - u) = 1 := Rat.div_mul_cancel (Rat.ne_of_gt hp)
  have hr : 0 < 1 / (1 - u) := by rw [Rat.lt_div_iff hp]; grind
  generalize 1 / (1 - u) = r at *
  -- all times (1-x)(1-u)(1-y²)
  have hw : 0 < (1 - x) * (1 - u) := Rat.mul_pos (by grind) hp
  have hw2 : 0 < 1 - y * y := by grind
  have main : (1 + x) * ((1 - y) * (1 - y)) ≤ (1 - x) * (1 + 5 * (h * h)) * (1 - y * y - 2 * h) := by
    -- what is more is h²(5(1-x)(1-y²-2h) - 2)
    have a1 : (1 - x) * (1 - y * y - 2 * h) * 5 ≥ 2 := by
      have b1 : 2 / 3 ≤ 1 - x := by rw [Rat.div_def]; grind
      have b2 : 3 / 4 ≤ 1 - y * y - 2 * h := by grind
      have := Rat.mul_nonneg (show 0 ≤ 1 - x - 2 / 3 by grind) (show 0 ≤ 1 - y * y - 2 * h by grind)
      grind
    have a2 := Rat.mul_nonneg (Rat.mul_nonneg h0 h0) (show 0 ≤ (1 - x) * (1 - y * y - 2 * h) * 5 - 2 by grind)
    have hx2 : x = y - h := by grind
    subst hx2
    grind
  have hu2 : 1 - y * y - 2 * h ≤ (1 - u) * (1 - y * y) := by grind
  have m1 := Rat.mul_le_mul_of_nonneg_left hu2 (show 0 ≤ (1 - x) * (1 + 5 * (h * h)) by
    have := Rat.mul_nonneg h0 h0
    exact Rat.mul_nonneg (by grind) (by grind))
  have m2 : (1 + x) * ((1 - y) * (1 - y)) ≤ (1 - x) * (1 + 5 * (h * h)) * ((1 - u) * (1 - y * y)) := Rat.le_trans main m1
  -- divide by 1 - y
  have m3 : (1 + x) * (1 - y) ≤ (1 - x) * (1 + 5 * (h * h)) * ((1 - u) * (1 + y)) := by
    refine Rat.le_of_mul_le_mul_right (c := 1 - y) ?_ hq
    grind
  have m4 := Rat.mul_le_mul_of_nonneg_left m3 hs
  refine Rat.le_of_mul_le_mul_right (c := (1 - x) * (1 - u)) ?_ hw
  have e2 : A * r * (1 - y) * ((1 - x) * (1 - u)) = (A * (1 - x)) * (r * (1 - u)) * (1 - y) := by grind
  rw [e2, hA, e1]
  grind
theorem step_lo {x y h u A t : Rat} (hx : 0 ≤ x) (hy : y = x + h) (hy3 : 3 * y ≤ 1) (h0 : 0 ≤ h) (h1 : 100 * h ≤ 1) (hu : 2 * h ≤ u * (1 - x * x)) (ht : 0 < t) (hA0 : 0 ≤ A) (hA : A * (1 - x) * t = 1 + x) {U : Rat} (hU : Lo U A) :
    ∃ B, 0 ≤ B ∧ B * (1 - y) * (t * (1 + 5 * (h * h))) = 1 + y ∧ Lo (U + u) B := by
  have hxx : x * x ≤ 1 / 9 := by
    rw [le_div (by decide)]
    have := Rat.mul_nonneg (show 0 ≤ 1 - 3 * x by grind) (show 0 ≤ 1 + 3 * x by grind)
    grind
  have hw2 : 0 < 1 - x * x := by grind
  have hu0 : 0 ≤ u := by
    refine Rat.not_lt.1 fun e => ?_
    have := Rat.mul_lt_mul_of_pos_right e hw2
    grind
  have hq : 0 < 1 - y := by grind
  have hh := Rat.mul_nonneg h0 h0
  have hk : 0 < 1 + 5 * (h * h) := by grind
  have hP : 0 < (1 - y) * (t * (1 + 5 * (h * h))) := Rat.mul_pos hq (Rat.mul_pos ht hk)
  have hB0 : 0 ≤ (1 + y) / ((1 - y) * (t * (1 + 5 * (h * h)))) := by rw [le_div hP, Rat.zero_mul]; grind
  have e0 : (1 + y) / ((1 - y) * (t * (1 + 5 * (h * h)))) * ((1 - y) * (t * (1 + 5 * (h * h)))) = 1 + y := Rat.div_mul_cancel (Rat.ne_of_gt hP)
  generalize (1 + y) / ((1 - y) * (t * (1 + 5 * (h * h)))) = B at *
  refine ⟨B, hB0, by rw [Rat.mul_assoc]; exact e0, ?_⟩
  refine (lo_mul hA0 (by grind) hU (lo_line u)).le ?_
  have main : (1 + y) * ((1 - x) * (1 - x)) ≤ (1 - y) * (1 - x * x + 2 * h) * (1 + 5 * (h * h)) := by
    have a1 : (1 - y) * (1 - x * x + 2 * h) * 5 ≥ 2 := by
      have b1 : 2 / 3 ≤ 1 - y := by rw [Rat.div_def]; grind
      have b2 : 3 / 4 ≤ 1 - x * x + 2 * h := by grind
      have := Rat.mul_nonneg (show 0 ≤ 1 - y - 2 / 3 by grind) (show 0 ≤ 1 - x * x + 2 * h by grind)
      grind
    have a2 := Rat.mul_nonneg hh (show 0 ≤ (1 - y) * (1 - x * x + 2 * h) * 5 - 2 by grind)
    subst hy
    grind
  have hu2 : 1 - x * x + 2 * h ≤ (1 + u) * (1 - x * x) := by grind
  have m1 := Rat.mul_le_mul_of_nonneg_left hu2 (show 0 ≤ (1 - y) * (1 + 5 * (h * h)) by exact Rat.mul_nonneg (by grind) (by grind))
  have m2 : (1 + y) * (1 - x) ≤ (1 - y) * (1 + 5 * (h * h)) * ((1 + u) * (1 + x)) := by
    refine Rat.le_of_mul_le_mul_right (c := 1 - x) ?_ (show 0 < 1 - x by grind)
    grind
  refine Rat.le_of_mul_le_mul_right (c := ((1 - y) * (t * (1 + 5 * (h * h)))) * (1 - x)) ?_ (Rat.mul_pos hP (by grind))
  have e2 : A * (1 + u) * (((1 - y) * (t * (1 + 5 * (h * h)))) * (1 - x)) = (A * (1 - x) * t) * ((1 - y) * (1 + 5 * (h * h)) * (1 + u)) := by grind
  have e3 : B * (((1 - y) * (t * (1 + 5 * (h * h)))) * (1 - x)) = (B * ((1 - y) * (t * (1 + 5 * (h * h))))) * (1 - x) := by grind
  rw [e2, hA, e3, e0]
  grind
/-- so many steps -/
theorem steps_hi {f : Rat → Rat} {h : Rat} (h0 : 0 ≤ h) (h1 : 100 * h ≤ 1) (hf0 : f 0 = 0) (hf : ∀ x y, 0 ≤ x → x ≤ y → 3 * y ≤ 1 → (f y - f x) * (1 - y * y) ≤ 2 * (y - x)) : ∀ i : Nat, 3 * ((i : Rat) * h) ≤ 1 →
    ∃ B, B * (1 - (i : Rat) * h) = (1 + (i : Rat) * h) * (1 + 5 * (h * h)) ^ i ∧ Hi (f ((i : Rat) * h)) B
  | 0, _ => by
    refine ⟨1, ?_, ?_⟩
    · rw [show ((0 : Nat) : Rat) = 0 from rfl, Rat.pow_zero]; grind
    · rw [show ((0 : Nat) : Rat) = 0 from rfl, Rat.zero_mul, hf0]; exact hi_zero
  | i + 1, hi => by
    have hc : ((i + 1 : Nat) : Rat) * h = (i : Rat) * h + h := by rw [Rat.natCast_add]; show ((i : Rat) + 1) * h = _; grind
    rw [hc] at hi ⊢
    obtain ⟨A, hA, hU⟩ := steps_hi h0 h1 hf0 hf i (by grind)
    have hx0 := Rat.mul_nonneg (Rat.natCast_nonneg (a := i)) h0
    have hs := Rat.pow_nonneg (n := i) (show 0 ≤ 1 + 5 * (h * h) by have := Rat.mul_nonneg h0 h0; grind)
    obtain ⟨B, hB, hV⟩ := step_hi (u := f ((i : Rat) * h + h) - f ((i : Rat) * h)) hx0 rfl hi h0 h1 (by
      have := hf ((i : Rat) * h) ((i : Rat) * h + h) hx0 (by grind) hi
      grind) hs hA hU
    refine ⟨B, by rw [Rat.pow_succ]; exact hB, ?_⟩
    rw [show f ((i : Rat) * h) + (f ((i : Rat) * h + h) - f ((i : Rat) * h)) = f ((i : Rat) * h + h) by grind] at hV
    exact hV
theorem pow_bern {ε : Rat} (hε : 0 ≤ ε) : ∀ m : Nat, (m : Rat) * ε ≤ 1 / 2 → (1 + ε) ^ m ≤ 1 + 2 * ((m : Rat) * ε)
  | 0, _ => by rw [Rat.pow_zero, show ((0 : Nat) : Rat) = 0 from rfl]; grind
  | m + 1, h => by
    have hc : ((m + 1 : Nat) : Rat) = (m : Rat) + 1 := Rat.natCast_add m 1
    rw [hc] at h ⊢
    have hm := Rat.mul_nonneg (Rat.natCast_nonneg (a := m)) hε
    have ih := pow_bern hε m (by grind)
    rw [Rat.pow_succ]
    have h2 := Rat.mul_le_mul_of_nonneg_right ih (show 0 ≤ 1 + ε by grind)
    have h3 := Rat.mul_nonneg hε (show 0 ≤ 1 / 2 - (m : Rat) * ε by grind)
    grind
/-- steps enough -/
theorem many {z η : Rat} (hz : 0 ≤ z) (hz3 : 3 * z ≤ 1) (hη : 0 < η) : ∃ (m : Nat) (h : Rat), 0 < m ∧ 100 * h ≤ 1 ∧ 0 ≤ h ∧ (m : Rat) * h = z ∧ (1 + 5 * (h * h)) ^ m ≤ 1 + η := by
  obtain ⟨A, hA⟩ := nat_above (10 / η)
  obtain ⟨m, hm⟩ : ∃ m, m = A + 100 := ⟨_, rfl⟩
  have hmr : (100 : Rat) ≤ (m : Rat) := Rat.natCast_le_natCast.2 (show 100 ≤ m by omega)
  have hmA : (A : Rat) ≤ (m : Rat) := Rat.natCast_le_natCast.2 (show A ≤ m by omega)
  have hm0 : (0 : Rat) < (m : Rat) := by grind
  have e1 : z / (m : Rat) * (m : Rat) = z := Rat.div_mul_cancel (Rat.ne_of_gt hm0)
  have hh0 : 0 ≤ z / (m : Rat) := by rw [le_div hm0]; grind
  have e2 : 10 / η * η = 10 := Rat.div_mul_cancel (Rat.ne_of_gt hη)
  have g2 := Rat.mul_le_mul_of_nonneg_right (Rat.le_trans hA hmA) (Rat.le_of_lt hη)
  generalize z / (m : Rat) = h at *
  have hh1 : 100 * h ≤ 1 := by
    refine Rat.not_lt.1 fun e => ?_
    have := Rat.mul_le_mul_of_nonneg_left hmr hh0
    grind
  refine ⟨m, h, by omega, hh1, hh0, by grind, ?_⟩
  -- m h² is z h
  have e3 : (m : Rat) * (5 * (h * h)) = 5 * (z * h) := by rw [← e1]; grind
  have g3 : z * h ≤ 1 / 3 * h := Rat.mul_le_mul_of_nonneg_right (show z ≤ 1 / 3 by rw [le_div (by decide)]; grind) hh0
  have g4 := pow_bern (ε := 5 * (h * h)) (by have := Rat.mul_nonneg hh0 hh0; grind) m (by rw [e3]; grind)
  rw [e3] at g4
  -- h is no more than 1 by 3 m, and m η no less than 10
  have g5 : 10 * (z * h) ≤ η := by
    refine Rat.le_of_mul_le_mul_right (c := (m : Rat)) ?_ hm0
    have : 10 * (z * h) * (m : Rat) = 10 * (z * z) := by rw [show 10 * (z * h) * (m : Rat) = 10 * (z * (h * (m : Rat))) by grind, e1]
    have zz := Rat.mul_nonneg (show 0 ≤ 1 - z by grind) (show 0 ≤ 1 + z by grind)
    grind
  have g6 : 1 + 2 * (5 * (z * h)) ≤ 1 + η := by grind
  exact Rat.le_trans g4 g6
theorem ah_hi {f : Rat → Rat} {z : Rat} (hz : 0 ≤ z) (hz3 : 3 * z ≤ 1) (hf0 : f 0 = 0) (hf : ∀ x y, 0 ≤ x → x ≤ y → 3 * y ≤ 1 → (f y - f x) * (1 - y * y) ≤ 2 * (y - x)) : Hi (f z) ((1 + z) / (1 - z)) := by
  have hq : 0 < 1 - z := by grind
  have hD : 0 < (1 + z) / (1 - z) := by rw [Rat.lt_div_iff hq]; grind
  refine hi_lim hD fun η hη => ?_
  have hD3 : (1 + z) / (1 - z) ≤ 2 := by
    refine Rat.not_lt.1 fun e => ?_
    rw [Rat.lt_div_iff hq] at e
    grind
  obtain ⟨m, h, hm, h1, h0, hmz, hpow⟩ := many hz hz3 (show 0 < η / 2 by rw [Rat.lt_div_iff (by decide)]; grind)
  obtain ⟨B, hB, hU⟩ := steps_hi h0 h1 hf0 hf m (by rw [hmz]; exact hz3)
  rw [hmz] at hB hU
  refine hU.le ?_
  have e : (1 + z) / (1 - z) * (1 - z) = 1 + z := Rat.div_mul_cancel (Rat.ne_of_gt hq)
  generalize (1 + z) / (1 - z) = D at *
  generalize (1 + 5 * (h * h)) ^ m = s at *
  have e2 : B = D * s := by
    have : (B - D * s) * (1 - z) = 0 := by grind
    rcases Rat.mul_eq_zero.1 this with h | h
    · grind
    · grind
  have g := Rat.mul_le_mul_of_nonneg_left hpow (Rat.le_of_lt hD)
  have e3 : η / 2 * 2 = η := Rat.div_mul_cancel (by decide)
  have g2 := Rat.mul_le_mul_of_nonneg_right hD3 (show 0 ≤ η / 2 by grind)
  grind
theorem steps_lo {f : Rat → Rat} {h : Rat} (h0 : 0 ≤ h) (h1 : 100 * h ≤ 1) (hf0 : f 0 = 0) (hf : ∀ x y, 0 ≤ x → x ≤ y → 3 * y ≤ 1 → 2 * (y - x) ≤ (f y - f x) * (1 - x * x)) : ∀ i : Nat, 3 * ((i : Rat) * h) ≤ 1 →
    ∃ B, 0 ≤ B ∧ B * (1 - (i : Rat) * h) * (1 + 5 * (h * h)) ^ i = 1 + (i : Rat) * h ∧ Lo (f ((i : Rat) * h)) B
  | 0, _ => by
    refine ⟨1, by decide, ?_, ?_⟩
    · rw [show ((0 : Nat) : Rat) = 0 from rfl, Rat.pow_zero]; grind
    · rw [show ((0 : Nat) : Rat) = 0 from rfl, Rat.zero_mul, hf0]; exact lo_zero
  | i + 1, hi => by
    have hc : ((i + 1 : Nat) : Rat) * h = (i : Rat) * h + h := by rw [Rat.natCast_add]; show ((i : Rat) + 1) * h = _; grind
    rw [hc] at hi ⊢
    obtain ⟨A, hA0, hA, hU⟩ := steps_lo h0 h1 hf0 hf i (by grind)
    have hx0 := Rat.mul_nonneg (Rat.natCast_nonneg (a := i)) h0
    have hs := Rat.pow_pos (n := i) (show 0 < 1 + 5 * (h * h) by have := Rat.mul_nonneg h0 h0; grind)
    obtain ⟨B, hB0, hB, hV⟩ := step_lo (u := f ((i : Rat) * h + h) - f ((i : Rat) * h)) hx0 rfl hi h0 h1 (by
      have := hf ((i : Rat) * h) ((i : Rat) * h + h) hx0 (by grind) hi
      grind) hs hA0 hA hU
    refine ⟨B, hB0, by rw [Rat.pow_succ]; exact hB, ?_⟩
    rw [show f ((i : Rat) * h) + (f ((i : Rat) * h + h) - f ((i : Rat) * h)) = f ((i : Rat) * h + h) by grind] at hV
    exact hV
theorem ah_lo {f : Rat → Rat} {z : Rat} (hz : 0 ≤ z) (hz3 : 3 * z ≤ 1) (hf0 : f 0 = 0) (hf : ∀ x y, 0 ≤ x → x ≤ y → 3 * y ≤ 1 → 2 * (y - x) ≤ (f y - f x) * (1 - x * x)) : Lo (f z) ((1 + z) / (1 - z)) := by
  have hq : 0 < 1 - z := by grind
  have hD : 0 < (1 + z) / (1 - z) := by rw [Rat.lt_div_iff hq]; grind
  refine lo_lim fun η hη => ?_
  have hD3 : (1 + z) / (1 - z) ≤ 2 := by
    refine Rat.not_lt.1 fun e => ?_
    rw [Rat.lt_div_iff hq] at e
    grind
  obtain ⟨m, h, hm, h1, h0, hmz, hpow⟩ := many hz hz3 (show 0 < η / 2 by rw [Rat.lt_div_iff (by decide)]; grind)
  obtain ⟨B, hB0, hB, hU⟩ := steps_lo h0 h1 hf0 hf m (by rw [hmz]; exact hz3)
  rw [hmz] at hB hU
  refine hU.le ?_
  have e : (1 + z) / (1 - z) * (1 - z) = 1 + z := Rat.div_mul_cancel (Rat.ne_of_gt hq)
  generalize (1 + z) / (1 - z) = D at *
  generalize (1 + 5 * (h * h)) ^ m = s at *
  have e2 : B * s = D := by
    have : (B * s - D) * (1 - z) = 0 := by grind
    rcases Rat.mul_eq_zero.1 this with h | h
    · grind
    · grind
  have e3 : η / 2 * 2 = η := Rat.div_mul_cancel (by decide)
  generalize η / 2 = θ at *
  have g := Rat.mul_le_mul_of_nonneg_left hpow hB0
  -- B is no more than 2 or D is no more than B and 2 θ
  rcases Rat.le_total (a := B) (b := 2) with hb | hb
  · have := Rat.mul_le_mul_of_nonneg_right hb (show 0 ≤ θ by grind)
    grind
  · grind
end Go.Proofs.YtmpdbmaokbhcjaaDoor.Ea

/-
  PLAIN: e to a quotient that is not 0 keeps away from each quotient (smaller bounds than Eg's, and both sides).
-/
namespace Go.Proofs.YtmpdbmaokbhcjaaDoor.Ea

/-- so many bits are enough -/
def Qs : Nat := 4398046511104
theorem far_s {α β lo hi w : Rat} (u v a c : Nat) (hv : 0 < v) (hc : 0 < c) (hu : 0 < u) (ha : 0 < a) (hα : α * (v : Rat) = (u : Rat)) (hβ : β * (c : Rat) = (a : Rat)) {h p k b : Nat}
    (hlo : Dn β lo) (hhi : Up β hi) (l0 : 1 ≤ lo) (h1 : lo ≤ α) (h2 : α ≤ hi) (hw : hi - lo < w) (hw1 : w < 1)
    (bh : hi ≤ 2 ^ h) (bv : (v : Rat) ≤ 2 ^ p) (bc : (c : Rat) ≤ 2 ^ k) (bb : β ≤ 2 ^ b) (hh : h ≤ 5000) (hp : p ≤ 5000) (hk : k ≤ 2600) (hb : b ≤ 12) :
    1 ≤ 2 ^ Qs * w := by
  obtain ⟨l, hl⟩ : ∃ l : Nat, l = 10 := ⟨_, rfl⟩
  obtain ⟨ν, hν⟩ : ∃ l : Nat, l = 27 := ⟨_, rfl⟩
  obtain ⟨L, hL⟩ : ∃ L : Nat, L = 2 ^ l := ⟨_, rfl⟩
  obtain ⟨n, hn⟩ : ∃ n : Nat, n = 2 ^ ν := ⟨_, rfl⟩
  obtain ⟨N, hN⟩ : ∃ N : Nat, N = (L + 1) * n := ⟨_, rfl⟩
  obtain ⟨t, ht⟩ : ∃ t : Nat, t = 23 := ⟨_, rfl⟩
  have hL2 : L = 1024 := by rw [hL, hl]
  have hn2 : n = 134217728 := by rw [hn, hν]
  have hN2 : N = 137573171200 := by rw [hN, hL2, hn2]
  have hβ0 : 0 ≤ β := by
    refine Rat.not_lt.1 fun e => ?_
    have := Rat.mul_lt_mul_of_pos_right e (Rat.natCast_pos.2 hc)
    rw [hβ, Rat.zero_mul] at this
    have := Rat.natCast_nonneg (a := a)
    grind
  have bt : β * 4 * 2 ^ t ≤ (N : Rat) := by
    have g1 : β * 4 * 2 ^ t ≤ 2 ^ (b + 2 + t) := by
      rw [pow_add, pow_add]
      have : (2 : Rat) ^ 2 = 4 := by decide
      rw [this]
      exact Rat.mul_le_mul_of_nonneg_right (Rat.mul_le_mul_of_nonneg_right bb (by decide)) (two_nonneg _)
    refine Rat.le_trans g1 ?_
    rw [← cast_two]
    apply Rat.natCast_le_natCast.2
    have g2 : 2 ^ (b + 2 + t) ≤ 2 ^ 37 := Nat.pow_le_pow_right (by omega) (by omega)
    have g3 : (2 : Nat) ^ 37 = 137438953472 := by decide
    omega
  have hA : l * L * (2 * n + 1) + p * L + k * n + ν * n + h * L + 1 ≤ t * N := by
    rw [hN2, hn2, hL2, hl, hν, ht]
    omega
  have := far_two u v a c hv hc hu ha hα hβ hL hn hN hlo hhi l0 h1 h2 hw hw1 bh bv bc bt hA
  have hQ : l * L * (2 * n + 1) + p * L + k * n + ν * n + h * L + N + h + l + 1 ≤ Qs := by
    rw [hN2, hn2, hL2, hl, hν, show Qs = 4398046511104 from rfl]
    omega
  generalize l * L * (2 * n + 1) + p * L + k * n + ν * n + h * L + N + h + l + 1 = q at *
  have g := two_le hQ
  have hw0 : 0 ≤ w := by grind
  have := Rat.mul_le_mul_of_nonneg_right g hw0
  grind
/-- both sides, for a quotient above 0 -/
theorem sep_pos {α β w : Rat} (u v a c : Nat) (hv : 0 < v) (hc : 0 < c) (hu : 0 < u) (ha : 0 < a) (hα : α * (v : Rat) = (u : Rat)) (hβ : β * (c : Rat) = (a : Rat)) {h p k b : Nat}
    (bh : α ≤ 2 ^ h) (bv : (v : Rat) ≤ 2 ^ p) (bc : (c : Rat) ≤ 2 ^ k) (bb : β ≤ 2 ^ b) (hh : h ≤ 4900) (hp : p ≤ 5000) (hk : k ≤ 2600) (hb : b ≤ 12) (w0 : 0 < w) (hw : 4 * (2 ^ Qs * w) ≤ 1) :
    Lo β (α + w) ∨ Hi β (α - w) := by
  refine Classical.byContradiction fun hne => ?_
  have n1 : Hi β (α + w) := not_lo fun e => hne (Or.inl e)
  have n2 : Lo β (α - w) := not_hi fun e => hne (Or.inr e)
  have hcr : (0 : Rat) < (c : Rat) := Rat.natCast_pos.2 hc
  have har : (1 : Rat) ≤ (a : Rat) := Rat.natCast_le_natCast.2 (show 1 ≤ a by omega)
  have hβ0 : 0 ≤ β := by
    refine Rat.not_lt.1 fun e => ?_
    have := Rat.mul_lt_mul_of_pos_right e hcr
    grind
  have q1 : (2 : Rat) ^ k ≤ 2 ^ Qs := two_le (by rw [show Qs = 4398046511104 from rfl]; omega)
  -- w is less than a quarter, and than the argument
  have w1 : 4 * w ≤ 1 := by
    have := Rat.mul_le_mul_of_nonneg_right (one_le_pow (a := 2) (by decide) Qs) (Rat.le_of_lt w0)
    grind
  have w2 : w < β := by
    refine Rat.not_le.1 fun e => ?_
    have s1 : β * (c : Rat) ≤ w * 2 ^ Qs := by
      have r1 := Rat.mul_le_mul_of_nonneg_right e (Rat.le_of_lt hcr)
      have r2 := Rat.mul_le_mul_of_nonneg_left (Rat.le_trans bc q1) (Rat.le_of_lt w0)
      grind
    grind
  have l1 := lo_hi (lo_line β) n1
  have α1 : 1 ≤ α := by grind
  obtain ⟨lo, hlo, hlo1, hlo2, hlo3⟩ : ∃ lo, Lo β lo ∧ 1 ≤ lo ∧ lo ≤ α ∧ α - w ≤ lo := by
    rcases Rat.le_total (a := 1) (b := α - w) with e | e
    · exact ⟨α - w, n2, e, by grind, Rat.le_refl⟩
    · exact ⟨1, (lo_line β).le (by grind), Rat.le_refl, α1, e⟩
  have bh' : α + w ≤ 2 ^ (h + 1) := by
    have := one_le_pow (a := 2) (by decide) h
    rw [Rat.pow_succ]
    grind
  have := far_s u v a c hv hc hu ha hα hβ (w := 3 * w) (dn_lo hβ0 hlo) (up_hi hβ0 n1) hlo1 hlo2 (by grind) (by grind) (by grind) bh' bv bc bb (by omega) hp hk hb
  grind
/-- .. and below 0: α is the quotient turned over, ε what e to -β keeps away -/
theorem sep_neg {α β w τ ε : Rat} (u v a c : Nat) (hv : 0 < v) (hc : 0 < c) (hu : 0 < u) (ha : 0 < a) (hα : α * (v : Rat) = (u : Rat)) (hβ : β * (c : Rat) = (a : Rat)) {h p k b : Nat}
    (bh : α ≤ 2 ^ h) (bv : (v : Rat) ≤ 2 ^ p) (bc : (c : Rat) ≤ 2 ^ k) (bb : β ≤ 2 ^ b) (hh : h ≤ 4900) (hp : p ≤ 5000) (hk : k ≤ 2600) (hb : b ≤ 12) (w0 : 0 < w) (hw : 4 * (2 ^ Qs * w) ≤ 1)
    (hτ : τ * α = 1) (hε : 2 * (ε * (α * α)) ≤ w) (h1 : w ≤ α) (hε0 : 0 < ε) (hε1 : ε * α ≤ 1) : Lo (-β) (τ + ε) ∨ Hi (-β) (τ - ε) := by
  have hvr : (0 : Rat) < (v : Rat) := Rat.natCast_pos.2 hv
  have hα0 : 0 < α := by
    refine Rat.not_le.1 fun e => ?_
    have := Rat.mul_le_mul_of_nonneg_right e (Rat.le_of_lt hvr)
    have : (0 : Rat) < (u : Rat) := Rat.natCast_pos.2 hu
    grind
  rcases sep_pos u v a c hv hc hu ha hα hβ bh bv bc bb hh hp hk hb w0 hw with h | h
  · -- e to β is above α + w
    right
    refine (hi_neg (by grind) h).le ?_
    -- 1 by (α + w) is no more than τ - ε
    refine Rat.le_of_mul_le_mul_right (c := α + w) ?_ (by grind)
    rw [Rat.div_mul_cancel (Rat.ne_of_gt (show 0 < α + w by grind))]
    -- (τ - ε) (α + w) = 1 + τ w - ε α - ε w
    have e1 : (τ - ε) * (α + w) = 1 + τ * w - ε * α - ε * w := by grind
    rw [e1]
    have g0 : 0 < τ := by
      refine Rat.not_le.1 fun e => ?_
      have := Rat.mul_le_mul_of_nonneg_right e (Rat.le_of_lt hα0)
      grind
    -- τ w is at least 2 ε α
    have g1 : 2 * (ε * α) ≤ τ * w := by
      have := Rat.mul_le_mul_of_nonneg_left hε (Rat.le_of_lt g0)
      have e2 : τ * (2 * (ε * (α * α))) = 2 * (ε * α) * (τ * α) := by grind
      rw [e2, hτ] at this
      grind
    have g2 : ε * w ≤ ε * α := Rat.mul_le_mul_of_nonneg_left h1 (Rat.le_of_lt hε0)
    grind
  · -- below α - w
    left
    have hp := h.pos
    refine (lo_neg h).le ?_
    refine Rat.le_of_mul_le_mul_right (c := α - w) ?_ hp
    rw [Rat.div_mul_cancel (Rat.ne_of_gt hp)]
    have e1 : (τ + ε) * (α - w) = 1 - τ * w + ε * α - ε * w := by grind
    rw [e1]
    have g0 : 0 < τ := by
      refine Rat.not_le.1 fun e => ?_
      have := Rat.mul_le_mul_of_nonneg_right e (Rat.le_of_lt hα0)
      grind
    have g1 : 2 * (ε * α) ≤ τ * w := by
      have := Rat.mul_le_mul_of_nonneg_left hε (Rat.le_of_lt g0)
      have e2 : τ * (2 * (ε * (α * α))) = 2 * (ε * α) * (τ * α) := by grind
      rw [e2, hτ] at this
      grind
    have g2 := Rat.mul_pos hε0 w0
    have g3 := Rat.mul_pos hε0 hα0
    grind
end Go.Proofs.YtmpdbmaokbhcjaaDoor.Ea
