/-
  THE WALK of nat.Over.
-/
import Derived.Test.YtofdjfdnckmmmaaGreatDoorDg
import Derived.Test.YtofdjfdnckmmmaaGreatDoorOvP
import Derived.Test.YtofdjfdnckmmmaaGreatDoorNa
import Derived.Test.YtofdjfdnckmmmaaGreatDoorSl
import Derived.ArgAppend
import Derived.Deep.AppendLies
set_option linter.unusedVariables false
set_option linter.unusedSimpArgs false
namespace Go.Proofs.YtofdjfdnckmmmaaGreatDoor
open Go.RowKit Nt

/-- a call that tells two numbers -/
def RetNV2 (w : World) (q r : Nat) (e : Ending) (w' : World) : Prop := ∃ vq vr, e = .returned (.tuple #[vq, vr]) ∧ NV w' vq q ∧ NV w' vr r ∧ Below w.heap.size w w'
theorem Kp.own {g : Nat} {w w' : World} (h : Kp g w w') {base n gq : Nat} {cap : Nat} {xs : List Value} (ho : w.ownsRow base 102 1 (.slice (some ⟨gq, 0, none⟩) n cap) n xs) (hne : gq ≠ g) :
    w'.ownsRow base 102 1 (.slice (some ⟨gq, 0, none⟩) n cap) n xs := by
  refine ⟨ho.1, ?_⟩
  rcases ho.2 with hn | ⟨g', cap', cur, e, hb, hgg, rest⟩
  · exact .inl hn
  · refine .inr ⟨g', cap', cur, e, hb, ?_, rest⟩
    have : gq = g' := by simp only [Value.slice.injEq, Option.some.injEq, Addr.mk.injEq] at e; exact e.1.1
    subst this
    rw [h.block _ hne]; exact hgg
theorem Kp.cells {g : Nat} {w w' : World} (h : Kp g w w') {bv ov n : Nat} {v : List Nat} (hne : bv ≠ g) (hc : ∀ i, i < n → w.cell? ⟨bv, ov + i, none⟩ = some (.int .u32 ((v.getD i 0 : Nat) : Int))) :
    ∀ i, i < n → w'.cell? ⟨bv, ov + i, none⟩ = some (.int .u32 ((v.getD i 0 : Nat) : Int)) := fun i hi => (h.cell bv (ov + i) hne).trans (hc i hi)
theorem own_below {w w' : World} {B base n : Nat} {v : Value} {xs : List Value} (h : w.ownsRow base 102 1 v n xs) (hb : Below B w w') (hB : ∀ ao m c p, v = .slice ao m c → ao = some p → p.block < B) : w'.ownsRow base 102 1 v n xs := by
  refine ⟨h.1, ?_⟩
  rcases h.2 with hn | ⟨g, cap, cur, rfl, hbs, hgg, rest⟩
  · exact .inl hn
  · refine .inr ⟨g, cap, cur, rfl, hbs, ?_, rest⟩
    rw [hb.block g (hB _ _ _ _ rfl rfl)]; exact hgg
theorem own_mono {w : World} {base base' n : Nat} {v : Value} {xs : List Value} (h : w.ownsRow base 102 1 v n xs) (hb : base' ≤ base) : w.ownsRow base' 102 1 v n xs :=
  ⟨h.1, h.2.imp id (fun ⟨g, c, cur, e, hb', r⟩ => ⟨g, c, cur, e, Nat.le_trans hb hb', r⟩)⟩
theorem own_take {w : World} {base g n cap k : Nat} {o : List Nat} (h : w.ownsRow base 102 1 (.slice (some ⟨g, 0, none⟩) n cap) n (lc o)) (hk : k ≤ n) :
    w.ownsRow base 102 1 (.slice (some ⟨g, 0, none⟩) k cap) k (lc (o.take k)) := by
  have hn : o.length = n := by have := h.1; rw [lc_length] at this; omega
  refine ⟨by rw [lc_length, List.length_take]; omega, ?_⟩
  rcases h.2 with ⟨h1, h2⟩ | ⟨g', cap', cur, e, hb, hgg, h3, h4, h5, h6⟩
  · cases h1
  · simp only [Value.slice.injEq, Option.some.injEq, Addr.mk.injEq] at e
    obtain ⟨⟨rfl, -⟩, -, rfl⟩ := e
    refine .inr ⟨g, cap, cur, rfl, hb, hgg, by omega, h4, h5, ?_⟩
    have : lc (o.take k) = (lc o).take k := by unfold lc; rw [List.map_take]
    rw [this, ← h6, List.take_take, Nat.mul_one, Nat.mul_one, Nat.min_eq_left hk]

theorem over_less (va vb : Value) (a b k0 : Nat) (w : World) (ha : NV w va a) (hb : NV w vb b) (hlt : a < b) (hka : a < 2 ^ k0) (hk0 : k0 ≤ 40000000000000) :
    Calls Tryz.prog 107 #[va, vb] w (RetNV2 w 0 a) := by
  have hs : sgn2 (a : Int) (b : Int) < 0 := by unfold sgn2; rw [if_pos (by omega)]; decide
  have hc := compare_any va vb a b w ha hb
  generalize sgn2 (a : Int) (b : Int) = sg at *
  have HC := Lib.hid hc
  have HA := Lib.hid ha
  have CL := Lib.hid (fun w' h => clone_any va a k0 w' h hka (by omega))
  clear hc ha hb hlt hka
  go_enter Tryz.func107, Tryz.ntmps107
  go_wp2_with fail
  refine HC.out.mono ?_
  rintro e w1 ⟨rfl, n1, rfl⟩
  go_wp2_with fail
  refine (CL.out _ (HA.out.drewN _)).mono ?_
  rintro e w2 ⟨v2, rfl, h2, hb2⟩
  go_wp2
  go_ret2
  exact ⟨_, _, rfl, NV.nil _, h2, below_of_drewN hb2⟩
theorem over_one (va vb : Value) (a b k0 : Nat) (w : World) (ha : NV w va a) (hb : NV w vb b) (hle : b ≤ a) (hb0 : 0 < b) (hb1 : b < 4294967296) (hka : a < 2 ^ k0) (hk0 : k0 ≤ 40000000000000) :
    Calls Tryz.prog 107 #[va, vb] w (RetNV2 w (a / b) (a % b)) := by
  have hs : ¬ sgn2 (a : Int) (b : Int) < 0 := by unfold sgn2; rw [if_neg (by omega)]; split <;> decide
  have hc := compare_any va vb a b w ha hb
  generalize sgn2 (a : Int) (b : Int) = sg at *
  obtain ⟨lb, hlb, eb, ⟨-, ab, cb, rfl, hcb, hmb, hB⟩, hbl⟩ := hb.len (show b < 2 ^ 32 by omega)
  have hlen : lb.length = 1 := by
    rcases Nat.eq_zero_or_pos lb.length with h | h
    · rw [List.length_eq_zero_iff.1 h] at eb; simp [val] at eb; omega
    · omega
  have he : lb.getD 0 0 = b := by
    obtain ⟨x, rfl⟩ := List.length_eq_one_iff.1 hlen
    simpa [val] using eb
  have hcell : ∃ bb ob, ab = some ⟨bb, ob, none⟩ ∧ bb < w.heap.size ∧ w.cell? ⟨bb, ob, none⟩ = some (.int .u32 (b : Int)) := by
    rcases hB with h | ⟨bb, ob, h1, h2, h3⟩
    · omega
    · refine ⟨bb, ob, h1, h2, ?_⟩
      have := h3 0 (by omega)
      rwa [he] at this
  obtain ⟨bb, ob, rfl, hbb, hcell⟩ := hcell
  rw [hlen] at hc ⊢
  unfold maxLen at hmb
  rw [hlen] at hcb
  have HC := Lib.hid hc
  have HA := Lib.hid ha
  have SM := Lib.hid (fun w' h => small_any va a b k0 w' h hka (by omega) hb0 hb1)
  clear hc ha hb hle hka hB hlb eb hbl hlen he lb
  obtain ⟨r, hr⟩ : ∃ r, r = a % b := ⟨_, rfl⟩
  have hrb : r < b := by rw [hr]; exact Nat.mod_lt _ hb0
  rw [← hr] at SM ⊢
  have OF := Lib.hid (fun w' => natOf_any (r : Int) (by omega) (by omega) w')
  rw [Int.toNat_natCast] at OF
  clear hr
  go_enter Tryz.func107, Tryz.ntmps107
  go_wp2_with fail
  refine HC.out.mono ?_
  rintro e w1 ⟨rfl, n1, rfl⟩
  go_wp2_with fail
  refine (SM.out _ (HA.out.drewN _)).mono ?_
  rintro e w2 ⟨v2, rfl, h2, hb2⟩
  have H2 := Lib.hid h2
  have B2 := Lib.hid (below_of_drewN hb2)
  clear h2 hb2
  go_wp2_with fail
  refine (OF.out _).mono ?_
  rintro e w3 ⟨v3, rfl, h3, hb3⟩
  have H2' := Lib.hid (H2.out.below hb3)
  have B3 : Hid (Below w.heap.size w w3) := Lib.hid (bl_thru B2.out (Nat.le_refl _) hb3)
  have H3 := Lib.hid h3
  clear h3 hb3
  go_wp2
  go_ret2
  exact ⟨_, _, rfl, H2'.out, H3.out, B3.out⟩
theorem _root_.Go.Proofs.YtofdjfdnckmmmaaGreatDoor.Lim.cellsOf {w : World} {ao : Option Addr} {l : List Nat} {n c : Nat} (h : Lim w (.slice ao n c) l) (hn : n = l.length) (h1 : 1 ≤ n) :
    ∃ b off, ao = some ⟨b, off, none⟩ ∧ b < w.heap.size ∧ ∀ i, i < n → w.cell? ⟨b, off + i, none⟩ = some (.int .u32 ((l.getD i 0 : Nat) : Int)) := by
  obtain ⟨-, ao', cap, e, -, -, hc⟩ := h
  simp only [Value.slice.injEq] at e
  obtain ⟨rfl, -, -⟩ := e
  rcases hc with h | ⟨b, off, rfl, h2, h3⟩
  · omega
  · exact ⟨b, off, rfl, h2, by rw [hn]; exact h3⟩
set_option maxRecDepth 100000 in
set_option maxHeartbeats 16000000 in
theorem over_long (va vb : Value) (a b k0 : Nat) (w : World) (ha : NV w va a) (hb : NV w vb b) (hle : b ≤ a) (hb1 : 4294967296 ≤ b) (hka : a < 2 ^ k0) (hk0 : k0 ≤ 40000000000000) :
    Calls Tryz.prog 107 #[va, vb] w (RetNV2 w (a / b) (a % b)) := by
  have hs : ¬ sgn2 (a : Int) (b : Int) < 0 := by unfold sgn2; rw [if_neg (by omega)]; split <;> decide
  have hkb : b < 2 ^ k0 := Nat.lt_of_le_of_lt hle hka
  have hc := compare_any va vb a b w ha hb
  generalize sgn2 (a : Int) (b : Int) = sg at *
  obtain ⟨la, hla, ea, ⟨-, aa, ca, hva, hca, hma, hA⟩, hal⟩ := ha.len hka
  obtain ⟨lb, hlb, eb, ⟨-, ab, cb, rfl, hcb, hmb, hB⟩, hbl⟩ := hb.len hkb
  obtain ⟨m, hm⟩ : ∃ m, lb.length = m + 2 := by
    have h1 := val_lt hlb.1
    rcases Nat.lt_or_ge lb.length 2 with h | h
    · exfalso
      have h2 : 2 ^ (32 * lb.length) ≤ 2 ^ 32 := Nat.pow_le_pow_right (by decide) (by omega)
      omega
    · exact ⟨lb.length - 2, by omega⟩
  obtain ⟨s, hsd⟩ : ∃ s, s = 32 - Lib.bitLen (lb.getD (m + 1) 0) := ⟨_, rfl⟩
  have IN := Lib.hid (fun lu lv (hu : Nrm lu) (hv : Nrm lv) (eu : val lu = a * 2 ^ s) (ev : val lv = b * 2 ^ s) => (⟨hla, hlb, hu, hv, by rw [hm], hsd, by rw [ea, eu], by rw [eb, ev], by rw [ea, eb]; exact hle⟩ : OvIn la lb (m + 1) s lu lv))
  obtain ⟨d0, d1, d2⟩ := blen_limbs hlb (show lb.length = (m + 1) + 1 from hm) rfl
  obtain ⟨d, hd⟩ : ∃ d, d = lb.getD (m + 1) 0 := ⟨_, rfl⟩
  rw [← hd] at hsd d0 d1
  have hbl32 := Lib.bitLen_le d 32 (by omega) (by omega)
  have es : (32 : Int) - (Lib.bitLen d : Int) = (s : Int) := by omega
  have hs31 : s ≤ 31 := by
    obtain ⟨j, hj, e, -, -⟩ := libLen d0 d1
    omega
  rcases hB with h | ⟨bb, ob, rfl, hbb, hcell⟩
  · exfalso; omega
  have hck := hcell (m + 1) (by omega)
  rw [← hd] at hck
  unfold maxLen at hma hmb
  obtain ⟨na, hna⟩ : ∃ na, na = la.length := ⟨_, rfl⟩
  obtain ⟨nb, hnb⟩ : ∃ nb, nb = lb.length := ⟨_, rfl⟩
  rw [← hnb] at hc hb hcb ⊢
  rw [show m + 1 = nb - 1 by omega] at hck
  rw [← hna] at hva hca
  have hna1 : na ≤ 1600000000000 := by omega
  have hm1 : nb ≤ 1600000000000 := by omega
  have hb2 : 2 ≤ nb := by omega
  have HNB : Hid (nb = m + 2) := Lib.hid (by omega)
  subst hva
  have HC := Lib.hid hc
  have HA := Lib.hid ha
  have HB := Lib.hid hb
  have NU := Lib.hid (fun lu (hu : Nrm lu) (eu : val lu = a * 2 ^ s) => (show lu.length ≤ 1600000000000 by
    have h1 : a * 2 ^ s < 2 ^ (k0 + s) := by rw [Nat.pow_add]; exact Nat.mul_lt_mul_of_pos_right hka (Nat.two_pow_pos _)
    have := hu.len (by rw [eu]; exact h1)
    omega))
  have HLE : Hid (4294967296 ≤ a) := Lib.hid (by omega)
  have LA := Lib.hid (fun w' x (h : NV w' (.slice aa na ca) a) (hx : x = (s : Int)) => left_clip _ a s k0 x w' h hx hka (by omega) (by omega))
  have LB := Lib.hid (fun w' x (h : NV w' (.slice (some ⟨bb, ob, none⟩) nb cb) b) (hx : x = (s : Int)) => left_clip _ b s k0 x w' h hx hkb (by omega) (by omega))
  have HNA := Lib.hid hna
  have EA := Lib.hid ea
  have EB := Lib.hid eb
  have ES := Lib.hid es
  clear hc ha hb hle hka hkb hcell hbl hal hlb hla hsd hd d0 d2 hA ea eb hna hm hnb es hbl32
  go_enter Tryz.func107, Tryz.ntmps107
  go_wp2_with fail
  refine HC.out.mono ?_
  rintro e w1 ⟨rfl, n1, rfl⟩
  go_wp2_with fail
  refine (leading32_any _ (by omega) (by omega) _).mono ?_
  rintro e w1 ⟨rfl, rfl⟩
  go_wp2_with fail
  refine (LA.out _ _ (HA.out.drewN _) ?_).mono ?_
  · exact ES.out
  rintro e w2 ⟨v1, rfl, hv1, hb1'⟩
  obtain ⟨lu, au, u1, u2, u3, rfl, u4⟩ := hv1
  have hnu := NU.out lu u1 u2
  have hnu0 : lu ≠ [] := by
    rintro rfl
    have h0 : a * 2 ^ s = 0 := u2.symm
    rcases Nat.mul_eq_zero.1 h0 with h | h
    · have := HLE.out; omega
    · have := Nat.two_pow_pos s; omega
  obtain ⟨nu, enu⟩ : ∃ nu, nu = lu.length := ⟨_, rfl⟩
  have hnu1 : 1 ≤ nu := by
    rw [enu]; rcases Nat.eq_zero_or_pos lu.length with h | h
    · exact absurd (List.length_eq_zero_iff.1 h) hnu0
    · exact h
  rw [← enu] at hnu u3 ⊢
  obtain ⟨bu, ou, rfl, hbu, hcu⟩ := u3.cellsOf enu hnu1
  have ENU := Lib.hid enu
  have B2 := Lib.hid (below_of_drewN hb1')
  have U := Lib.hid (And.intro u1 u2)
  have CU := Lib.hid hcu
  clear u1 u2 u3 u4 hb1' enu hcu hbu hnu0
  obtain ⟨i0, hi, hz0, hz1, hz2⟩ := info_parts infoU32
  have HI := Lib.hid hi
  have HZ0 := Lib.hid hz0
  have HZ1 := Lib.hid hz1
  have HZ2 := Lib.hid hz2
  clear hi hz0 hz1 hz2
  go_wp2_with (at_builtin; refine wpList_append_grows _ rfl _ _ 66 rfl 102 i0 (.int .u32 0) 1 4 Tryz.underlying66 HI.out HZ0.out HZ1.out HZ2.out rfl (by decide) (some ⟨bu, ou, none⟩) nu nu (lc lu) rfl ?q0 ?q1 ?q2 ⟨w2.heap.size, 0, none⟩ 1 1 [.int .u32 0] rfl rfl (cell_one_new _ _ _) ?q3 (by omega) ?q4 ?q5 ?_)
  case q0 => intro h; cases h
  case q1 => rw [lc_length, ← ENU.out, Nat.mul_one]
  case q2 =>
    rintro b hb j u hj
    cases hb
    have hj2 : j < nu := by
      have := (List.getElem?_eq_some_iff.1 hj).1; rw [lc_length, ← ENU.out] at this; exact this
    refine Lib.cell?_alloc_some _ ?_
    rw [show (⟨bu, ou, none⟩ : Addr).add j = ⟨bu, ou + j, none⟩ from by unfold Addr.add; split <;> simp_all, CU.out j hj2, ← hj]
    simp [lc, List.getD, show j < lu.length by rw [← ENU.out]; exact hj2]
  case q3 => intro u hu; simp at hu; subst hu; rfl
  case q4 => unfold maxLen; omega
  case q5 => omega
  clear HI HZ0 HZ1 HZ2 i0
  intro v' w3 hown hgrow
  obtain ⟨g, cg, rfl, hg1, hg2⟩ := World.ownsRow.form hown (by omega)
  have B3 : Hid (Below w.heap.size w w3) := Lib.hid ((B2.out.alloc B2.out.size _).trans (grown_below hgrow (by have := B2.out.size; simp; omega) (by intro k hk; cases hk)))
  have hgb : w.heap.size ≤ g := by have := B2.out.size; omega
  have O3 : Hid (w3.ownsRow w.heap.size 102 1 (.slice (some ⟨g, 0, none⟩) (nu + 1) cg) (nu + 1) (lc (lu ++ [0]))) := Lib.hid (by rw [lc_append]; exact own_mono hown (by have := B2.out.size; omega))
  clear hown hgrow hg1 CU
  go_wp2_with fail
  refine (LB.out _ _ (HB.out.below B3.out) ES.out).mono ?_
  rintro e w4 ⟨v4, rfl, hv4, hb4⟩
  obtain ⟨lv, av, v1, v2, v3, rfl, v5⟩ := hv4
  have ovi := IN.out lu lv U.out.1 v1 U.out.2 v2
  obtain ⟨f1, f2, f3, f4, f5, f6, f7⟩ := ovi.facts
  have f2 : lv.length = m + 2 := f2
  rw [f2] at v3 ⊢
  obtain ⟨bv, ov, rfl, hbv, hcv⟩ := v3.cellsOf f2.symm (by omega)
  have hbvg : w3.heap.size ≤ bv := v5 _ rfl
  have hvg : bv ≠ g := by omega
  have st := ovi.start
  rw [EA.out, v2, ← HNA.out] at st
  obtain ⟨mq, hmq⟩ : ∃ mq, mq = na - (m + 1) := ⟨_, rfl⟩
  rw [← hmq] at st
  have ST : Hid (OvRel (a * 2 ^ s) (b * 2 ^ s) mq (m + 2) mq ((lu ++ [0]).take (na + 1)) (List.replicate mq 0)) := Lib.hid st
  have hnu2 : na ≤ nu := by rw [HNA.out, ENU.out]; exact f4
  have hna2 : m + 2 ≤ na := by rw [HNA.out]; exact f6
  have hmq1 : na + 1 = mq + (m + 2) := by omega
  have VF := Lib.hid (And.intro f2 (And.intro v1.1 (And.intro f3 (And.intro v2 f7))))
  have CV := Lib.hid hcv
  have B4 := Lib.hid (bl_thru B3.out (Nat.le_refl _) hb4)
  have O4 := Lib.hid (own_take (own_below O3.out hb4 (by rintro ao m c p e rfl; cases e; exact hg2)) (show na + 1 ≤ nu + 1 by omega))
  have hcg : nu + 1 ≤ cg ∧ cg ≤ 9223372036854775807 := by
    rcases O3.out.2 with ⟨h, -⟩ | ⟨g', cap, cur, e, -, -, h1, h2, -⟩
    · cases h
    · cases e; unfold maxLen at h2; omega
  obtain ⟨hcg1, hcg2⟩ := hcg
  have hgs : g < w4.heap.size := Nat.lt_of_lt_of_le hg2 hb4.size
  clear ovi f1 f2 f3 f4 f5 f6 f7 v1 v2 v3 v5 hcv hb4 st O3 B3 B2 HC HA HB LA LB IN NU HLE hbvg hmq hg2
  have hfin : Hid (∀ (A B : Nat), A = b * 2 ^ s → True) := Lib.hid (fun _ _ _ => trivial)
  go_wp2_with fail
  go_loopw [9] (fun uv wr => uv = .slice (some ⟨g, 0, none⟩) (nu + 1) cg ∧ wr = w4) (fun _ _ => 0)
  case atStart => exact ⟨rfl, rfl⟩
  case round =>
    obtain ⟨rfl, rfl⟩ := hrel
    go_wp2_with (refine wpList_make_limbs rfl _ _ rfl _ _ mq mq rfl rfl (by omega) (by omega) (Nat.le_refl _) (by omega) ?_; intro w5 hown5 hb5)
    obtain ⟨gq, hgq⟩ : ∃ q, q = wr.heap.size := ⟨_, rfl⟩
    rw [← hgq] at hown5 ⊢
    have hqg : gq ≠ g := by omega
    have hqw : w.heap.size ≤ gq := by have := B4.out.size; omega
    have hqs : gq < w5.heap.size := by
      rcases hown5.2 with ⟨h, -⟩ | ⟨g', cap, cur, e, -, hh, -⟩
      · cases h
      · cases e; exact (Array.getElem?_eq_some_iff.1 hh).1
    have o5 : w5.ownsRow w.heap.size 102 1 (.slice (some ⟨g, 0, none⟩) (mq + (m + 2)) cg) (mq + (m + 2)) (lc ((lu ++ [0]).take (na + 1))) := by
      have := own_below O4.out hb5 (by rintro ao m c p e rfl; cases e; exact hgs)
      rw [hmq1] at this ⊢; exact this
    have hbvs : bv < wr.heap.size := hbv
    have cv5 : ∀ i, i < m + 2 → w5.cell? ⟨bv, ov + i, none⟩ = some (.int .u32 ((lv.getD i 0 : Nat) : Int)) := fun i hi => (hb5.cell (p := ⟨bv, ov + i, none⟩) hbvs).trans (CV.out i hi)
    have hqv : bv ≠ gq := by omega
    have O5 := Lib.hid o5
    have OQ5 := Lib.hid (own_mono hown5 hqw)
    have CV5 := Lib.hid cv5
    have B5 := Lib.hid (bl_thru B4.out (Nat.le_refl _) hb5)
    clear o5 hown5 cv5 hb5 O4 B4 CV hgq hbvs hbv hgs hqs
    go_loopw [13] (fun iv wr => ∃ (k : Nat) (iz : Int) (U o : List Nat), k ≤ mq ∧ iz ≤ (k : Int) - 1 ∧ (k : Int) - 1 ≤ iz ∧ iv = .int .i64 iz ∧ Hid (OvRel (a * 2 ^ s) (b * 2 ^ s) mq (m + 2) k U o) ∧
        Hid (wr.ownsRow w.heap.size 102 1 (.slice (some ⟨g, 0, none⟩) (mq + (m + 2)) cg) (mq + (m + 2)) (lc U)) ∧ Hid (wr.ownsRow w.heap.size 102 1 (.slice (some ⟨gq, 0, none⟩) mq mq) mq (lc o)) ∧
        Hid (∀ i, i < m + 2 → wr.cell? ⟨bv, ov + i, none⟩ = some (.int .u32 ((lv.getD i 0 : Nat) : Int))) ∧ Hid (Below w.heap.size w wr))
      (fun iv _ => (intOf iv + 1).toNat)
    case atStart => exact ⟨mq, (mq : Int) - 1, _, _, Nat.le_refl _, by omega, by omega, rfl, ST, O5, OQ5, CV5, B5⟩
    case round =>
      clear O5 OQ5 CV5 B5 ST
      obtain ⟨k, iz, U, o, hk, hi1, hi2, rfl, REL, OU, OQ, CV, BB⟩ := hrel
      by_cases hk0 : k = 0
      · obtain rfl : iz = -1 := by omega
        subst hk0
        obtain ⟨r1, r2⟩ := REL.out.fin
        obtain ⟨e1, e2⟩ := ov_done (a := a) (b := b) (s := s) rfl rfl
        have hVb : a * 2 ^ s % (b * 2 ^ s) < 2 ^ (32 * (m + 2)) := by
          refine Nat.lt_trans (Nat.mod_lt _ ?_) (by rw [← VF.out.2.2.2.1]; exact VF.out.2.2.2.2)
          have := Nat.two_pow_pos s
          exact Nat.mul_pos (by omega) this
        have RT := Lib.hid (fun va x w' (h : NV w' va (a * 2 ^ s % (b * 2 ^ s))) (hx : x = (s : Int)) => right_any va _ s (32 * (m + 2)) x w' h hx hVb (by omega) (by omega))
        rw [e2] at RT
        rw [e1] at r1
        have R1 : Hid (val o = a / b ∧ True) := Lib.hid ⟨r1, trivial⟩
        have R2 : Hid (val (U.take (m + 2)) = a * 2 ^ s % (b * 2 ^ s) ∧ True) := Lib.hid ⟨r2, trivial⟩
        have LU := Lib.hid (own_lim2 (own_take OU.out (show m + 2 ≤ mq + (m + 2) by omega)) (REL.out.ul.take (m + 2)))
        have LQ := Lib.hid (own_lim2 OQ.out REL.out.ol)
        clear r1 r2 e1 e2 hVb hi1 hi2 hk
        go_wp2_with fail
        refine (norm_any _ _ _ LU.out).mono ?_
        rintro e w6 ⟨⟨v6, rfl, hn6⟩, rfl⟩
        rw [R2.out.1] at hn6
        go_wp2_with fail
        refine (RT.out _ _ _ hn6 ?_).mono ?_
        · exact ES.out
        rintro e w7 ⟨v7, rfl, hn7, hb7⟩
        have N7 := Lib.hid hn7
        have LQ' := Lib.hid (LQ.out.below hb7)
        have B7 := Lib.hid (bl_thru BB.out (Nat.le_refl _) hb7)
        clear hn6 hn7 hb7
        go_wp2_with fail
        refine (norm_any _ _ _ LQ'.out).mono ?_
        rintro e w8 ⟨⟨v8, rfl, hn8⟩, rfl⟩
        rw [R1.out.1] at hn8
        have N8 := Lib.hid hn8
        clear hn8
        go_wp2
        go_ret2
        exact ⟨_, _, rfl, N8.out, N7.out, B7.out⟩
      · obtain ⟨j, rfl⟩ : ∃ j, k = j + 1 := ⟨k - 1, by omega⟩
        obtain rfl : iz = (j : Int) := by omega
        have sp := REL.out.split
        obtain ⟨s1, s2, s3, s4, s5⟩ := sp
        have HD : Hid (DigitIn (U.take j) ((U.drop j).take (m + 2 + 1)) (U.drop (j + (m + 2) + 1)) lv m j) :=
          Lib.hid ⟨s2, s3, VF.out.1, (REL.out.ul.drop j).take _, VF.out.2.1, VF.out.2.2.1, by rw [VF.out.2.2.2.1]; exact s5⟩
        have OU2 : Hid (wr.ownsRow w.heap.size 102 1 (.slice (some ⟨g, 0, none⟩) (mq + (m + 2)) cg) (mq + (m + 2)) (lc (U.take j ++ ((U.drop j).take (m + 2 + 1) ++ U.drop (j + (m + 2) + 1))))) := Lib.hid (by rw [← s1]; exact OU.out)
        have DG := Lib.hid (digit_any _ _ _ lv m j g (cg - j) (mq + (m + 2)) cg w.heap.size bv ov (m + 2) wr HD OU2 (by omega) (by omega) (by omega) (by omega) (by omega) (by omega) hvg CV)
        clear hi1 hi2 s1 s2 s3 s4 s5 HD OU2 hk0
        go_wp2_with fail
        rw [show j + (m + 2) + 1 - j = m + 3 by omega]
        refine DG.out.mono ?_
        clear DG
        rintro e w6 ⟨rfl, KP, u', hul, hL, hvu, OW⟩
        rw [VF.out.2.2.2.1] at hvu ⊢
        obtain ⟨q, hq⟩ : ∃ q, q = val ((U.drop j).take (m + 2 + 1)) / (b * 2 ^ s) := ⟨_, rfl⟩
        rw [← hq]
        obtain ⟨hq1, hst⟩ := REL.out.step (by rw [← VF.out.2.2.2.1]; exact VF.out.2.2.2.2) hq hul hL hvu
        have OQ6 := KP.own OQ.out hqg
        obtain ⟨hcz, hfz⟩ := own_cell OQ6 j (by omega)
        have HST := Lib.hid hst
        have KQ := fun x => (Kp.refl gq w6).setCell (o := j) x
        have OW7 := Lib.hid (fun x => (KQ x).own OW (Ne.symm hqg))
        have CV7 := Lib.hid (fun x => (KQ x).cells hqv (KP.cells hvg CV.out))
        have OQ7 := Lib.hid (own_store OQ6 j q rfl)
        have B7 := Lib.hid (fun x => (BB.out.trans (KP.below hgb)).trans ((KQ x).below hqw))
        clear hst hvu hul hL OW KP OQ6 KQ hq REL OU OQ CV BB
        go_wp2
        go_roundw
        case rel => exact ⟨j, (j : Int) - 1, _, _, by omega, by omega, by omega, by go_num, HST, Lib.hid (OW7.out _), OQ7, Lib.hid (CV7.out _), Lib.hid (B7.out _)⟩
        case measure => simp [intOf] <;> omega
/-- a quotient, and what is left -/
theorem over_any (va vb : Value) (a b k0 : Nat) (w : World) (ha : NV w va a) (hb : NV w vb b) (hb0 : 0 < b) (hka : a < 2 ^ k0) (hk0 : k0 ≤ 40000000000000) :
    Calls Tryz.prog 107 #[va, vb] w (RetNV2 w (a / b) (a % b)) := by
  rcases Nat.lt_or_ge a b with h | h
  · rw [Nat.div_eq_of_lt h, Nat.mod_eq_of_lt h]; exact over_less va vb a b k0 w ha hb h hka hk0
  · rcases Nat.lt_or_ge b 4294967296 with h1 | h1
    · exact over_one va vb a b k0 w ha hb h hb0 h1 hka hk0
    · exact over_long va vb a b k0 w ha hb h h1 hka hk0
end Go.Proofs.YtofdjfdnckmmmaaGreatDoor
