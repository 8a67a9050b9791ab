/-
  THE WALK of wanted.Parse.
-/
import Derived.Test.YtjmmgffdagcflaaGreatDoorWpp
set_option linter.unusedVariables false
set_option linter.unusedSimpArgs false
namespace Go.Proofs.YtjmmgffdagcflaaGreatDoor
open Go.RowKit Go.MapKept Go.ChangeMaps Nt Fm Fl

theorem Bx8.put0 {w : World} {b : Nat} {T : TypeId} {v : Int} {mi pl bl ze al : Bool} {wd pr : Int} (h : Bx8 w b T v mi pl bl ze al wd pr) (x : Int) : Bx8 (w.setCell ⟨b, 0, none⟩ (.int .i64 x)) b T x mi pl bl ze al wd pr := heap_set h
theorem Bx8.put1 {w : World} {b : Nat} {T : TypeId} {v : Int} {mi pl bl ze al : Bool} {wd pr : Int} (h : Bx8 w b T v mi pl bl ze al wd pr) (x : Bool) : Bx8 (w.setCell ⟨b, 1, none⟩ (.bool x)) b T v x pl bl ze al wd pr := heap_set h
theorem Bx8.put2 {w : World} {b : Nat} {T : TypeId} {v : Int} {mi pl bl ze al : Bool} {wd pr : Int} (h : Bx8 w b T v mi pl bl ze al wd pr) (x : Bool) : Bx8 (w.setCell ⟨b, 2, none⟩ (.bool x)) b T v mi x bl ze al wd pr := heap_set h
theorem Bx8.put3 {w : World} {b : Nat} {T : TypeId} {v : Int} {mi pl bl ze al : Bool} {wd pr : Int} (h : Bx8 w b T v mi pl bl ze al wd pr) (x : Bool) : Bx8 (w.setCell ⟨b, 3, none⟩ (.bool x)) b T v mi pl x ze al wd pr := heap_set h
theorem Bx8.put4 {w : World} {b : Nat} {T : TypeId} {v : Int} {mi pl bl ze al : Bool} {wd pr : Int} (h : Bx8 w b T v mi pl bl ze al wd pr) (x : Bool) : Bx8 (w.setCell ⟨b, 4, none⟩ (.bool x)) b T v mi pl bl x al wd pr := heap_set h
theorem Bx8.put5 {w : World} {b : Nat} {T : TypeId} {v : Int} {mi pl bl ze al : Bool} {wd pr : Int} (h : Bx8 w b T v mi pl bl ze al wd pr) (x : Bool) : Bx8 (w.setCell ⟨b, 5, none⟩ (.bool x)) b T v mi pl bl ze x wd pr := heap_set h
theorem Bx8.put6 {w : World} {b : Nat} {T : TypeId} {v : Int} {mi pl bl ze al : Bool} {wd pr : Int} (h : Bx8 w b T v mi pl bl ze al wd pr) (x : Int) : Bx8 (w.setCell ⟨b, 6, none⟩ (.int .i64 x)) b T v mi pl bl ze al x pr := heap_set h
theorem Bx8.put7 {w : World} {b : Nat} {T : TypeId} {v : Int} {mi pl bl ze al : Bool} {wd pr : Int} (h : Bx8 w b T v mi pl bl ze al wd pr) (x : Int) : Bx8 (w.setCell ⟨b, 7, none⟩ (.int .i64 x)) b T v mi pl bl ze al wd x := heap_set h
theorem Bx8.other {w : World} {b : Nat} {T : TypeId} {v : Int} {mi pl bl ze al : Bool} {wd pr : Int} (h : Bx8 w b T v mi pl bl ze al wd pr) {b' : Nat} (hb : b ≠ b') (i : Nat) (u : Value) : Bx8 (w.setCell ⟨b', i, none⟩ u) b T v mi pl bl ze al wd pr := (Below.heap_setCell _ _ _ _ hb).trans h
theorem Bx8.fr {w : World} {b : Nat} {T : TypeId} {v : Int} {mi pl bl ze al : Bool} {wd pr : Int} (h : Bx8 w b T v mi pl bl ze al wd pr) (i : Nat) : w.frozen? ⟨b, i, none⟩ = false := by unfold Bx8 at h; simp [World.frozen?, h]
theorem map_other {w : World} {b b' i : Nat} {u : Value} {o : Obj} (h : w.heap[b]? = some o) (hb : b ≠ b') : (w.setCell ⟨b', i, none⟩ u).heap[b]? = some o := (Below.heap_setCell _ _ _ _ hb).trans h
theorem fpS_stop {F : Fg} {L : List UInt8} {st : Fg} {l : List UInt8} (h : fpS st l = (F, L)) (hl : ∀ c m, l = c :: m → c ≠ 45 ∧ c ≠ 43 ∧ c ≠ 32 ∧ c ≠ 48 ∧ c ≠ 35) : F = st ∧ L = l := by
  obtain ⟨a, b, c, d, e⟩ := st
  cases l with
  | nil => simp only [fpS] at h; exact ⟨(Prod.mk.inj h).1.symm, (Prod.mk.inj h).2.symm⟩
  | cons x m =>
    obtain ⟨h1, h2, h3, h4, h5⟩ := hl x m rfl
    simp only [fpS, if_neg h1, if_neg h2, if_neg h3, if_neg h4, if_neg h5] at h
    exact ⟨(Prod.mk.inj h).1.symm, (Prod.mk.inj h).2.symm⟩
set_option maxRecDepth 100000 in
set_option maxHeartbeats 8000000 in
theorem wparse_t (S : ByteArray) (t : List UInt8) (T : ByteArray) (hT : Hid (T = ⟨t.toArray⟩ ∧ True)) (ht : t.length ≤ 1000000000000000) (w : World) (mI pL bL zE aL : Bool) (L : List UInt8) (hF : Hid (fpS (false, false, false, false, false) t = ((mI, pL, bL, zE, aL), L) ∧ True))
    (n1 n2 n4 c4 : Nat) (q1 : n1 ≤ 100000) (q2 : n2 ≤ 100000) (qc : c4 < 256) (R1 T3 R2 R4 : ByteArray) (d : Bool) (p ix : Int) (z4 : R4.size = n4) (b4 : n4 ≤ 1000000000000000)
    (hd : (d = true ∧ R4 = R2 ∧ p = (n2 : Int)) ∨ (d = false ∧ R4 = R1 ∧ p = -1)) (h4 : ∀ h : 0 < R4.size, ((R4[0]'h).toNat : Int) = (c4 : Int))
    (CP : Hid (∀ w' : World, Calls Tryz.prog 59 #[.string S, .string ⟨#[37]⟩] w' fun e w2 => e = .returned (.tuple #[.string T, .bool true]) ∧ w' = w2))
    (NU : Hid (∀ (TL : ByteArray) (w' : World), TL = ⟨L.toArray⟩ → Calls Tryz.prog 60 #[.string TL] w' fun e w2 => e = .returned (.tuple #[.int .i64 (n1 : Int), .string R1]) ∧ Below w'.heap.size w' w2))
    (CQ : Hid (∀ w' : World, Calls Tryz.prog 59 #[.string R1, .string ⟨#[46]⟩] w' fun e w2 => e = .returned (.tuple #[.string T3, .bool d]) ∧ w' = w2))
    (NV : Hid (∀ w' : World, Calls Tryz.prog 60 #[.string T3] w' fun e w2 => e = .returned (.tuple #[.int .i64 (n2 : Int), .string R2]) ∧ Below w'.heap.size w' w2))
    (IB : Hid (∀ w' : World, Calls Tryz.prog 25 #[.string ⟨#[101, 102, 103, 97]⟩, .int .u8 (c4 : Int)] w' fun e w2 => e = .returned (.int .i64 ix) ∧ w' = w2))
    (V : Value) (E : Int) (hV : Hid ((n4 ≠ 1 → V = spz.v ∧ E = 5) ∧ (n4 = 1 → ix < 0 → V = spz.v ∧ E = 5) ∧ (n4 = 1 → 0 ≤ ix → 200 < n1 → V = spz.v ∧ E = 1) ∧ (n4 = 1 → 0 ≤ ix → 100 < p → V = spz.v ∧ E = 1) ∧ (n4 = 1 → 0 ≤ ix → n1 ≤ 200 → p ≤ 100 → V = .agg #[.int .i64 (c4 : Int), .bool mI, .bool pL, .bool bL, .bool zE, .bool aL, .int .i64 (n1 : Int), .int .i64 p] ∧ E = 0))) :
    Calls Tryz.prog 22 #[.string S] w fun e w' => e = .returned (.tuple #[V, .int .i64 E]) ∧ Below w.heap.size w w' := by
  obtain ⟨w1, hw1⟩ : ∃ w1, w1 = (w.alloc (.cells #[.int .i64 0, .bool false, .bool false, .bool false, .bool false, .bool false, .int .i64 0, .int .i64 0] 48)).alloc (.cells #[.int .i64 0, .bool false, .bool false, .bool false, .bool false, .bool false, .int .i64 0, .int .i64 (-1)] 48) := ⟨_, rfl⟩
  have hmm := @run_makeMap Tryz.prog
  have hz : w1.heap.size = w.heap.size + 1 + 1 := by rw [hw1, size_alloc, size_alloc]
  have hm : (w1.alloc (.map #[] 0)).heap[w.heap.size + 1 + 1]? = some (.map #[] 0) := by rw [← hz]; exact heap_alloc_new w1 _
  obtain ⟨V1, V2, V3, V4, V5, r1, r2, r3, r4, r5, m5, ks, B0⟩ := wp_ins (w1.alloc (.map #[] 0)) (w.heap.size + 1) (w.heap.size + 1 + 1) (by omega) hm w.heap.size (by omega)
  have X5 : Hid (Bx8 V5 (w.heap.size + 1) 48 0 false false false false false 0 (-1)) := Lib.hid (by
    unfold Bx8
    rw [ks _ (by omega), heap_alloc_old _ _ (by omega), hw1]
    have := heap_alloc_new (w.alloc (.cells #[.int .i64 0, .bool false, .bool false, .bool false, .bool false, .bool false, .int .i64 0, .int .i64 0] 48)) (.cells #[.int .i64 0, .bool false, .bool false, .bool false, .bool false, .bool false, .int .i64 0, .int .i64 (-1)] 48)
    rw [show (w.alloc (.cells #[.int .i64 0, .bool false, .bool false, .bool false, .bool false, .bool false, .int .i64 0, .int .i64 0] 48)).heap.size = w.heap.size + 1 from size_alloc _ _] at this
    exact this)
  have X2 : Hid (Bx8 V5 w.heap.size 48 0 false false false false false 0 0) := Lib.hid (by
    unfold Bx8
    rw [ks _ (by omega), heap_alloc_old _ _ (by omega), hw1, heap_alloc_old _ _ (by rw [size_alloc]; omega)]
    exact heap_alloc_new w _)
  have BB : Hid (Below w.heap.size w V5) := Lib.hid (by
    rw [hw1] at B0
    have b1 := (Below.refl w.heap.size w).alloc (Nat.le_refl _) (.cells #[.int .i64 0, .bool false, .bool false, .bool false, .bool false, .bool false, .int .i64 0, .int .i64 0] 48)
    have b2 := b1.alloc (by rw [size_alloc]; omega) (.cells #[.int .i64 0, .bool false, .bool false, .bool false, .bool false, .bool false, .int .i64 0, .int .i64 (-1)] 48)
    have b3 := b2.alloc (by rw [size_alloc, size_alloc]; omega) (.map #[] 0)
    exact b3.trans B0)
  have M5 := Lib.hid m5
  rw [hw1] at r1
  clear ks B0 m5 hm hz hw1
  have HF := Lib.hid hF.out
  clear hF
  have HT := hT
  have HV := Lib.hid hV.out
  have HD := Lib.hid hd
  have H4 := Lib.hid h4
  clear hT hV hd h4
  go_enter Tryz.func22, Tryz.ntmps22
  go_wp2_with (go_at_call 59; refine (CP.out _).mono ?_; rintro e w1 ⟨rfl, rfl⟩)
  clear r1 r2 r3 r4 r5 hmm
  go_loopw [0] (fun u wr => ∃ (l : List UInt8) (T : ByteArray) (mi pl bl ze al : Bool), u = .string T ∧ Hid (T = ⟨l.toArray⟩ ∧ True) ∧ l.length ≤ 1000000000000000 ∧ Hid (fpS (mi, pl, bl, ze, al) l = ((mI, pL, bL, zE, aL), L) ∧ True) ∧ Hid (Bx8 wr (w.heap.size + 1) 48 0 mi pl bl ze al 0 (-1)) ∧ Hid (Bx8 wr w.heap.size 48 0 false false false false false 0 0) ∧ Hid (wr.heap[w.heap.size + 1 + 1]? = some (.map (mES (w.heap.size + 1)) 5)) ∧ Hid (Below w.heap.size w wr)) (fun u _ => sLn u)
  case atStart => exact ⟨t, T, false, false, false, false, false, rfl, HT, ht, HF, X5, X2, M5, BB⟩
  case round =>
    clear X5 X2 M5 BB HF HT
    obtain ⟨l, T, mi, pl, bl, ze, al, rfl, hT, hl, HF, X5, X2, M5, B⟩ := hrel
    have zT : T.size = l.length := by rw [hT.out.1]; rfl
    have zTb : T.size ≤ 1000000000000000 := by omega
    obtain ⟨c0, c1, c2, c3, c4', c5, c6, c7⟩ := X5.out.cells
    by_cases hfl : ∃ c m, l = c :: m ∧ (c = 45 ∨ c = 43 ∨ c = 32 ∨ c = 48 ∨ c = 35)
    · obtain ⟨c, m, rfl, hc⟩ := hfl
      obtain ⟨k, hk⟩ : ∃ k, k = m.length := ⟨_, rfl⟩
      rw [List.length_cons, ← hk] at zT
      have hE : T.toList.isEmpty = false := by rw [ByteArray.toList_eq, hT.out.1]; rfl
      have hT0 : 0 < T.size := by omega
      have h0 : ((T[0]'hT0).toNat : Int) = (c.toNat : Int) := by
        have : ∀ (D : ByteArray) (h : 0 < D.size), D = ⟨(c :: m).toArray⟩ → D[0]'h = c := by
          intro D h e; subst e; rfl
        rw [this T hT0 hT.out.1]
      have hx : T.extract 1 (k + 1) = ⟨m.toArray⟩ := by rw [hT.out.1]; exact w_tail c m _ (by omega)
      have hlk := wp_look wr (w.heap.size + 1) (w.heap.size + 1 + 1) M5.out (c.toNat : Int)
      obtain ⟨T2, hT2⟩ : ∃ T2 : ByteArray, T2 = ⟨m.toArray⟩ := ⟨_, rfl⟩
      rw [← hT2] at hx
      have zT2 : T2.size = k := by rw [hT2, hk]; rfl
      have HF1 := HF.out.1
      have HT2 := Lib.hid (⟨hT2, trivial⟩ : T2 = ⟨m.toArray⟩ ∧ True)
      have hll : m.length ≤ 1000000000000000 := by rw [List.length_cons] at hl; omega
      have hkk : k ≤ 1000000000000000 := by omega
      clear HF hl hT hT2 hk
      rcases hc with rfl | rfl | rfl | rfl | rfl
      · replace HF1 : fpS (true, pl, bl, ze, al) m = ((mI, pL, bL, zE, aL), L) := HF1
        have HF := Lib.hid (⟨HF1, trivial⟩ : fpS (true, pl, bl, ze, al) m = ((mI, pL, bL, zE, aL), L) ∧ True)
        clear HF1
        replace hlk : Sem.run Tryz.prog (Instr.lookup 92 (.map (some (w.heap.size + 1 + 1))) (.int .u8 45) false) wr = .ok (.pointer (some ⟨w.heap.size + 1, 1, none⟩)) wr := hlk
        replace h0 : ((T[0]'hT0).toNat : Int) = 45 := h0
        have f := X5.out.fr 1
        go_wp2
        go_roundw
        case rel => exact ⟨m, T2, true, pl, bl, ze, al, rfl, HT2, hll, HF, Lib.hid (X5.out.put1 true), Lib.hid (X2.out.other (by omega) _ _), Lib.hid (map_other M5.out (by omega)), Lib.hid (B.out.setCell (by simp) _)⟩
        case measure =>
          show T2.size < T.size
          omega
      · replace HF1 : fpS (mi, true, bl, ze, al) m = ((mI, pL, bL, zE, aL), L) := HF1
        have HF := Lib.hid (⟨HF1, trivial⟩ : fpS (mi, true, bl, ze, al) m = ((mI, pL, bL, zE, aL), L) ∧ True)
        clear HF1
        replace hlk : Sem.run Tryz.prog (Instr.lookup 92 (.map (some (w.heap.size + 1 + 1))) (.int .u8 43) false) wr = .ok (.pointer (some ⟨w.heap.size + 1, 2, none⟩)) wr := hlk
        replace h0 : ((T[0]'hT0).toNat : Int) = 43 := h0
        have f := X5.out.fr 2
        go_wp2
        go_roundw
        case rel => exact ⟨m, T2, mi, true, bl, ze, al, rfl, HT2, hll, HF, Lib.hid (X5.out.put2 true), Lib.hid (X2.out.other (by omega) _ _), Lib.hid (map_other M5.out (by omega)), Lib.hid (B.out.setCell (by simp) _)⟩
        case measure =>
          show T2.size < T.size
          omega
      · replace HF1 : fpS (mi, pl, true, ze, al) m = ((mI, pL, bL, zE, aL), L) := HF1
        have HF := Lib.hid (⟨HF1, trivial⟩ : fpS (mi, pl, true, ze, al) m = ((mI, pL, bL, zE, aL), L) ∧ True)
        clear HF1
        replace hlk : Sem.run Tryz.prog (Instr.lookup 92 (.map (some (w.heap.size + 1 + 1))) (.int .u8 32) false) wr = .ok (.pointer (some ⟨w.heap.size + 1, 3, none⟩)) wr := hlk
        replace h0 : ((T[0]'hT0).toNat : Int) = 32 := h0
        have f := X5.out.fr 3
        go_wp2
        go_roundw
        case rel => exact ⟨m, T2, mi, pl, true, ze, al, rfl, HT2, hll, HF, Lib.hid (X5.out.put3 true), Lib.hid (X2.out.other (by omega) _ _), Lib.hid (map_other M5.out (by omega)), Lib.hid (B.out.setCell (by simp) _)⟩
        case measure =>
          show T2.size < T.size
          omega
      · replace HF1 : fpS (mi, pl, bl, true, al) m = ((mI, pL, bL, zE, aL), L) := HF1
        have HF := Lib.hid (⟨HF1, trivial⟩ : fpS (mi, pl, bl, true, al) m = ((mI, pL, bL, zE, aL), L) ∧ True)
        clear HF1
        replace hlk : Sem.run Tryz.prog (Instr.lookup 92 (.map (some (w.heap.size + 1 + 1))) (.int .u8 48) false) wr = .ok (.pointer (some ⟨w.heap.size + 1, 4, none⟩)) wr := hlk
        replace h0 : ((T[0]'hT0).toNat : Int) = 48 := h0
        have f := X5.out.fr 4
        go_wp2
        go_roundw
        case rel => exact ⟨m, T2, mi, pl, bl, true, al, rfl, HT2, hll, HF, Lib.hid (X5.out.put4 true), Lib.hid (X2.out.other (by omega) _ _), Lib.hid (map_other M5.out (by omega)), Lib.hid (B.out.setCell (by simp) _)⟩
        case measure =>
          show T2.size < T.size
          omega
      · replace HF1 : fpS (mi, pl, bl, ze, true) m = ((mI, pL, bL, zE, aL), L) := HF1
        have HF := Lib.hid (⟨HF1, trivial⟩ : fpS (mi, pl, bl, ze, true) m = ((mI, pL, bL, zE, aL), L) ∧ True)
        clear HF1
        replace hlk : Sem.run Tryz.prog (Instr.lookup 92 (.map (some (w.heap.size + 1 + 1))) (.int .u8 35) false) wr = .ok (.pointer (some ⟨w.heap.size + 1, 5, none⟩)) wr := hlk
        replace h0 : ((T[0]'hT0).toNat : Int) = 35 := h0
        have f := X5.out.fr 5
        go_wp2
        go_roundw
        case rel => exact ⟨m, T2, mi, pl, bl, ze, true, rfl, HT2, hll, HF, Lib.hid (X5.out.put5 true), Lib.hid (X2.out.other (by omega) _ _), Lib.hid (map_other M5.out (by omega)), Lib.hid (B.out.setCell (by simp) _)⟩
        case measure =>
          show T2.size < T.size
          omega
    · have hst := fpS_stop HF.out.1 (fun c m e => by
        refine ⟨?_, ?_, ?_, ?_, ?_⟩ <;> (intro g; exact hfl ⟨c, m, e, by simp [g]⟩))
      obtain ⟨hst1, hst2⟩ := hst
      injection hst1 with e1 hst1
      injection hst1 with e2 hst1
      injection hst1 with e3 hst1
      injection hst1 with e4 e5
      subst e1 e2 e3 e4 e5
      have HL := Lib.hid (⟨by rw [hst2]; exact hT.out.1, trivial⟩ : T = ⟨L.toArray⟩ ∧ True)
      clear hst2 HF
      rcases HD.out with ⟨hd, h1, h2⟩ | ⟨hd, h1, h2⟩
      · subst hd h1 h2
        by_cases hm : l = []
        · rcases Nat.decEq n4 1 with k4n | k4n
          · subst hm
            have hE : T.toList.isEmpty = true := by rw [ByteArray.toList_eq, hT.out.1]; rfl
            obtain ⟨rfl, rfl⟩ := HV.out.1 k4n
            go_wp2_with fail
            refine (NU.out _ _ HL.out.1).mono ?_
            rintro e w3 ⟨rfl, hb⟩
            replace X5 := Lib.hid (X5.out.below hb)
            replace X2 := Lib.hid (X2.out.below hb)
            replace B := Lib.hid (bl_thru B.out (Nat.le_refl _) hb)
            clear hb c0 c1 c2 c3 c4' c5 c6 c7 M5
            obtain ⟨c0, c1, c2, c3, c4', c5, c6, c7⟩ := X5.out.cells
            have f6 := X5.out.fr 6
            have f0 := X5.out.fr 0
            have k0 := X2.out.fr 0
            have k1 := X2.out.fr 1
            have k2 := X2.out.fr 2
            have k3 := X2.out.fr 3
            have k4 := X2.out.fr 4
            have k5 := X2.out.fr 5
            have k6 := X2.out.fr 6
            have k7 := X2.out.fr 7
            obtain ⟨g0, g1, g2, g3, g4, g5, g6, g7⟩ := X2.out.cells
            go_wp2_with (first
              | (go_at_call 59; refine (CQ.out _).mono ?_; rintro e w9 ⟨rfl, rfl⟩)
              | (go_at_call 25; refine (IB.out _).mono ?_; rintro e w9 ⟨rfl, rfl⟩))
            refine (NV.out _).mono ?_
            rintro e w4 ⟨rfl, hb⟩
            replace X5 := Lib.hid ((X5.out.put6 _).below hb)
            replace X2 := Lib.hid ((X2.out.other (by omega) _ _).below hb)
            replace B := Lib.hid (bl_thru (B.out.setCell (by simp) _) (Nat.le_refl _) hb)
            clear hb c0 c1 c2 c3 c4' c5 c6 c7 f6 f0 k0 k1 k2 k3 k4 k5 k6 k7 g0 g1 g2 g3 g4 g5 g6 g7
            obtain ⟨c0, c1, c2, c3, c4', c5, c6, c7⟩ := X5.out.cells
            have f7 := X5.out.fr 7
            have f0 := X5.out.fr 0
            have k0 := X2.out.fr 0
            have k1 := X2.out.fr 1
            have k2 := X2.out.fr 2
            have k3 := X2.out.fr 3
            have k4 := X2.out.fr 4
            have k5 := X2.out.fr 5
            have k6 := X2.out.fr 6
            have k7 := X2.out.fr 7
            obtain ⟨g0, g1, g2, g3, g4, g5, g6, g7⟩ := X2.out.cells
            go_wp2_with (go_at_call 25; refine (IB.out _).mono ?_; rintro e w9 ⟨rfl, rfl⟩)
            all_goals first
              | (have Y := (((((((((X2.out.other (b' := w.heap.size + 1) (by omega) 7 (.int .i64 (n2 : Int))).put0 0).put1 false).put2 false).put3 false).put4 false).put5 false).put6 0).put7 0)
                 obtain ⟨y0, y1, y2, y3, y4, y5, y6, y7⟩ := Y.cells
                 refine bodyPost_ret (v := .tuple #[.agg #[.int .i64 0, .bool false, .bool false, .bool false, .bool false, .bool false, .int .i64 0, .int .i64 0], .int .i64 5]) (by simp [results, Tryz.results22, go_sem, y0, y1, y2, y3, y4, y5, y6, y7]) rfl ?_
                 refine ⟨rfl, ?_⟩
                 repeat (refine Below.setCell ?_ (by simp) _)
                 exact B.out)
              | (exfalso; omega)
              | trace_state
          by_cases kx : ix < 0
          · subst hm
            have hE : T.toList.isEmpty = true := by rw [ByteArray.toList_eq, hT.out.1]; rfl
            obtain ⟨rfl, rfl⟩ := HV.out.2.1 k4n kx
            have hR0 : 0 < R4.size := by omega
            have h40 := H4.out hR0
            go_wp2_with fail
            refine (NU.out _ _ HL.out.1).mono ?_
            rintro e w3 ⟨rfl, hb⟩
            replace X5 := Lib.hid (X5.out.below hb)
            replace X2 := Lib.hid (X2.out.below hb)
            replace B := Lib.hid (bl_thru B.out (Nat.le_refl _) hb)
            clear hb c0 c1 c2 c3 c4' c5 c6 c7 M5
            obtain ⟨c0, c1, c2, c3, c4', c5, c6, c7⟩ := X5.out.cells
            have f6 := X5.out.fr 6
            have f0 := X5.out.fr 0
            have k0 := X2.out.fr 0
            have k1 := X2.out.fr 1
            have k2 := X2.out.fr 2
            have k3 := X2.out.fr 3
            have k4 := X2.out.fr 4
            have k5 := X2.out.fr 5
            have k6 := X2.out.fr 6
            have k7 := X2.out.fr 7
            obtain ⟨g0, g1, g2, g3, g4, g5, g6, g7⟩ := X2.out.cells
            go_wp2_with (first
              | (go_at_call 59; refine (CQ.out _).mono ?_; rintro e w9 ⟨rfl, rfl⟩)
              | (go_at_call 25; refine (IB.out _).mono ?_; rintro e w9 ⟨rfl, rfl⟩))
            refine (NV.out _).mono ?_
            rintro e w4 ⟨rfl, hb⟩
            replace X5 := Lib.hid ((X5.out.put6 _).below hb)
            replace X2 := Lib.hid ((X2.out.other (by omega) _ _).below hb)
            replace B := Lib.hid (bl_thru (B.out.setCell (by simp) _) (Nat.le_refl _) hb)
            clear hb c0 c1 c2 c3 c4' c5 c6 c7 f6 f0 k0 k1 k2 k3 k4 k5 k6 k7 g0 g1 g2 g3 g4 g5 g6 g7
            obtain ⟨c0, c1, c2, c3, c4', c5, c6, c7⟩ := X5.out.cells
            have f7 := X5.out.fr 7
            have f0 := X5.out.fr 0
            have k0 := X2.out.fr 0
            have k1 := X2.out.fr 1
            have k2 := X2.out.fr 2
            have k3 := X2.out.fr 3
            have k4 := X2.out.fr 4
            have k5 := X2.out.fr 5
            have k6 := X2.out.fr 6
            have k7 := X2.out.fr 7
            obtain ⟨g0, g1, g2, g3, g4, g5, g6, g7⟩ := X2.out.cells
            go_wp2_with (go_at_call 25; refine (IB.out _).mono ?_; rintro e w9 ⟨rfl, rfl⟩)
            all_goals first
              | (have Y := (((((((((X2.out.other (b' := w.heap.size + 1) (by omega) 7 (.int .i64 (n2 : Int))).put0 0).put1 false).put2 false).put3 false).put4 false).put5 false).put6 0).put7 0)
                 obtain ⟨y0, y1, y2, y3, y4, y5, y6, y7⟩ := Y.cells
                 refine bodyPost_ret (v := .tuple #[.agg #[.int .i64 0, .bool false, .bool false, .bool false, .bool false, .bool false, .int .i64 0, .int .i64 0], .int .i64 5]) (by simp [results, Tryz.results22, go_sem, y0, y1, y2, y3, y4, y5, y6, y7]) rfl ?_
                 refine ⟨rfl, ?_⟩
                 repeat (refine Below.setCell ?_ (by simp) _)
                 exact B.out)
              | (exfalso; omega)
              | trace_state
          replace kx : 0 ≤ ix := by omega
          by_cases k1n : 200 < n1
          · subst hm
            have hE : T.toList.isEmpty = true := by rw [ByteArray.toList_eq, hT.out.1]; rfl
            obtain ⟨rfl, rfl⟩ := HV.out.2.2.1 k4n kx k1n
            have hR0 : 0 < R4.size := by omega
            have h40 := H4.out hR0
            go_wp2_with fail
            refine (NU.out _ _ HL.out.1).mono ?_
            rintro e w3 ⟨rfl, hb⟩
            replace X5 := Lib.hid (X5.out.below hb)
            replace X2 := Lib.hid (X2.out.below hb)
            replace B := Lib.hid (bl_thru B.out (Nat.le_refl _) hb)
            clear hb c0 c1 c2 c3 c4' c5 c6 c7 M5
            obtain ⟨c0, c1, c2, c3, c4', c5, c6, c7⟩ := X5.out.cells
            have f6 := X5.out.fr 6
            have f0 := X5.out.fr 0
            have k0 := X2.out.fr 0
            have k1 := X2.out.fr 1
            have k2 := X2.out.fr 2
            have k3 := X2.out.fr 3
            have k4 := X2.out.fr 4
            have k5 := X2.out.fr 5
            have k6 := X2.out.fr 6
            have k7 := X2.out.fr 7
            obtain ⟨g0, g1, g2, g3, g4, g5, g6, g7⟩ := X2.out.cells
            go_wp2_with (first
              | (go_at_call 59; refine (CQ.out _).mono ?_; rintro e w9 ⟨rfl, rfl⟩)
              | (go_at_call 25; refine (IB.out _).mono ?_; rintro e w9 ⟨rfl, rfl⟩))
            refine (NV.out _).mono ?_
            rintro e w4 ⟨rfl, hb⟩
            replace X5 := Lib.hid ((X5.out.put6 _).below hb)
            replace X2 := Lib.hid ((X2.out.other (by omega) _ _).below hb)
            replace B := Lib.hid (bl_thru (B.out.setCell (by simp) _) (Nat.le_refl _) hb)
            clear hb c0 c1 c2 c3 c4' c5 c6 c7 f6 f0 k0 k1 k2 k3 k4 k5 k6 k7 g0 g1 g2 g3 g4 g5 g6 g7
            obtain ⟨c0, c1, c2, c3, c4', c5, c6, c7⟩ := X5.out.cells
            have f7 := X5.out.fr 7
            have f0 := X5.out.fr 0
            have k0 := X2.out.fr 0
            have k1 := X2.out.fr 1
            have k2 := X2.out.fr 2
            have k3 := X2.out.fr 3
            have k4 := X2.out.fr 4
            have k5 := X2.out.fr 5
            have k6 := X2.out.fr 6
            have k7 := X2.out.fr 7
            obtain ⟨g0, g1, g2, g3, g4, g5, g6, g7⟩ := X2.out.cells
            go_wp2_with (go_at_call 25; refine (IB.out _).mono ?_; rintro e w9 ⟨rfl, rfl⟩)
            all_goals first
              | (have Y := ((((((((((X2.out.other (b' := w.heap.size + 1) (by omega) 7 (.int .i64 (n2 : Int))).other (b' := w.heap.size + 1) (by omega) 0 (.int .i64 (c4 : Int))).put0 0).put1 false).put2 false).put3 false).put4 false).put5 false).put6 0).put7 0)
                 obtain ⟨y0, y1, y2, y3, y4, y5, y6, y7⟩ := Y.cells
                 refine bodyPost_ret (v := .tuple #[.agg #[.int .i64 0, .bool false, .bool false, .bool false, .bool false, .bool false, .int .i64 0, .int .i64 0], .int .i64 1]) (by simp [results, Tryz.results22, go_sem, y0, y1, y2, y3, y4, y5, y6, y7]) rfl ?_
                 refine ⟨rfl, ?_⟩
                 repeat (refine Below.setCell ?_ (by simp) _)
                 exact B.out)
              | (exfalso; omega)
              | trace_state
          replace k1n : n1 ≤ 200 := by omega
          by_cases kp : 100 < (n2 : Int)
          · subst hm
            have hE : T.toList.isEmpty = true := by rw [ByteArray.toList_eq, hT.out.1]; rfl
            obtain ⟨rfl, rfl⟩ := HV.out.2.2.2.1 k4n kx kp
            have hR0 : 0 < R4.size := by omega
            have h40 := H4.out hR0
            go_wp2_with fail
            refine (NU.out _ _ HL.out.1).mono ?_
            rintro e w3 ⟨rfl, hb⟩
            replace X5 := Lib.hid (X5.out.below hb)
            replace X2 := Lib.hid (X2.out.below hb)
            replace B := Lib.hid (bl_thru B.out (Nat.le_refl _) hb)
            clear hb c0 c1 c2 c3 c4' c5 c6 c7 M5
            obtain ⟨c0, c1, c2, c3, c4', c5, c6, c7⟩ := X5.out.cells
            have f6 := X5.out.fr 6
            have f0 := X5.out.fr 0
            have k0 := X2.out.fr 0
            have k1 := X2.out.fr 1
            have k2 := X2.out.fr 2
            have k3 := X2.out.fr 3
            have k4 := X2.out.fr 4
            have k5 := X2.out.fr 5
            have k6 := X2.out.fr 6
            have k7 := X2.out.fr 7
            obtain ⟨g0, g1, g2, g3, g4, g5, g6, g7⟩ := X2.out.cells
            go_wp2_with (first
              | (go_at_call 59; refine (CQ.out _).mono ?_; rintro e w9 ⟨rfl, rfl⟩)
              | (go_at_call 25; refine (IB.out _).mono ?_; rintro e w9 ⟨rfl, rfl⟩))
            refine (NV.out _).mono ?_
            rintro e w4 ⟨rfl, hb⟩
            replace X5 := Lib.hid ((X5.out.put6 _).below hb)
            replace X2 := Lib.hid ((X2.out.other (by omega) _ _).below hb)
            replace B := Lib.hid (bl_thru (B.out.setCell (by simp) _) (Nat.le_refl _) hb)
            clear hb c0 c1 c2 c3 c4' c5 c6 c7 f6 f0 k0 k1 k2 k3 k4 k5 k6 k7 g0 g1 g2 g3 g4 g5 g6 g7
            obtain ⟨c0, c1, c2, c3, c4', c5, c6, c7⟩ := X5.out.cells
            have f7 := X5.out.fr 7
            have f0 := X5.out.fr 0
            have k0 := X2.out.fr 0
            have k1 := X2.out.fr 1
            have k2 := X2.out.fr 2
            have k3 := X2.out.fr 3
            have k4 := X2.out.fr 4
            have k5 := X2.out.fr 5
            have k6 := X2.out.fr 6
            have k7 := X2.out.fr 7
            obtain ⟨g0, g1, g2, g3, g4, g5, g6, g7⟩ := X2.out.cells
            go_wp2_with (go_at_call 25; refine (IB.out _).mono ?_; rintro e w9 ⟨rfl, rfl⟩)
            all_goals first
              | (have Y := ((((((((((X2.out.other (b' := w.heap.size + 1) (by omega) 7 (.int .i64 (n2 : Int))).other (b' := w.heap.size + 1) (by omega) 0 (.int .i64 (c4 : Int))).put0 0).put1 false).put2 false).put3 false).put4 false).put5 false).put6 0).put7 0)
                 obtain ⟨y0, y1, y2, y3, y4, y5, y6, y7⟩ := Y.cells
                 refine bodyPost_ret (v := .tuple #[.agg #[.int .i64 0, .bool false, .bool false, .bool false, .bool false, .bool false, .int .i64 0, .int .i64 0], .int .i64 1]) (by simp [results, Tryz.results22, go_sem, y0, y1, y2, y3, y4, y5, y6, y7]) rfl ?_
                 refine ⟨rfl, ?_⟩
                 repeat (refine Below.setCell ?_ (by simp) _)
                 exact B.out)
              | (exfalso; omega)
              | trace_state
          replace kp : (n2 : Int) ≤ 100 := by omega
          · subst hm
            have hE : T.toList.isEmpty = true := by rw [ByteArray.toList_eq, hT.out.1]; rfl
            obtain ⟨rfl, rfl⟩ := HV.out.2.2.2.2 k4n kx k1n kp
            have hR0 : 0 < R4.size := by omega
            have h40 := H4.out hR0
            go_wp2_with fail
            refine (NU.out _ _ HL.out.1).mono ?_
            rintro e w3 ⟨rfl, hb⟩
            replace X5 := Lib.hid (X5.out.below hb)
            replace X2 := Lib.hid (X2.out.below hb)
            replace B := Lib.hid (bl_thru B.out (Nat.le_refl _) hb)
            clear hb c0 c1 c2 c3 c4' c5 c6 c7 M5
            obtain ⟨c0, c1, c2, c3, c4', c5, c6, c7⟩ := X5.out.cells
            have f6 := X5.out.fr 6
            have f0 := X5.out.fr 0
            have k0 := X2.out.fr 0
            have k1 := X2.out.fr 1
            have k2 := X2.out.fr 2
            have k3 := X2.out.fr 3
            have k4 := X2.out.fr 4
            have k5 := X2.out.fr 5
            have k6 := X2.out.fr 6
            have k7 := X2.out.fr 7
            obtain ⟨g0, g1, g2, g3, g4, g5, g6, g7⟩ := X2.out.cells
            go_wp2_with (first
              | (go_at_call 59; refine (CQ.out _).mono ?_; rintro e w9 ⟨rfl, rfl⟩)
              | (go_at_call 25; refine (IB.out _).mono ?_; rintro e w9 ⟨rfl, rfl⟩))
            refine (NV.out _).mono ?_
            rintro e w4 ⟨rfl, hb⟩
            replace X5 := Lib.hid ((X5.out.put6 _).below hb)
            replace X2 := Lib.hid ((X2.out.other (by omega) _ _).below hb)
            replace B := Lib.hid (bl_thru (B.out.setCell (by simp) _) (Nat.le_refl _) hb)
            clear hb c0 c1 c2 c3 c4' c5 c6 c7 f6 f0 k0 k1 k2 k3 k4 k5 k6 k7 g0 g1 g2 g3 g4 g5 g6 g7
            obtain ⟨c0, c1, c2, c3, c4', c5, c6, c7⟩ := X5.out.cells
            have f7 := X5.out.fr 7
            have f0 := X5.out.fr 0
            have k0 := X2.out.fr 0
            have k1 := X2.out.fr 1
            have k2 := X2.out.fr 2
            have k3 := X2.out.fr 3
            have k4 := X2.out.fr 4
            have k5 := X2.out.fr 5
            have k6 := X2.out.fr 6
            have k7 := X2.out.fr 7
            obtain ⟨g0, g1, g2, g3, g4, g5, g6, g7⟩ := X2.out.cells
            go_wp2_with (go_at_call 25; refine (IB.out _).mono ?_; rintro e w9 ⟨rfl, rfl⟩)
            all_goals first
              | (have Y := ((((((((((X2.out.other (b' := w.heap.size + 1) (by omega) 7 (.int .i64 (n2 : Int))).other (b' := w.heap.size + 1) (by omega) 0 (.int .i64 (c4 : Int))).put0 (c4 : Int)).put1 mI).put2 pL).put3 bL).put4 zE).put5 aL).put6 (n1 : Int)).put7 (n2 : Int))
                 obtain ⟨y0, y1, y2, y3, y4, y5, y6, y7⟩ := Y.cells
                 refine bodyPost_ret (v := .tuple #[.agg #[.int .i64 (c4 : Int), .bool mI, .bool pL, .bool bL, .bool zE, .bool aL, .int .i64 (n1 : Int), .int .i64 (n2 : Int)], .int .i64 0]) (by simp [results, Tryz.results22, go_sem, y0, y1, y2, y3, y4, y5, y6, y7]) rfl ?_
                 refine ⟨rfl, ?_⟩
                 repeat (refine Below.setCell ?_ (by simp) _)
                 exact B.out)
              | (exfalso; omega)
              | trace_state
        · rcases Nat.decEq n4 1 with k4n | k4n
          · obtain ⟨c, m, rfl⟩ : ∃ c m, l = c :: m := by
              cases l with
              | nil => exact absurd rfl hm
              | cons c m => exact ⟨c, m, rfl⟩
            have hE : T.toList.isEmpty = false := by rw [ByteArray.toList_eq, hT.out.1]; rfl
            have hT0 : 0 < T.size := by rw [zT]; simp
            have h0 : ((T[0]'hT0).toNat : Int) = (c.toNat : Int) := by
              have : ∀ (D : ByteArray) (h : 0 < D.size), D = ⟨(c :: m).toArray⟩ → D[0]'h = c := by
                intro D h e; subst e; rfl
              rw [this T hT0 hT.out.1]
            have hlk := wp_look wr (w.heap.size + 1) (w.heap.size + 1 + 1) M5.out (c.toNat : Int)
            have hn : ∀ k : UInt8, (k = 45 ∨ k = 43 ∨ k = 32 ∨ k = 48 ∨ k = 35) → ¬ ((c.toNat : Int) = (k.toNat : Int)) := by
              intro k hk e
              refine hfl ⟨c, m, rfl, ?_⟩
              rw [UInt8.toNat_inj.1 (Int.ofNat_inj.1 e)]
              exact hk
            have e1 : ¬ ((c.toNat : Int) = 45) := hn 45 (by simp)
            have e2 : ¬ ((c.toNat : Int) = 43) := hn 43 (by simp)
            have e3 : ¬ ((c.toNat : Int) = 32) := hn 32 (by simp)
            have e4 : ¬ ((c.toNat : Int) = 48) := hn 48 (by simp)
            have e5 : ¬ ((c.toNat : Int) = 35) := hn 35 (by simp)
            rw [if_neg e1, if_neg e2, if_neg e3, if_neg e4, if_neg e5] at hlk
            clear e1 e2 e3 e4 e5 hn hfl
            have hcb := c.toNat_lt
            generalize c.toNat = cc at h0 hlk hcb
            obtain ⟨rfl, rfl⟩ := HV.out.1 k4n
            go_wp2_with fail
            refine (NU.out _ _ HL.out.1).mono ?_
            rintro e w3 ⟨rfl, hb⟩
            replace X5 := Lib.hid (X5.out.below hb)
            replace X2 := Lib.hid (X2.out.below hb)
            replace B := Lib.hid (bl_thru B.out (Nat.le_refl _) hb)
            clear hb c0 c1 c2 c3 c4' c5 c6 c7 M5
            obtain ⟨c0, c1, c2, c3, c4', c5, c6, c7⟩ := X5.out.cells
            have f6 := X5.out.fr 6
            have f0 := X5.out.fr 0
            have k0 := X2.out.fr 0
            have k1 := X2.out.fr 1
            have k2 := X2.out.fr 2
            have k3 := X2.out.fr 3
            have k4 := X2.out.fr 4
            have k5 := X2.out.fr 5
            have k6 := X2.out.fr 6
            have k7 := X2.out.fr 7
            obtain ⟨g0, g1, g2, g3, g4, g5, g6, g7⟩ := X2.out.cells
            go_wp2_with (first
              | (go_at_call 59; refine (CQ.out _).mono ?_; rintro e w9 ⟨rfl, rfl⟩)
              | (go_at_call 25; refine (IB.out _).mono ?_; rintro e w9 ⟨rfl, rfl⟩))
            refine (NV.out _).mono ?_
            rintro e w4 ⟨rfl, hb⟩
            replace X5 := Lib.hid ((X5.out.put6 _).below hb)
            replace X2 := Lib.hid ((X2.out.other (by omega) _ _).below hb)
            replace B := Lib.hid (bl_thru (B.out.setCell (by simp) _) (Nat.le_refl _) hb)
            clear hb c0 c1 c2 c3 c4' c5 c6 c7 f6 f0 k0 k1 k2 k3 k4 k5 k6 k7 g0 g1 g2 g3 g4 g5 g6 g7
            obtain ⟨c0, c1, c2, c3, c4', c5, c6, c7⟩ := X5.out.cells
            have f7 := X5.out.fr 7
            have f0 := X5.out.fr 0
            have k0 := X2.out.fr 0
            have k1 := X2.out.fr 1
            have k2 := X2.out.fr 2
            have k3 := X2.out.fr 3
            have k4 := X2.out.fr 4
            have k5 := X2.out.fr 5
            have k6 := X2.out.fr 6
            have k7 := X2.out.fr 7
            obtain ⟨g0, g1, g2, g3, g4, g5, g6, g7⟩ := X2.out.cells
            go_wp2_with (go_at_call 25; refine (IB.out _).mono ?_; rintro e w9 ⟨rfl, rfl⟩)
            all_goals first
              | (have Y := (((((((((X2.out.other (b' := w.heap.size + 1) (by omega) 7 (.int .i64 (n2 : Int))).put0 0).put1 false).put2 false).put3 false).put4 false).put5 false).put6 0).put7 0)
                 obtain ⟨y0, y1, y2, y3, y4, y5, y6, y7⟩ := Y.cells
                 refine bodyPost_ret (v := .tuple #[.agg #[.int .i64 0, .bool false, .bool false, .bool false, .bool false, .bool false, .int .i64 0, .int .i64 0], .int .i64 5]) (by simp [results, Tryz.results22, go_sem, y0, y1, y2, y3, y4, y5, y6, y7]) rfl ?_
                 refine ⟨rfl, ?_⟩
                 repeat (refine Below.setCell ?_ (by simp) _)
                 exact B.out)
              | (exfalso; omega)
              | trace_state
          by_cases kx : ix < 0
          · obtain ⟨c, m, rfl⟩ : ∃ c m, l = c :: m := by
              cases l with
              | nil => exact absurd rfl hm
              | cons c m => exact ⟨c, m, rfl⟩
            have hE : T.toList.isEmpty = false := by rw [ByteArray.toList_eq, hT.out.1]; rfl
            have hT0 : 0 < T.size := by rw [zT]; simp
            have h0 : ((T[0]'hT0).toNat : Int) = (c.toNat : Int) := by
              have : ∀ (D : ByteArray) (h : 0 < D.size), D = ⟨(c :: m).toArray⟩ → D[0]'h = c := by
                intro D h e; subst e; rfl
              rw [this T hT0 hT.out.1]
            have hlk := wp_look wr (w.heap.size + 1) (w.heap.size + 1 + 1) M5.out (c.toNat : Int)
            have hn : ∀ k : UInt8, (k = 45 ∨ k = 43 ∨ k = 32 ∨ k = 48 ∨ k = 35) → ¬ ((c.toNat : Int) = (k.toNat : Int)) := by
              intro k hk e
              refine hfl ⟨c, m, rfl, ?_⟩
              rw [UInt8.toNat_inj.1 (Int.ofNat_inj.1 e)]
              exact hk
            have e1 : ¬ ((c.toNat : Int) = 45) := hn 45 (by simp)
            have e2 : ¬ ((c.toNat : Int) = 43) := hn 43 (by simp)
            have e3 : ¬ ((c.toNat : Int) = 32) := hn 32 (by simp)
            have e4 : ¬ ((c.toNat : Int) = 48) := hn 48 (by simp)
            have e5 : ¬ ((c.toNat : Int) = 35) := hn 35 (by simp)
            rw [if_neg e1, if_neg e2, if_neg e3, if_neg e4, if_neg e5] at hlk
            clear e1 e2 e3 e4 e5 hn hfl
            have hcb := c.toNat_lt
            generalize c.toNat = cc at h0 hlk hcb
            obtain ⟨rfl, rfl⟩ := HV.out.2.1 k4n kx
            have hR0 : 0 < R4.size := by omega
            have h40 := H4.out hR0
            go_wp2_with fail
            refine (NU.out _ _ HL.out.1).mono ?_
            rintro e w3 ⟨rfl, hb⟩
            replace X5 := Lib.hid (X5.out.below hb)
            replace X2 := Lib.hid (X2.out.below hb)
            replace B := Lib.hid (bl_thru B.out (Nat.le_refl _) hb)
            clear hb c0 c1 c2 c3 c4' c5 c6 c7 M5
            obtain ⟨c0, c1, c2, c3, c4', c5, c6, c7⟩ := X5.out.cells
            have f6 := X5.out.fr 6
            have f0 := X5.out.fr 0
            have k0 := X2.out.fr 0
            have k1 := X2.out.fr 1
            have k2 := X2.out.fr 2
            have k3 := X2.out.fr 3
            have k4 := X2.out.fr 4
            have k5 := X2.out.fr 5
            have k6 := X2.out.fr 6
            have k7 := X2.out.fr 7
            obtain ⟨g0, g1, g2, g3, g4, g5, g6, g7⟩ := X2.out.cells
            go_wp2_with (first
              | (go_at_call 59; refine (CQ.out _).mono ?_; rintro e w9 ⟨rfl, rfl⟩)
              | (go_at_call 25; refine (IB.out _).mono ?_; rintro e w9 ⟨rfl, rfl⟩))
            refine (NV.out _).mono ?_
            rintro e w4 ⟨rfl, hb⟩
            replace X5 := Lib.hid ((X5.out.put6 _).below hb)
            replace X2 := Lib.hid ((X2.out.other (by omega) _ _).below hb)
            replace B := Lib.hid (bl_thru (B.out.setCell (by simp) _) (Nat.le_refl _) hb)
            clear hb c0 c1 c2 c3 c4' c5 c6 c7 f6 f0 k0 k1 k2 k3 k4 k5 k6 k7 g0 g1 g2 g3 g4 g5 g6 g7
            obtain ⟨c0, c1, c2, c3, c4', c5, c6, c7⟩ := X5.out.cells
            have f7 := X5.out.fr 7
            have f0 := X5.out.fr 0
            have k0 := X2.out.fr 0
            have k1 := X2.out.fr 1
            have k2 := X2.out.fr 2
            have k3 := X2.out.fr 3
            have k4 := X2.out.fr 4
            have k5 := X2.out.fr 5
            have k6 := X2.out.fr 6
            have k7 := X2.out.fr 7
            obtain ⟨g0, g1, g2, g3, g4, g5, g6, g7⟩ := X2.out.cells
            go_wp2_with (go_at_call 25; refine (IB.out _).mono ?_; rintro e w9 ⟨rfl, rfl⟩)
            all_goals first
              | (have Y := (((((((((X2.out.other (b' := w.heap.size + 1) (by omega) 7 (.int .i64 (n2 : Int))).put0 0).put1 false).put2 false).put3 false).put4 false).put5 false).put6 0).put7 0)
                 obtain ⟨y0, y1, y2, y3, y4, y5, y6, y7⟩ := Y.cells
                 refine bodyPost_ret (v := .tuple #[.agg #[.int .i64 0, .bool false, .bool false, .bool false, .bool false, .bool false, .int .i64 0, .int .i64 0], .int .i64 5]) (by simp [results, Tryz.results22, go_sem, y0, y1, y2, y3, y4, y5, y6, y7]) rfl ?_
                 refine ⟨rfl, ?_⟩
                 repeat (refine Below.setCell ?_ (by simp) _)
                 exact B.out)
              | (exfalso; omega)
              | trace_state
          replace kx : 0 ≤ ix := by omega
          by_cases k1n : 200 < n1
          · obtain ⟨c, m, rfl⟩ : ∃ c m, l = c :: m := by
              cases l with
              | nil => exact absurd rfl hm
              | cons c m => exact ⟨c, m, rfl⟩
            have hE : T.toList.isEmpty = false := by rw [ByteArray.toList_eq, hT.out.1]; rfl
            have hT0 : 0 < T.size := by rw [zT]; simp
            have h0 : ((T[0]'hT0).toNat : Int) = (c.toNat : Int) := by
              have : ∀ (D : ByteArray) (h : 0 < D.size), D = ⟨(c :: m).toArray⟩ → D[0]'h = c := by
                intro D h e; subst e; rfl
              rw [this T hT0 hT.out.1]
            have hlk := wp_look wr (w.heap.size + 1) (w.heap.size + 1 + 1) M5.out (c.toNat : Int)
            have hn : ∀ k : UInt8, (k = 45 ∨ k = 43 ∨ k = 32 ∨ k = 48 ∨ k = 35) → ¬ ((c.toNat : Int) = (k.toNat : Int)) := by
              intro k hk e
              refine hfl ⟨c, m, rfl, ?_⟩
              rw [UInt8.toNat_inj.1 (Int.ofNat_inj.1 e)]
              exact hk
            have e1 : ¬ ((c.toNat : Int) = 45) := hn 45 (by simp)
            have e2 : ¬ ((c.toNat : Int) = 43) := hn 43 (by simp)
            have e3 : ¬ ((c.toNat : Int) = 32) := hn 32 (by simp)
            have e4 : ¬ ((c.toNat : Int) = 48) := hn 48 (by simp)
            have e5 : ¬ ((c.toNat : Int) = 35) := hn 35 (by simp)
            rw [if_neg e1, if_neg e2, if_neg e3, if_neg e4, if_neg e5] at hlk
            clear e1 e2 e3 e4 e5 hn hfl
            have hcb := c.toNat_lt
            generalize c.toNat = cc at h0 hlk hcb
            obtain ⟨rfl, rfl⟩ := HV.out.2.2.1 k4n kx k1n
            have hR0 : 0 < R4.size := by omega
            have h40 := H4.out hR0
            go_wp2_with fail
            refine (NU.out _ _ HL.out.1).mono ?_
            rintro e w3 ⟨rfl, hb⟩
            replace X5 := Lib.hid (X5.out.below hb)
            replace X2 := Lib.hid (X2.out.below hb)
            replace B := Lib.hid (bl_thru B.out (Nat.le_refl _) hb)
            clear hb c0 c1 c2 c3 c4' c5 c6 c7 M5
            obtain ⟨c0, c1, c2, c3, c4', c5, c6, c7⟩ := X5.out.cells
            have f6 := X5.out.fr 6
            have f0 := X5.out.fr 0
            have k0 := X2.out.fr 0
            have k1 := X2.out.fr 1
            have k2 := X2.out.fr 2
            have k3 := X2.out.fr 3
            have k4 := X2.out.fr 4
            have k5 := X2.out.fr 5
            have k6 := X2.out.fr 6
            have k7 := X2.out.fr 7
            obtain ⟨g0, g1, g2, g3, g4, g5, g6, g7⟩ := X2.out.cells
            go_wp2_with (first
              | (go_at_call 59; refine (CQ.out _).mono ?_; rintro e w9 ⟨rfl, rfl⟩)
              | (go_at_call 25; refine (IB.out _).mono ?_; rintro e w9 ⟨rfl, rfl⟩))
            refine (NV.out _).mono ?_
            rintro e w4 ⟨rfl, hb⟩
            replace X5 := Lib.hid ((X5.out.put6 _).below hb)
            replace X2 := Lib.hid ((X2.out.other (by omega) _ _).below hb)
            replace B := Lib.hid (bl_thru (B.out.setCell (by simp) _) (Nat.le_refl _) hb)
            clear hb c0 c1 c2 c3 c4' c5 c6 c7 f6 f0 k0 k1 k2 k3 k4 k5 k6 k7 g0 g1 g2 g3 g4 g5 g6 g7
            obtain ⟨c0, c1, c2, c3, c4', c5, c6, c7⟩ := X5.out.cells
            have f7 := X5.out.fr 7
            have f0 := X5.out.fr 0
            have k0 := X2.out.fr 0
            have k1 := X2.out.fr 1
            have k2 := X2.out.fr 2
            have k3 := X2.out.fr 3
            have k4 := X2.out.fr 4
            have k5 := X2.out.fr 5
            have k6 := X2.out.fr 6
            have k7 := X2.out.fr 7
            obtain ⟨g0, g1, g2, g3, g4, g5, g6, g7⟩ := X2.out.cells
            go_wp2_with (go_at_call 25; refine (IB.out _).mono ?_; rintro e w9 ⟨rfl, rfl⟩)
            all_goals first
              | (have Y := ((((((((((X2.out.other (b' := w.heap.size + 1) (by omega) 7 (.int .i64 (n2 : Int))).other (b' := w.heap.size + 1) (by omega) 0 (.int .i64 (c4 : Int))).put0 0).put1 false).put2 false).put3 false).put4 false).put5 false).put6 0).put7 0)
                 obtain ⟨y0, y1, y2, y3, y4, y5, y6, y7⟩ := Y.cells
                 refine bodyPost_ret (v := .tuple #[.agg #[.int .i64 0, .bool false, .bool false, .bool false, .bool false, .bool false, .int .i64 0, .int .i64 0], .int .i64 1]) (by simp [results, Tryz.results22, go_sem, y0, y1, y2, y3, y4, y5, y6, y7]) rfl ?_
                 refine ⟨rfl, ?_⟩
                 repeat (refine Below.setCell ?_ (by simp) _)
                 exact B.out)
              | (exfalso; omega)
              | trace_state
          replace k1n : n1 ≤ 200 := by omega
          by_cases kp : 100 < (n2 : Int)
          · obtain ⟨c, m, rfl⟩ : ∃ c m, l = c :: m := by
              cases l with
              | nil => exact absurd rfl hm
              | cons c m => exact ⟨c, m, rfl⟩
            have hE : T.toList.isEmpty = false := by rw [ByteArray.toList_eq, hT.out.1]; rfl
            have hT0 : 0 < T.size := by rw [zT]; simp
            have h0 : ((T[0]'hT0).toNat : Int) = (c.toNat : Int) := by
              have : ∀ (D : ByteArray) (h : 0 < D.size), D = ⟨(c :: m).toArray⟩ → D[0]'h = c := by
                intro D h e; subst e; rfl
              rw [this T hT0 hT.out.1]
            have hlk := wp_look wr (w.heap.size + 1) (w.heap.size + 1 + 1) M5.out (c.toNat : Int)
            have hn : ∀ k : UInt8, (k = 45 ∨ k = 43 ∨ k = 32 ∨ k = 48 ∨ k = 35) → ¬ ((c.toNat : Int) = (k.toNat : Int)) := by
              intro k hk e
              refine hfl ⟨c, m, rfl, ?_⟩
              rw [UInt8.toNat_inj.1 (Int.ofNat_inj.1 e)]
              exact hk
            have e1 : ¬ ((c.toNat : Int) = 45) := hn 45 (by simp)
            have e2 : ¬ ((c.toNat : Int) = 43) := hn 43 (by simp)
            have e3 : ¬ ((c.toNat : Int) = 32) := hn 32 (by simp)
            have e4 : ¬ ((c.toNat : Int) = 48) := hn 48 (by simp)
            have e5 : ¬ ((c.toNat : Int) = 35) := hn 35 (by simp)
            rw [if_neg e1, if_neg e2, if_neg e3, if_neg e4, if_neg e5] at hlk
            clear e1 e2 e3 e4 e5 hn hfl
            have hcb := c.toNat_lt
            generalize c.toNat = cc at h0 hlk hcb
            obtain ⟨rfl, rfl⟩ := HV.out.2.2.2.1 k4n kx kp
            have hR0 : 0 < R4.size := by omega
            have h40 := H4.out hR0
            go_wp2_with fail
            refine (NU.out _ _ HL.out.1).mono ?_
            rintro e w3 ⟨rfl, hb⟩
            replace X5 := Lib.hid (X5.out.below hb)
            replace X2 := Lib.hid (X2.out.below hb)
            replace B := Lib.hid (bl_thru B.out (Nat.le_refl _) hb)
            clear hb c0 c1 c2 c3 c4' c5 c6 c7 M5
            obtain ⟨c0, c1, c2, c3, c4', c5, c6, c7⟩ := X5.out.cells
            have f6 := X5.out.fr 6
            have f0 := X5.out.fr 0
            have k0 := X2.out.fr 0
            have k1 := X2.out.fr 1
            have k2 := X2.out.fr 2
            have k3 := X2.out.fr 3
            have k4 := X2.out.fr 4
            have k5 := X2.out.fr 5
            have k6 := X2.out.fr 6
            have k7 := X2.out.fr 7
            obtain ⟨g0, g1, g2, g3, g4, g5, g6, g7⟩ := X2.out.cells
            go_wp2_with (first
              | (go_at_call 59; refine (CQ.out _).mono ?_; rintro e w9 ⟨rfl, rfl⟩)
              | (go_at_call 25; refine (IB.out _).mono ?_; rintro e w9 ⟨rfl, rfl⟩))
            refine (NV.out _).mono ?_
            rintro e w4 ⟨rfl, hb⟩
            replace X5 := Lib.hid ((X5.out.put6 _).below hb)
            replace X2 := Lib.hid ((X2.out.other (by omega) _ _).below hb)
            replace B := Lib.hid (bl_thru (B.out.setCell (by simp) _) (Nat.le_refl _) hb)
            clear hb c0 c1 c2 c3 c4' c5 c6 c7 f6 f0 k0 k1 k2 k3 k4 k5 k6 k7 g0 g1 g2 g3 g4 g5 g6 g7
            obtain ⟨c0, c1, c2, c3, c4', c5, c6, c7⟩ := X5.out.cells
            have f7 := X5.out.fr 7
            have f0 := X5.out.fr 0
            have k0 := X2.out.fr 0
            have k1 := X2.out.fr 1
            have k2 := X2.out.fr 2
            have k3 := X2.out.fr 3
            have k4 := X2.out.fr 4
            have k5 := X2.out.fr 5
            have k6 := X2.out.fr 6
            have k7 := X2.out.fr 7
            obtain ⟨g0, g1, g2, g3, g4, g5, g6, g7⟩ := X2.out.cells
            go_wp2_with (go_at_call 25; refine (IB.out _).mono ?_; rintro e w9 ⟨rfl, rfl⟩)
            all_goals first
              | (have Y := ((((((((((X2.out.other (b' := w.heap.size + 1) (by omega) 7 (.int .i64 (n2 : Int))).other (b' := w.heap.size + 1) (by omega) 0 (.int .i64 (c4 : Int))).put0 0).put1 false).put2 false).put3 false).put4 false).put5 false).put6 0).put7 0)
                 obtain ⟨y0, y1, y2, y3, y4, y5, y6, y7⟩ := Y.cells
                 refine bodyPost_ret (v := .tuple #[.agg #[.int .i64 0, .bool false, .bool false, .bool false, .bool false, .bool false, .int .i64 0, .int .i64 0], .int .i64 1]) (by simp [results, Tryz.results22, go_sem, y0, y1, y2, y3, y4, y5, y6, y7]) rfl ?_
                 refine ⟨rfl, ?_⟩
                 repeat (refine Below.setCell ?_ (by simp) _)
                 exact B.out)
              | (exfalso; omega)
              | trace_state
          replace kp : (n2 : Int) ≤ 100 := by omega
          · obtain ⟨c, m, rfl⟩ : ∃ c m, l = c :: m := by
              cases l with
              | nil => exact absurd rfl hm
              | cons c m => exact ⟨c, m, rfl⟩
            have hE : T.toList.isEmpty = false := by rw [ByteArray.toList_eq, hT.out.1]; rfl
            have hT0 : 0 < T.size := by rw [zT]; simp
            have h0 : ((T[0]'hT0).toNat : Int) = (c.toNat : Int) := by
              have : ∀ (D : ByteArray) (h : 0 < D.size), D = ⟨(c :: m).toArray⟩ → D[0]'h = c := by
                intro D h e; subst e; rfl
              rw [this T hT0 hT.out.1]
            have hlk := wp_look wr (w.heap.size + 1) (w.heap.size + 1 + 1) M5.out (c.toNat : Int)
            have hn : ∀ k : UInt8, (k = 45 ∨ k = 43 ∨ k = 32 ∨ k = 48 ∨ k = 35) → ¬ ((c.toNat : Int) = (k.toNat : Int)) := by
              intro k hk e
              refine hfl ⟨c, m, rfl, ?_⟩
              rw [UInt8.toNat_inj.1 (Int.ofNat_inj.1 e)]
              exact hk
            have e1 : ¬ ((c.toNat : Int) = 45) := hn 45 (by simp)
            have e2 : ¬ ((c.toNat : Int) = 43) := hn 43 (by simp)
            have e3 : ¬ ((c.toNat : Int) = 32) := hn 32 (by simp)
            have e4 : ¬ ((c.toNat : Int) = 48) := hn 48 (by simp)
            have e5 : ¬ ((c.toNat : Int) = 35) := hn 35 (by simp)
            rw [if_neg e1, if_neg e2, if_neg e3, if_neg e4, if_neg e5] at hlk
            clear e1 e2 e3 e4 e5 hn hfl
            have hcb := c.toNat_lt
            generalize c.toNat = cc at h0 hlk hcb
            obtain ⟨rfl, rfl⟩ := HV.out.2.2.2.2 k4n kx k1n kp
            have hR0 : 0 < R4.size := by omega
            have h40 := H4.out hR0
            go_wp2_with fail
            refine (NU.out _ _ HL.out.1).mono ?_
            rintro e w3 ⟨rfl, hb⟩
            replace X5 := Lib.hid (X5.out.below hb)
            replace X2 := Lib.hid (X2.out.below hb)
            replace B := Lib.hid (bl_thru B.out (Nat.le_refl _) hb)
            clear hb c0 c1 c2 c3 c4' c5 c6 c7 M5
            obtain ⟨c0, c1, c2, c3, c4', c5, c6, c7⟩ := X5.out.cells
            have f6 := X5.out.fr 6
            have f0 := X5.out.fr 0
            have k0 := X2.out.fr 0
            have k1 := X2.out.fr 1
            have k2 := X2.out.fr 2
            have k3 := X2.out.fr 3
            have k4 := X2.out.fr 4
            have k5 := X2.out.fr 5
            have k6 := X2.out.fr 6
            have k7 := X2.out.fr 7
            obtain ⟨g0, g1, g2, g3, g4, g5, g6, g7⟩ := X2.out.cells
            go_wp2_with (first
              | (go_at_call 59; refine (CQ.out _).mono ?_; rintro e w9 ⟨rfl, rfl⟩)
              | (go_at_call 25; refine (IB.out _).mono ?_; rintro e w9 ⟨rfl, rfl⟩))
            refine (NV.out _).mono ?_
            rintro e w4 ⟨rfl, hb⟩
            replace X5 := Lib.hid ((X5.out.put6 _).below hb)
            replace X2 := Lib.hid ((X2.out.other (by omega) _ _).below hb)
            replace B := Lib.hid (bl_thru (B.out.setCell (by simp) _) (Nat.le_refl _) hb)
            clear hb c0 c1 c2 c3 c4' c5 c6 c7 f6 f0 k0 k1 k2 k3 k4 k5 k6 k7 g0 g1 g2 g3 g4 g5 g6 g7
            obtain ⟨c0, c1, c2, c3, c4', c5, c6, c7⟩ := X5.out.cells
            have f7 := X5.out.fr 7
            have f0 := X5.out.fr 0
            have k0 := X2.out.fr 0
            have k1 := X2.out.fr 1
            have k2 := X2.out.fr 2
            have k3 := X2.out.fr 3
            have k4 := X2.out.fr 4
            have k5 := X2.out.fr 5
            have k6 := X2.out.fr 6
            have k7 := X2.out.fr 7
            obtain ⟨g0, g1, g2, g3, g4, g5, g6, g7⟩ := X2.out.cells
            go_wp2_with (go_at_call 25; refine (IB.out _).mono ?_; rintro e w9 ⟨rfl, rfl⟩)
            all_goals first
              | (have Y := ((((((((((X2.out.other (b' := w.heap.size + 1) (by omega) 7 (.int .i64 (n2 : Int))).other (b' := w.heap.size + 1) (by omega) 0 (.int .i64 (c4 : Int))).put0 (c4 : Int)).put1 mI).put2 pL).put3 bL).put4 zE).put5 aL).put6 (n1 : Int)).put7 (n2 : Int))
                 obtain ⟨y0, y1, y2, y3, y4, y5, y6, y7⟩ := Y.cells
                 refine bodyPost_ret (v := .tuple #[.agg #[.int .i64 (c4 : Int), .bool mI, .bool pL, .bool bL, .bool zE, .bool aL, .int .i64 (n1 : Int), .int .i64 (n2 : Int)], .int .i64 0]) (by simp [results, Tryz.results22, go_sem, y0, y1, y2, y3, y4, y5, y6, y7]) rfl ?_
                 refine ⟨rfl, ?_⟩
                 repeat (refine Below.setCell ?_ (by simp) _)
                 exact B.out)
              | (exfalso; omega)
              | trace_state
      · subst hd h1 h2
        by_cases hm : l = []
        · rcases Nat.decEq n4 1 with k4n | k4n
          · subst hm
            have hE : T.toList.isEmpty = true := by rw [ByteArray.toList_eq, hT.out.1]; rfl
            obtain ⟨rfl, rfl⟩ := HV.out.1 k4n
            go_wp2_with fail
            refine (NU.out _ _ HL.out.1).mono ?_
            rintro e w3 ⟨rfl, hb⟩
            replace X5 := Lib.hid (X5.out.below hb)
            replace X2 := Lib.hid (X2.out.below hb)
            replace B := Lib.hid (bl_thru B.out (Nat.le_refl _) hb)
            clear hb c0 c1 c2 c3 c4' c5 c6 c7 M5
            obtain ⟨c0, c1, c2, c3, c4', c5, c6, c7⟩ := X5.out.cells
            have f6 := X5.out.fr 6
            have f0 := X5.out.fr 0
            have k0 := X2.out.fr 0
            have k1 := X2.out.fr 1
            have k2 := X2.out.fr 2
            have k3 := X2.out.fr 3
            have k4 := X2.out.fr 4
            have k5 := X2.out.fr 5
            have k6 := X2.out.fr 6
            have k7 := X2.out.fr 7
            obtain ⟨g0, g1, g2, g3, g4, g5, g6, g7⟩ := X2.out.cells
            go_wp2_with (first
              | (go_at_call 59; refine (CQ.out _).mono ?_; rintro e w9 ⟨rfl, rfl⟩)
              | (go_at_call 25; refine (IB.out _).mono ?_; rintro e w9 ⟨rfl, rfl⟩))
            all_goals first
              | (have Y := (((((((((X2.out.other (b' := w.heap.size + 1) (by omega) 6 (.int .i64 (n1 : Int))).put0 0).put1 false).put2 false).put3 false).put4 false).put5 false).put6 0).put7 0)
                 obtain ⟨y0, y1, y2, y3, y4, y5, y6, y7⟩ := Y.cells
                 refine bodyPost_ret (v := .tuple #[.agg #[.int .i64 0, .bool false, .bool false, .bool false, .bool false, .bool false, .int .i64 0, .int .i64 0], .int .i64 5]) (by simp [results, Tryz.results22, go_sem, y0, y1, y2, y3, y4, y5, y6, y7]) rfl ?_
                 refine ⟨rfl, ?_⟩
                 repeat (refine Below.setCell ?_ (by simp) _)
                 exact B.out)
              | (exfalso; omega)
              | trace_state
          by_cases kx : ix < 0
          · subst hm
            have hE : T.toList.isEmpty = true := by rw [ByteArray.toList_eq, hT.out.1]; rfl
            obtain ⟨rfl, rfl⟩ := HV.out.2.1 k4n kx
            have hR0 : 0 < R4.size := by omega
            have h40 := H4.out hR0
            go_wp2_with fail
            refine (NU.out _ _ HL.out.1).mono ?_
            rintro e w3 ⟨rfl, hb⟩
            replace X5 := Lib.hid (X5.out.below hb)
            replace X2 := Lib.hid (X2.out.below hb)
            replace B := Lib.hid (bl_thru B.out (Nat.le_refl _) hb)
            clear hb c0 c1 c2 c3 c4' c5 c6 c7 M5
            obtain ⟨c0, c1, c2, c3, c4', c5, c6, c7⟩ := X5.out.cells
            have f6 := X5.out.fr 6
            have f0 := X5.out.fr 0
            have k0 := X2.out.fr 0
            have k1 := X2.out.fr 1
            have k2 := X2.out.fr 2
            have k3 := X2.out.fr 3
            have k4 := X2.out.fr 4
            have k5 := X2.out.fr 5
            have k6 := X2.out.fr 6
            have k7 := X2.out.fr 7
            obtain ⟨g0, g1, g2, g3, g4, g5, g6, g7⟩ := X2.out.cells
            go_wp2_with (first
              | (go_at_call 59; refine (CQ.out _).mono ?_; rintro e w9 ⟨rfl, rfl⟩)
              | (go_at_call 25; refine (IB.out _).mono ?_; rintro e w9 ⟨rfl, rfl⟩))
            all_goals first
              | (have Y := (((((((((X2.out.other (b' := w.heap.size + 1) (by omega) 6 (.int .i64 (n1 : Int))).put0 0).put1 false).put2 false).put3 false).put4 false).put5 false).put6 0).put7 0)
                 obtain ⟨y0, y1, y2, y3, y4, y5, y6, y7⟩ := Y.cells
                 refine bodyPost_ret (v := .tuple #[.agg #[.int .i64 0, .bool false, .bool false, .bool false, .bool false, .bool false, .int .i64 0, .int .i64 0], .int .i64 5]) (by simp [results, Tryz.results22, go_sem, y0, y1, y2, y3, y4, y5, y6, y7]) rfl ?_
                 refine ⟨rfl, ?_⟩
                 repeat (refine Below.setCell ?_ (by simp) _)
                 exact B.out)
              | (exfalso; omega)
              | trace_state
          replace kx : 0 ≤ ix := by omega
          by_cases k1n : 200 < n1
          · subst hm
            have hE : T.toList.isEmpty = true := by rw [ByteArray.toList_eq, hT.out.1]; rfl
            obtain ⟨rfl, rfl⟩ := HV.out.2.2.1 k4n kx k1n
            have hR0 : 0 < R4.size := by omega
            have h40 := H4.out hR0
            go_wp2_with fail
            refine (NU.out _ _ HL.out.1).mono ?_
            rintro e w3 ⟨rfl, hb⟩
            replace X5 := Lib.hid (X5.out.below hb)
            replace X2 := Lib.hid (X2.out.below hb)
            replace B := Lib.hid (bl_thru B.out (Nat.le_refl _) hb)
            clear hb c0 c1 c2 c3 c4' c5 c6 c7 M5
            obtain ⟨c0, c1, c2, c3, c4', c5, c6, c7⟩ := X5.out.cells
            have f6 := X5.out.fr 6
            have f0 := X5.out.fr 0
            have k0 := X2.out.fr 0
            have k1 := X2.out.fr 1
            have k2 := X2.out.fr 2
            have k3 := X2.out.fr 3
            have k4 := X2.out.fr 4
            have k5 := X2.out.fr 5
            have k6 := X2.out.fr 6
            have k7 := X2.out.fr 7
            obtain ⟨g0, g1, g2, g3, g4, g5, g6, g7⟩ := X2.out.cells
            go_wp2_with (first
              | (go_at_call 59; refine (CQ.out _).mono ?_; rintro e w9 ⟨rfl, rfl⟩)
              | (go_at_call 25; refine (IB.out _).mono ?_; rintro e w9 ⟨rfl, rfl⟩))
            all_goals first
              | (have Y := ((((((((((X2.out.other (b' := w.heap.size + 1) (by omega) 6 (.int .i64 (n1 : Int))).other (b' := w.heap.size + 1) (by omega) 0 (.int .i64 (c4 : Int))).put0 0).put1 false).put2 false).put3 false).put4 false).put5 false).put6 0).put7 0)
                 obtain ⟨y0, y1, y2, y3, y4, y5, y6, y7⟩ := Y.cells
                 refine bodyPost_ret (v := .tuple #[.agg #[.int .i64 0, .bool false, .bool false, .bool false, .bool false, .bool false, .int .i64 0, .int .i64 0], .int .i64 1]) (by simp [results, Tryz.results22, go_sem, y0, y1, y2, y3, y4, y5, y6, y7]) rfl ?_
                 refine ⟨rfl, ?_⟩
                 repeat (refine Below.setCell ?_ (by simp) _)
                 exact B.out)
              | (exfalso; omega)
              | trace_state
          replace k1n : n1 ≤ 200 := by omega
          by_cases kp : 100 < (-1 : Int)
          · subst hm
            have hE : T.toList.isEmpty = true := by rw [ByteArray.toList_eq, hT.out.1]; rfl
            obtain ⟨rfl, rfl⟩ := HV.out.2.2.2.1 k4n kx kp
            have hR0 : 0 < R4.size := by omega
            have h40 := H4.out hR0
            go_wp2_with fail
            refine (NU.out _ _ HL.out.1).mono ?_
            rintro e w3 ⟨rfl, hb⟩
            replace X5 := Lib.hid (X5.out.below hb)
            replace X2 := Lib.hid (X2.out.below hb)
            replace B := Lib.hid (bl_thru B.out (Nat.le_refl _) hb)
            clear hb c0 c1 c2 c3 c4' c5 c6 c7 M5
            obtain ⟨c0, c1, c2, c3, c4', c5, c6, c7⟩ := X5.out.cells
            have f6 := X5.out.fr 6
            have f0 := X5.out.fr 0
            have k0 := X2.out.fr 0
            have k1 := X2.out.fr 1
            have k2 := X2.out.fr 2
            have k3 := X2.out.fr 3
            have k4 := X2.out.fr 4
            have k5 := X2.out.fr 5
            have k6 := X2.out.fr 6
            have k7 := X2.out.fr 7
            obtain ⟨g0, g1, g2, g3, g4, g5, g6, g7⟩ := X2.out.cells
            go_wp2_with (first
              | (go_at_call 59; refine (CQ.out _).mono ?_; rintro e w9 ⟨rfl, rfl⟩)
              | (go_at_call 25; refine (IB.out _).mono ?_; rintro e w9 ⟨rfl, rfl⟩))
            all_goals first
              | (have Y := ((((((((((X2.out.other (b' := w.heap.size + 1) (by omega) 6 (.int .i64 (n1 : Int))).other (b' := w.heap.size + 1) (by omega) 0 (.int .i64 (c4 : Int))).put0 0).put1 false).put2 false).put3 false).put4 false).put5 false).put6 0).put7 0)
                 obtain ⟨y0, y1, y2, y3, y4, y5, y6, y7⟩ := Y.cells
                 refine bodyPost_ret (v := .tuple #[.agg #[.int .i64 0, .bool false, .bool false, .bool false, .bool false, .bool false, .int .i64 0, .int .i64 0], .int .i64 1]) (by simp [results, Tryz.results22, go_sem, y0, y1, y2, y3, y4, y5, y6, y7]) rfl ?_
                 refine ⟨rfl, ?_⟩
                 repeat (refine Below.setCell ?_ (by simp) _)
                 exact B.out)
              | (exfalso; omega)
              | trace_state
          replace kp : (-1 : Int) ≤ 100 := by omega
          · subst hm
            have hE : T.toList.isEmpty = true := by rw [ByteArray.toList_eq, hT.out.1]; rfl
            obtain ⟨rfl, rfl⟩ := HV.out.2.2.2.2 k4n kx k1n kp
            have hR0 : 0 < R4.size := by omega
            have h40 := H4.out hR0
            go_wp2_with fail
            refine (NU.out _ _ HL.out.1).mono ?_
            rintro e w3 ⟨rfl, hb⟩
            replace X5 := Lib.hid (X5.out.below hb)
            replace X2 := Lib.hid (X2.out.below hb)
            replace B := Lib.hid (bl_thru B.out (Nat.le_refl _) hb)
            clear hb c0 c1 c2 c3 c4' c5 c6 c7 M5
            obtain ⟨c0, c1, c2, c3, c4', c5, c6, c7⟩ := X5.out.cells
            have f6 := X5.out.fr 6
            have f0 := X5.out.fr 0
            have k0 := X2.out.fr 0
            have k1 := X2.out.fr 1
            have k2 := X2.out.fr 2
            have k3 := X2.out.fr 3
            have k4 := X2.out.fr 4
            have k5 := X2.out.fr 5
            have k6 := X2.out.fr 6
            have k7 := X2.out.fr 7
            obtain ⟨g0, g1, g2, g3, g4, g5, g6, g7⟩ := X2.out.cells
            go_wp2_with (first
              | (go_at_call 59; refine (CQ.out _).mono ?_; rintro e w9 ⟨rfl, rfl⟩)
              | (go_at_call 25; refine (IB.out _).mono ?_; rintro e w9 ⟨rfl, rfl⟩))
            all_goals first
              | (have Y := ((((((((((X2.out.other (b' := w.heap.size + 1) (by omega) 6 (.int .i64 (n1 : Int))).other (b' := w.heap.size + 1) (by omega) 0 (.int .i64 (c4 : Int))).put0 (c4 : Int)).put1 mI).put2 pL).put3 bL).put4 zE).put5 aL).put6 (n1 : Int)).put7 (-1))
                 obtain ⟨y0, y1, y2, y3, y4, y5, y6, y7⟩ := Y.cells
                 refine bodyPost_ret (v := .tuple #[.agg #[.int .i64 (c4 : Int), .bool mI, .bool pL, .bool bL, .bool zE, .bool aL, .int .i64 (n1 : Int), .int .i64 (-1)], .int .i64 0]) (by simp [results, Tryz.results22, go_sem, y0, y1, y2, y3, y4, y5, y6, y7]) rfl ?_
                 refine ⟨rfl, ?_⟩
                 repeat (refine Below.setCell ?_ (by simp) _)
                 exact B.out)
              | (exfalso; omega)
              | trace_state
        · rcases Nat.decEq n4 1 with k4n | k4n
          · obtain ⟨c, m, rfl⟩ : ∃ c m, l = c :: m := by
              cases l with
              | nil => exact absurd rfl hm
              | cons c m => exact ⟨c, m, rfl⟩
            have hE : T.toList.isEmpty = false := by rw [ByteArray.toList_eq, hT.out.1]; rfl
            have hT0 : 0 < T.size := by rw [zT]; simp
            have h0 : ((T[0]'hT0).toNat : Int) = (c.toNat : Int) := by
              have : ∀ (D : ByteArray) (h : 0 < D.size), D = ⟨(c :: m).toArray⟩ → D[0]'h = c := by
                intro D h e; subst e; rfl
              rw [this T hT0 hT.out.1]
            have hlk := wp_look wr (w.heap.size + 1) (w.heap.size + 1 + 1) M5.out (c.toNat : Int)
            have hn : ∀ k : UInt8, (k = 45 ∨ k = 43 ∨ k = 32 ∨ k = 48 ∨ k = 35) → ¬ ((c.toNat : Int) = (k.toNat : Int)) := by
              intro k hk e
              refine hfl ⟨c, m, rfl, ?_⟩
              rw [UInt8.toNat_inj.1 (Int.ofNat_inj.1 e)]
              exact hk
            have e1 : ¬ ((c.toNat : Int) = 45) := hn 45 (by simp)
            have e2 : ¬ ((c.toNat : Int) = 43) := hn 43 (by simp)
            have e3 : ¬ ((c.toNat : Int) = 32) := hn 32 (by simp)
            have e4 : ¬ ((c.toNat : Int) = 48) := hn 48 (by simp)
            have e5 : ¬ ((c.toNat : Int) = 35) := hn 35 (by simp)
            rw [if_neg e1, if_neg e2, if_neg e3, if_neg e4, if_neg e5] at hlk
            clear e1 e2 e3 e4 e5 hn hfl
            have hcb := c.toNat_lt
            generalize c.toNat = cc at h0 hlk hcb
            obtain ⟨rfl, rfl⟩ := HV.out.1 k4n
            go_wp2_with fail
            refine (NU.out _ _ HL.out.1).mono ?_
            rintro e w3 ⟨rfl, hb⟩
            replace X5 := Lib.hid (X5.out.below hb)
            replace X2 := Lib.hid (X2.out.below hb)
            replace B := Lib.hid (bl_thru B.out (Nat.le_refl _) hb)
            clear hb c0 c1 c2 c3 c4' c5 c6 c7 M5
            obtain ⟨c0, c1, c2, c3, c4', c5, c6, c7⟩ := X5.out.cells
            have f6 := X5.out.fr 6
            have f0 := X5.out.fr 0
            have k0 := X2.out.fr 0
            have k1 := X2.out.fr 1
            have k2 := X2.out.fr 2
            have k3 := X2.out.fr 3
            have k4 := X2.out.fr 4
            have k5 := X2.out.fr 5
            have k6 := X2.out.fr 6
            have k7 := X2.out.fr 7
            obtain ⟨g0, g1, g2, g3, g4, g5, g6, g7⟩ := X2.out.cells
            go_wp2_with (first
              | (go_at_call 59; refine (CQ.out _).mono ?_; rintro e w9 ⟨rfl, rfl⟩)
              | (go_at_call 25; refine (IB.out _).mono ?_; rintro e w9 ⟨rfl, rfl⟩))
            all_goals first
              | (have Y := (((((((((X2.out.other (b' := w.heap.size + 1) (by omega) 6 (.int .i64 (n1 : Int))).put0 0).put1 false).put2 false).put3 false).put4 false).put5 false).put6 0).put7 0)
                 obtain ⟨y0, y1, y2, y3, y4, y5, y6, y7⟩ := Y.cells
                 refine bodyPost_ret (v := .tuple #[.agg #[.int .i64 0, .bool false, .bool false, .bool false, .bool false, .bool false, .int .i64 0, .int .i64 0], .int .i64 5]) (by simp [results, Tryz.results22, go_sem, y0, y1, y2, y3, y4, y5, y6, y7]) rfl ?_
                 refine ⟨rfl, ?_⟩
                 repeat (refine Below.setCell ?_ (by simp) _)
                 exact B.out)
              | (exfalso; omega)
              | trace_state
          by_cases kx : ix < 0
          · obtain ⟨c, m, rfl⟩ : ∃ c m, l = c :: m := by
              cases l with
              | nil => exact absurd rfl hm
              | cons c m => exact ⟨c, m, rfl⟩
            have hE : T.toList.isEmpty = false := by rw [ByteArray.toList_eq, hT.out.1]; rfl
            have hT0 : 0 < T.size := by rw [zT]; simp
            have h0 : ((T[0]'hT0).toNat : Int) = (c.toNat : Int) := by
              have : ∀ (D : ByteArray) (h : 0 < D.size), D = ⟨(c :: m).toArray⟩ → D[0]'h = c := by
                intro D h e; subst e; rfl
              rw [this T hT0 hT.out.1]
            have hlk := wp_look wr (w.heap.size + 1) (w.heap.size + 1 + 1) M5.out (c.toNat : Int)
            have hn : ∀ k : UInt8, (k = 45 ∨ k = 43 ∨ k = 32 ∨ k = 48 ∨ k = 35) → ¬ ((c.toNat : Int) = (k.toNat : Int)) := by
              intro k hk e
              refine hfl ⟨c, m, rfl, ?_⟩
              rw [UInt8.toNat_inj.1 (Int.ofNat_inj.1 e)]
              exact hk
            have e1 : ¬ ((c.toNat : Int) = 45) := hn 45 (by simp)
            have e2 : ¬ ((c.toNat : Int) = 43) := hn 43 (by simp)
            have e3 : ¬ ((c.toNat : Int) = 32) := hn 32 (by simp)
            have e4 : ¬ ((c.toNat : Int) = 48) := hn 48 (by simp)
            have e5 : ¬ ((c.toNat : Int) = 35) := hn 35 (by simp)
            rw [if_neg e1, if_neg e2, if_neg e3, if_neg e4, if_neg e5] at hlk
            clear e1 e2 e3 e4 e5 hn hfl
            have hcb := c.toNat_lt
            generalize c.toNat = cc at h0 hlk hcb
            obtain ⟨rfl, rfl⟩ := HV.out.2.1 k4n kx
            have hR0 : 0 < R4.size := by omega
            have h40 := H4.out hR0
            go_wp2_with fail
            refine (NU.out _ _ HL.out.1).mono ?_
            rintro e w3 ⟨rfl, hb⟩
            replace X5 := Lib.hid (X5.out.below hb)
            replace X2 := Lib.hid (X2.out.below hb)
            replace B := Lib.hid (bl_thru B.out (Nat.le_refl _) hb)
            clear hb c0 c1 c2 c3 c4' c5 c6 c7 M5
            obtain ⟨c0, c1, c2, c3, c4', c5, c6, c7⟩ := X5.out.cells
            have f6 := X5.out.fr 6
            have f0 := X5.out.fr 0
            have k0 := X2.out.fr 0
            have k1 := X2.out.fr 1
            have k2 := X2.out.fr 2
            have k3 := X2.out.fr 3
            have k4 := X2.out.fr 4
            have k5 := X2.out.fr 5
            have k6 := X2.out.fr 6
            have k7 := X2.out.fr 7
            obtain ⟨g0, g1, g2, g3, g4, g5, g6, g7⟩ := X2.out.cells
            go_wp2_with (first
              | (go_at_call 59; refine (CQ.out _).mono ?_; rintro e w9 ⟨rfl, rfl⟩)
              | (go_at_call 25; refine (IB.out _).mono ?_; rintro e w9 ⟨rfl, rfl⟩))
            all_goals first
              | (have Y := (((((((((X2.out.other (b' := w.heap.size + 1) (by omega) 6 (.int .i64 (n1 : Int))).put0 0).put1 false).put2 false).put3 false).put4 false).put5 false).put6 0).put7 0)
                 obtain ⟨y0, y1, y2, y3, y4, y5, y6, y7⟩ := Y.cells
                 refine bodyPost_ret (v := .tuple #[.agg #[.int .i64 0, .bool false, .bool false, .bool false, .bool false, .bool false, .int .i64 0, .int .i64 0], .int .i64 5]) (by simp [results, Tryz.results22, go_sem, y0, y1, y2, y3, y4, y5, y6, y7]) rfl ?_
                 refine ⟨rfl, ?_⟩
                 repeat (refine Below.setCell ?_ (by simp) _)
                 exact B.out)
              | (exfalso; omega)
              | trace_state
          replace kx : 0 ≤ ix := by omega
          by_cases k1n : 200 < n1
          · obtain ⟨c, m, rfl⟩ : ∃ c m, l = c :: m := by
              cases l with
              | nil => exact absurd rfl hm
              | cons c m => exact ⟨c, m, rfl⟩
            have hE : T.toList.isEmpty = false := by rw [ByteArray.toList_eq, hT.out.1]; rfl
            have hT0 : 0 < T.size := by rw [zT]; simp
            have h0 : ((T[0]'hT0).toNat : Int) = (c.toNat : Int) := by
              have : ∀ (D : ByteArray) (h : 0 < D.size), D = ⟨(c :: m).toArray⟩ → D[0]'h = c := by
                intro D h e; subst e; rfl
              rw [this T hT0 hT.out.1]
            have hlk := wp_look wr (w.heap.size + 1) (w.heap.size + 1 + 1) M5.out (c.toNat : Int)
            have hn : ∀ k : UInt8, (k = 45 ∨ k = 43 ∨ k = 32 ∨ k = 48 ∨ k = 35) → ¬ ((c.toNat : Int) = (k.toNat : Int)) := by
              intro k hk e
              refine hfl ⟨c, m, rfl, ?_⟩
              rw [UInt8.toNat_inj.1 (Int.ofNat_inj.1 e)]
              exact hk
            have e1 : ¬ ((c.toNat : Int) = 45) := hn 45 (by simp)
            have e2 : ¬ ((c.toNat : Int) = 43) := hn 43 (by simp)
            have e3 : ¬ ((c.toNat : Int) = 32) := hn 32 (by simp)
            have e4 : ¬ ((c.toNat : Int) = 48) := hn 48 (by simp)
            have e5 : ¬ ((c.toNat : Int) = 35) := hn 35 (by simp)
            rw [if_neg e1, if_neg e2, if_neg e3, if_neg e4, if_neg e5] at hlk
            clear e1 e2 e3 e4 e5 hn hfl
            have hcb := c.toNat_lt
            generalize c.toNat = cc at h0 hlk hcb
            obtain ⟨rfl, rfl⟩ := HV.out.2.2.1 k4n kx k1n
            have hR0 : 0 < R4.size := by omega
            have h40 := H4.out hR0
            go_wp2_with fail
            refine (NU.out _ _ HL.out.1).mono ?_
            rintro e w3 ⟨rfl, hb⟩
            replace X5 := Lib.hid (X5.out.below hb)
            replace X2 := Lib.hid (X2.out.below hb)
            replace B := Lib.hid (bl_thru B.out (Nat.le_refl _) hb)
            clear hb c0 c1 c2 c3 c4' c5 c6 c7 M5
            obtain ⟨c0, c1, c2, c3, c4', c5, c6, c7⟩ := X5.out.cells
            have f6 := X5.out.fr 6
            have f0 := X5.out.fr 0
            have k0 := X2.out.fr 0
            have k1 := X2.out.fr 1
            have k2 := X2.out.fr 2
            have k3 := X2.out.fr 3
            have k4 := X2.out.fr 4
            have k5 := X2.out.fr 5
            have k6 := X2.out.fr 6
            have k7 := X2.out.fr 7
            obtain ⟨g0, g1, g2, g3, g4, g5, g6, g7⟩ := X2.out.cells
            go_wp2_with (first
              | (go_at_call 59; refine (CQ.out _).mono ?_; rintro e w9 ⟨rfl, rfl⟩)
              | (go_at_call 25; refine (IB.out _).mono ?_; rintro e w9 ⟨rfl, rfl⟩))
            all_goals first
              | (have Y := ((((((((((X2.out.other (b' := w.heap.size + 1) (by omega) 6 (.int .i64 (n1 : Int))).other (b' := w.heap.size + 1) (by omega) 0 (.int .i64 (c4 : Int))).put0 0).put1 false).put2 false).put3 false).put4 false).put5 false).put6 0).put7 0)
                 obtain ⟨y0, y1, y2, y3, y4, y5, y6, y7⟩ := Y.cells
                 refine bodyPost_ret (v := .tuple #[.agg #[.int .i64 0, .bool false, .bool false, .bool false, .bool false, .bool false, .int .i64 0, .int .i64 0], .int .i64 1]) (by simp [results, Tryz.results22, go_sem, y0, y1, y2, y3, y4, y5, y6, y7]) rfl ?_
                 refine ⟨rfl, ?_⟩
                 repeat (refine Below.setCell ?_ (by simp) _)
                 exact B.out)
              | (exfalso; omega)
              | trace_state
          replace k1n : n1 ≤ 200 := by omega
          by_cases kp : 100 < (-1 : Int)
          · obtain ⟨c, m, rfl⟩ : ∃ c m, l = c :: m := by
              cases l with
              | nil => exact absurd rfl hm
              | cons c m => exact ⟨c, m, rfl⟩
            have hE : T.toList.isEmpty = false := by rw [ByteArray.toList_eq, hT.out.1]; rfl
            have hT0 : 0 < T.size := by rw [zT]; simp
            have h0 : ((T[0]'hT0).toNat : Int) = (c.toNat : Int) := by
              have : ∀ (D : ByteArray) (h : 0 < D.size), D = ⟨(c :: m).toArray⟩ → D[0]'h = c := by
                intro D h e; subst e; rfl
              rw [this T hT0 hT.out.1]
            have hlk := wp_look wr (w.heap.size + 1) (w.heap.size + 1 + 1) M5.out (c.toNat : Int)
            have hn : ∀ k : UInt8, (k = 45 ∨ k = 43 ∨ k = 32 ∨ k = 48 ∨ k = 35) → ¬ ((c.toNat : Int) = (k.toNat : Int)) := by
              intro k hk e
              refine hfl ⟨c, m, rfl, ?_⟩
              rw [UInt8.toNat_inj.1 (Int.ofNat_inj.1 e)]
              exact hk
            have e1 : ¬ ((c.toNat : Int) = 45) := hn 45 (by simp)
            have e2 : ¬ ((c.toNat : Int) = 43) := hn 43 (by simp)
            have e3 : ¬ ((c.toNat : Int) = 32) := hn 32 (by simp)
            have e4 : ¬ ((c.toNat : Int) = 48) := hn 48 (by simp)
            have e5 : ¬ ((c.toNat : Int) = 35) := hn 35 (by simp)
            rw [if_neg e1, if_neg e2, if_neg e3, if_neg e4, if_neg e5] at hlk
            clear e1 e2 e3 e4 e5 hn hfl
            have hcb := c.toNat_lt
            generalize c.toNat = cc at h0 hlk hcb
            obtain ⟨rfl, rfl⟩ := HV.out.2.2.2.1 k4n kx kp
            have hR0 : 0 < R4.size := by omega
            have h40 := H4.out hR0
            go_wp2_with fail
            refine (NU.out _ _ HL.out.1).mono ?_
            rintro e w3 ⟨rfl, hb⟩
            replace X5 := Lib.hid (X5.out.below hb)
            replace X2 := Lib.hid (X2.out.below hb)
            replace B := Lib.hid (bl_thru B.out (Nat.le_refl _) hb)
            clear hb c0 c1 c2 c3 c4' c5 c6 c7 M5
            obtain ⟨c0, c1, c2, c3, c4', c5, c6, c7⟩ := X5.out.cells
            have f6 := X5.out.fr 6
            have f0 := X5.out.fr 0
            have k0 := X2.out.fr 0
            have k1 := X2.out.fr 1
            have k2 := X2.out.fr 2
            have k3 := X2.out.fr 3
            have k4 := X2.out.fr 4
            have k5 := X2.out.fr 5
            have k6 := X2.out.fr 6
            have k7 := X2.out.fr 7
            obtain ⟨g0, g1, g2, g3, g4, g5, g6, g7⟩ := X2.out.cells
            go_wp2_with (first
              | (go_at_call 59; refine (CQ.out _).mono ?_; rintro e w9 ⟨rfl, rfl⟩)
              | (go_at_call 25; refine (IB.out _).mono ?_; rintro e w9 ⟨rfl, rfl⟩))
            all_goals first
              | (have Y := ((((((((((X2.out.other (b' := w.heap.size + 1) (by omega) 6 (.int .i64 (n1 : Int))).other (b' := w.heap.size + 1) (by omega) 0 (.int .i64 (c4 : Int))).put0 0).put1 false).put2 false).put3 false).put4 false).put5 false).put6 0).put7 0)
                 obtain ⟨y0, y1, y2, y3, y4, y5, y6, y7⟩ := Y.cells
                 refine bodyPost_ret (v := .tuple #[.agg #[.int .i64 0, .bool false, .bool false, .bool false, .bool false, .bool false, .int .i64 0, .int .i64 0], .int .i64 1]) (by simp [results, Tryz.results22, go_sem, y0, y1, y2, y3, y4, y5, y6, y7]) rfl ?_
                 refine ⟨rfl, ?_⟩
                 repeat (refine Below.setCell ?_ (by simp) _)
                 exact B.out)
              | (exfalso; omega)
              | trace_state
          replace kp : (-1 : Int) ≤ 100 := by omega
          · obtain ⟨c, m, rfl⟩ : ∃ c m, l = c :: m := by
              cases l with
              | nil => exact absurd rfl hm
              | cons c m => exact ⟨c, m, rfl⟩
            have hE : T.toList.isEmpty = false := by rw [ByteArray.toList_eq, hT.out.1]; rfl
            have hT0 : 0 < T.size := by rw [zT]; simp
            have h0 : ((T[0]'hT0).toNat : Int) = (c.toNat : Int) := by
              have : ∀ (D : ByteArray) (h : 0 < D.size), D = ⟨(c :: m).toArray⟩ → D[0]'h = c := by
                intro D h e; subst e; rfl
              rw [this T hT0 hT.out.1]
            have hlk := wp_look wr (w.heap.size + 1) (w.heap.size + 1 + 1) M5.out (c.toNat : Int)
            have hn : ∀ k : UInt8, (k = 45 ∨ k = 43 ∨ k = 32 ∨ k = 48 ∨ k = 35) → ¬ ((c.toNat : Int) = (k.toNat : Int)) := by
              intro k hk e
              refine hfl ⟨c, m, rfl, ?_⟩
              rw [UInt8.toNat_inj.1 (Int.ofNat_inj.1 e)]
              exact hk
            have e1 : ¬ ((c.toNat : Int) = 45) := hn 45 (by simp)
            have e2 : ¬ ((c.toNat : Int) = 43) := hn 43 (by simp)
            have e3 : ¬ ((c.toNat : Int) = 32) := hn 32 (by simp)
            have e4 : ¬ ((c.toNat : Int) = 48) := hn 48 (by simp)
            have e5 : ¬ ((c.toNat : Int) = 35) := hn 35 (by simp)
            rw [if_neg e1, if_neg e2, if_neg e3, if_neg e4, if_neg e5] at hlk
            clear e1 e2 e3 e4 e5 hn hfl
            have hcb := c.toNat_lt
            generalize c.toNat = cc at h0 hlk hcb
            obtain ⟨rfl, rfl⟩ := HV.out.2.2.2.2 k4n kx k1n kp
            have hR0 : 0 < R4.size := by omega
            have h40 := H4.out hR0
            go_wp2_with fail
            refine (NU.out _ _ HL.out.1).mono ?_
            rintro e w3 ⟨rfl, hb⟩
            replace X5 := Lib.hid (X5.out.below hb)
            replace X2 := Lib.hid (X2.out.below hb)
            replace B := Lib.hid (bl_thru B.out (Nat.le_refl _) hb)
            clear hb c0 c1 c2 c3 c4' c5 c6 c7 M5
            obtain ⟨c0, c1, c2, c3, c4', c5, c6, c7⟩ := X5.out.cells
            have f6 := X5.out.fr 6
            have f0 := X5.out.fr 0
            have k0 := X2.out.fr 0
            have k1 := X2.out.fr 1
            have k2 := X2.out.fr 2
            have k3 := X2.out.fr 3
            have k4 := X2.out.fr 4
            have k5 := X2.out.fr 5
            have k6 := X2.out.fr 6
            have k7 := X2.out.fr 7
            obtain ⟨g0, g1, g2, g3, g4, g5, g6, g7⟩ := X2.out.cells
            go_wp2_with (first
              | (go_at_call 59; refine (CQ.out _).mono ?_; rintro e w9 ⟨rfl, rfl⟩)
              | (go_at_call 25; refine (IB.out _).mono ?_; rintro e w9 ⟨rfl, rfl⟩))
            all_goals first
              | (have Y := ((((((((((X2.out.other (b' := w.heap.size + 1) (by omega) 6 (.int .i64 (n1 : Int))).other (b' := w.heap.size + 1) (by omega) 0 (.int .i64 (c4 : Int))).put0 (c4 : Int)).put1 mI).put2 pL).put3 bL).put4 zE).put5 aL).put6 (n1 : Int)).put7 (-1))
                 obtain ⟨y0, y1, y2, y3, y4, y5, y6, y7⟩ := Y.cells
                 refine bodyPost_ret (v := .tuple #[.agg #[.int .i64 (c4 : Int), .bool mI, .bool pL, .bool bL, .bool zE, .bool aL, .int .i64 (n1 : Int), .int .i64 (-1)], .int .i64 0]) (by simp [results, Tryz.results22, go_sem, y0, y1, y2, y3, y4, y5, y6, y7]) rfl ?_
                 refine ⟨rfl, ?_⟩
                 repeat (refine Below.setCell ?_ (by simp) _)
                 exact B.out)
              | (exfalso; omega)
              | trace_state
end Go.Proofs.YtjmmgffdagcflaaGreatDoor
