import Derived.Test.YtofdjfdnckmmmaaGreatDoorIgl
set_option linter.all false
set_option maxHeartbeats 8000000
set_option maxRecDepth 100000
open Go.Proofs.Tryz
open Go.Lib (hid)
namespace Go.Proofs.YtofdjfdnckmmmaaGreatDoor
open Go.Shelf Go.RowKit Go.Lib
theorem Tryz.laysCountD:Go.Proofs.Lays.n138 prog Tryz.RN:= { Tryz.laysReplace with
 }
theorem UL:Tryz.RN.f 138=18:=by kernel_rfl
theorem UI (s:ByteArray) (w:World):Calls prog 18 #[.string s,.string ⟨#[10]⟩] w fun e w'=>e=.returned (.int .i64 ((s.data.toList.count 10:Nat):Int))/\w'=w:=by
 have h:=Any.strings_Count_one Tryz.laysCountD s 10 w;rw[UL]at h;exact h
theorem YU (S R:ByteArray) (n:Nat) (hn:n<=10000000) (hz:S.size<=10000000) (w:World) (hD:Dk w)
  (HL:∀w',Dk w'->Calls prog 11 #[.string S] w' fun e w2=>(∃v,e=.returned (.tuple #[v,.int .i64 (n:Int)]))/\Below w'.heap.size w' w2)
  (HR:∀w',Dk w'->Calls prog 16 #[.string S] w' fun e w2=>e=.returned (.string R)/\Below w'.heap.size w' w2)
  (LV:∀w',Dk w'->Calls prog 12 #[] w' fun e w2=>e=.returned (.bool true)/\Below w'.heap.size w' w2)
  (h:((16384<S.size\/S.size<=16384/\100<n)/\R=⟨#[101,114,114,111,114,32,50,10]⟩)\/S.size<=16384/\n<=100/\R.data.toList.count 10=n/\(R.toList.isEmpty=true\/R.toList.isEmpty=false/\∀w',Calls prog 19 #[.string R,.string ⟨#[10]⟩] w' fun e w2=>e=.returned (.bool true)/\w2=w')):
  Calls prog 5 #[.string S] w fun e w'=>e=.returned (.bool true)/\Below w.heap.size w w':=by
 have D0:=hid hD;have HLH:=hid HL;have HRH:=hid HR;have LVH:=hid LV;clear hD HL HR LV;have h16:16384<S.size\/S.size<=16384:=by omega
 have hE:∀(b:Bool),R.toList.isEmpty=b->True:=fun _ _=>trivial
 have CT:Hid (∀w',Calls prog 18 #[.string R,.string ⟨#[10]⟩] w' fun e w2=>e=.returned (.int .i64 ((R.data.toList.count 10:Nat):Int))/\w2=w'):=hid (fun w'=>UI R w');rcases h with⟨h1|⟨h1,h2⟩,rfl⟩|⟨h1,h2,h3,h4⟩
 case inr=>
  rw[h3]at CT;clear h3
  have HS0:Hid (R.toList.isEmpty=false->∀w',Calls prog 19 #[.string R,.string ⟨#[10]⟩] w' fun e w2=>e=.returned (.bool true)/\w2=w'):=hid (fun e=>by
   rcases h4 with h|⟨_,h⟩
   .rw[h]at e;cases e
   .exact h)
  clear h4;cases h4:R.toList.isEmpty
  all_goals
   go_enter func5,ntmps5
   go_wp2_with (first
    |(go_at_call 11;refine(HLH.out _ D0.out).mono ?_;rintro e w1 ⟨⟨v,rfl⟩,hb⟩;have D1:=hid (D0.out.below hb);have B1:=hid hb;clear hb)
    |(go_at_call 16;refine(HRH.out _ D1.out).mono ?_;rintro e w2 ⟨rfl,hb⟩;have D2:=hid (D1.out.below hb);have B2:=bt0 B1 hb;clear hb)
    |(go_at_call 12;refine(LVH.out _ D2.out).mono ?_;rintro e w3 ⟨rfl,hb⟩;replace D2:=hid (D2.out.below hb);replace B2:=bt0 B2 hb;clear hb)
    |(go_at_call 18;refine(CT.out _).mono ?_;rintro e w4 ⟨rfl,rfl⟩)
    |(go_at_call 19;refine(HS0.out h4 _).mono ?_;rintro e w4 ⟨rfl,rfl⟩))
   go_ret;exact⟨rfl,B2.out⟩
 all_goals
  go_enter func5,ntmps5
  go_wp2_with (first
   |(go_at_call 11;refine(HLH.out _ D0.out).mono ?_;rintro e w1 ⟨⟨v,rfl⟩,hb⟩;have D1:=hid (D0.out.below hb);have B1:=hid hb;clear hb)
   |(go_at_call 16;refine(HRH.out _ D1.out).mono ?_;rintro e w2 ⟨rfl,hb⟩;have D2:=hid (D1.out.below hb);have B2:=bt0 B1 hb;clear hb)
   |(go_at_call 12;refine(LVH.out _ D2.out).mono ?_;rintro e w3 ⟨rfl,hb⟩;replace D2:=hid (D2.out.below hb);replace B2:=bt0 B2 hb;clear hb))
  go_ret;exact⟨rfl,B2.out⟩
theorem Jh (R:ByteArray) (hz:R.size<=1000000000) (w:World):Calls prog 19 #[.string R,.string ⟨#[10]⟩] w fun e w'=>e=.returned (.bool (Lib.hasSuffix R.data.toList [10]))/\w'=w:=Vq R ⟨#[10]⟩ w hz
theorem nW {t:List UInt8}(h:t.length<=16384/\(aY (aR 10 t)).length<=100):gI t=runT ((aY (aR 10 t)).map ow):=by unfold gI;rw[aj h]
theorem L6 {t:List UInt8}(h:¬(t.length<=16384/\(aY (aR 10 t)).length<=100)):gI t=qa:=by unfold gI;rw[ag h]
theorem D9 (t:List UInt8):(gI t).length<=200000000:=by
 by_cases h:t.length<=16384/\(aY (aR 10 t)).length<=100
 .rw[nW h]
  have h1:=I8 ((aY (aR 10 t)).map ow) (fun o ho=>by
   obtain⟨l,hl,rfl⟩:=wv.1 ho;exact(IU h.1 hl).1)
  rw[qK]at h1;omega
 .rw[L6 h];decide
theorem De (S:ByteArray) (hz:S.size<=3000000) (w:World) (hD:Dk w):Calls prog 11 #[.string S] w fun e w2=>(∃v bl,e=.returned (.tuple #[v,.int .i64 ((aY (aR 10 S.data.toList)).length:Int)])/\w2.ownsRow w.heap.size 40 1 v (fW bl (aY (aR 10 S.data.toList))).length (fW bl (aY (aR 10 S.data.toList)))/\mK (fun c n=>n<=c) w2 v bl (aY (aR 10 S.data.toList)))/\Below w.heap.size w w2:=
 (SK S.data.toList S rfl (by have :=size_eq S;omega) w hD).mono fun e w2 ⟨v,bl,h1,h2,h3,h4⟩=>⟨⟨v,bl,h1,h2,h3⟩,h4⟩
theorem Bm (t:List UInt8):(aY (aR 10 t)).length<=t.length+1:=ct (DN _) (vZ 10 t)
theorem Tv (S:ByteArray) (hz:S.size<=3000000) (w:World) (hD:Dk w):Calls prog 5 #[.string S] w fun e w'=>e=.returned (.bool true)/\Below w.heap.size w w':=by
 have hs:=size_eq S;have hn:=Bm S.data.toList;have hl:=D9 S.data.toList;refine YU S ⟨(gI S.data.toList).toArray⟩ (aY (aR 10 S.data.toList)).length (by omega) (by omega) w hD (fun w' hD'=>(De S hz w' hD').mono fun e w2 ⟨⟨v,bl,h1,_,_⟩,h4⟩=>⟨⟨v,h1⟩,h4⟩) (fun w' hD'=>tP S.data.toList S rfl w' hD') Ey ?_;by_cases h:S.data.toList.length<=16384/\(aY (aR 10 S.data.toList)).length<=100
 .refine Or.inr ⟨by omega,h.2,?_,?_⟩
  .rw[nW h]
   show(runT _).count 10=_
   rw[KU _ (fun o ho=>by
    obtain⟨l,hl,rfl⟩:=wv.1 ho;exact ZV l),qK]
  .have e:(⟨(gI S.data.toList).toArray⟩:ByteArray).toList=gI S.data.toList:=by rw[ByteArray.toList_eq]
   rw[e];have hsz:(⟨(gI S.data.toList).toArray⟩:ByteArray).size<=1000000000:=by show(gI S.data.toList).toArray.size<=_;simp;omega
   rcases UR ((aY (aR 10 S.data.toList)).map ow) with k|⟨s,k⟩
   .exact Or.inl (by rw[nW h,k];rfl)
   .refine Or.inr ⟨by rw[nW h,k];cases s <;> rfl,fun w'=>?_⟩
    have h1:=Jh _ hsz w'
    have h2:Lib.hasSuffix (⟨(gI S.data.toList).toArray⟩:ByteArray).data.toList [10]=true:=by
     show Lib.hasSuffix (gI S.data.toList) [10]=true
     rw[nW h,k];unfold Lib.hasSuffix;rw[aj7];exact List.suffix_append s [10]
    rw[h2]at h1;exact h1
 .refine Or.inl ⟨by omega,?_⟩
  rw[L6 h];rfl
