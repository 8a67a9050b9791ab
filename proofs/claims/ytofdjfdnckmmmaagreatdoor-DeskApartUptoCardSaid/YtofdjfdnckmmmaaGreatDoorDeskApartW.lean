import Derived.Test.YtofdjfdnckmmmaaGreatDoorDeskCountsW
set_option linter.all false
set_option maxHeartbeats 8000000
set_option maxRecDepth 100000
open Go.Proofs.Tryz
open Go.Lib (hid)
namespace Go.Proofs.YtofdjfdnckmmmaaGreatDoor
open Go.Shelf Go.RowKit Go.Lib
theorem QB (s a b C R Ra Rb:ByteArray) (n:Nat) (hn:n<=10000000) (hsz:s.size<=3000000) (haz:a.size<=4000000) (hbz:b.size<=4000000) (hC:a++b=C) (w:World) (hD:Dk w)
  (HL:∀w',Dk w'->Calls prog 11 #[.string C] w' fun e w2=>(∃v,e=.returned (.tuple #[v,.int .i64 (n:Int)]))/\Below w'.heap.size w' w2)
  (LV:∀w',Dk w'->Calls prog 12 #[] w' fun e w2=>e=.returned (.bool true)/\Below w'.heap.size w' w2)
  (hs:(s.toList.isEmpty=true/\a=s)\/s.toList.isEmpty=false/\((∀w',Calls prog 19 #[.string s,.string ⟨#[10]⟩] w' fun e w2=>e=.returned (.bool true)/\w2=w')/\a=s\/(∀w',Calls prog 19 #[.string s,.string ⟨#[10]⟩] w' fun e w2=>e=.returned (.bool false)/\w2=w')/\s++⟨#[10]⟩=a))
  (h:(16384<a.size+b.size\/a.size+b.size<=16384/\100<n)\/(a.size+b.size<=16384/\n<=100)/\Ra++Rb=R/\Ra.size+Rb.size<=1000000000/\
   (∀w',Dk w'->Calls prog 16 #[.string C] w' fun e w2=>e=.returned (.string R)/\Below w'.heap.size w' w2)/\
   (∀w',Dk w'->Calls prog 16 #[.string a] w' fun e w2=>e=.returned (.string Ra)/\Below w'.heap.size w' w2)/\
   (∀w',Dk w'->Calls prog 16 #[.string b] w' fun e w2=>e=.returned (.string Rb)/\Below w'.heap.size w' w2)):
  Calls prog 6 #[.string s,.string b] w fun e w'=>e=.returned (.bool true)/\Below w.heap.size w w':=by
 have D0:=hid hD;have B0:Hid (Below w.heap.size w w):=hid br0;have HLH:=hid HL;have LVH:=hid LV
 have HP:Hid (((16384:Int)<(a.size:Int)+(b.size:Int)\/(a.size:Int)+(b.size:Int)<=16384/\(100:Int)<(n:Int))\/((a.size:Int)+(b.size:Int)<=16384/\(n:Int)<=100)/\Ra++Rb=R/\Ra.size+Rb.size<=1000000000/\
   (∀w',Dk w'->Calls prog 16 #[.string C] w' fun e w2=>e=.returned (.string R)/\Below w'.heap.size w' w2)/\
   (∀w',Dk w'->Calls prog 16 #[.string a] w' fun e w2=>e=.returned (.string Ra)/\Below w'.heap.size w' w2)/\
   (∀w',Dk w'->Calls prog 16 #[.string b] w' fun e w2=>e=.returned (.string Rb)/\Below w'.heap.size w' w2)):=hid (by
  rcases h with(h|h)|⟨h,h2⟩
  .exact Or.inl (Or.inl (by omega))
  .exact Or.inl (Or.inr (by omega))
  .exact Or.inr ⟨by omega,h2⟩)
 clear hD HL LV h;have k1:¬9223372036854775807<s.size+1:=by omega
 have k2:¬9223372036854775807<a.size+b.size:=by omega
 have hab:(a.size:Int)+(b.size:Int)<=8000000:=by omega
 rcases hs with⟨h1,rfl⟩|⟨h1,⟨hs,rfl⟩|⟨hs,h2⟩⟩
 case' inr.inl=>have HS:=hid hs;clear hs
 case' inr.inr=>have HS:=hid hs;clear hs
 all_goals
  rcases HP.out with(h3|⟨h3,h4⟩)|⟨⟨h3,h4⟩,h5,h6,hr⟩
 all_goals
  clear HP;try (have HR:=hid hr;clear hr)
  try (have k3:¬9223372036854775807<Ra.size+Rb.size:=by omega)
  go_enter func6,ntmps6
  go_wp2_with (first
   |(go_at_call 19;refine(HS.out _).mono ?_;rintro e w1 ⟨rfl,rfl⟩)
   |(go_at_call 11;refine(HLH.out _ D0.out).mono ?_;rintro e w1 ⟨⟨v,rfl⟩,hb⟩;replace D0:=hid (D0.out.below hb);replace B0:=bt0 B0 hb;clear hb)
   |(go_at_call 12;refine(LVH.out _ D0.out).mono ?_;rintro e w3 ⟨rfl,hb⟩;replace D0:=hid (D0.out.below hb);replace B0:=bt0 B0 hb;clear hb)
   |(go_at_call 16;(first|with_reducible refine(HR.out.1 _ D0.out).mono ?_|with_reducible refine(HR.out.2.1 _ D0.out).mono ?_|with_reducible refine(HR.out.2.2 _ D0.out).mono ?_);rintro e w2 ⟨rfl,hb⟩;replace D0:=hid (D0.out.below hb);replace B0:=bt0 B0 hb;clear hb))
  go_ret;exact⟨rfl,B0.out⟩
theorem ae9 (s b:ByteArray) (hz:s.size<=1100000) (hb:b.size<=1100000) (w:World) (hD:Dk w):Calls prog 6 #[.string s,.string b] w fun e w'=>e=.returned (.bool true)/\Below w.heap.size w w':=by
 have hsl:=size_eq s;have et:s.toList=s.data.toList:=ByteArray.toList_eq s;have nl:=fun w'=>Jh s (by omega) w'
 obtain⟨a,haz,hend,hs⟩:∃a:ByteArray,a.size<=1100001/\(a.data.toList=[]\/∃a',a.data.toList=a'++[10])/\((s.toList.isEmpty=true/\a=s)\/s.toList.isEmpty=false/\((∀w',Calls prog 19 #[.string s,.string ⟨#[10]⟩] w' fun e w2=>e=.returned (.bool true)/\w2=w')/\a=s\/(∀w',Calls prog 19 #[.string s,.string ⟨#[10]⟩] w' fun e w2=>e=.returned (.bool false)/\w2=w')/\s++⟨#[10]⟩=a)):=by
  cases h:s.data.toList with
  |nil=>exact⟨s,by omega,Or.inl h,Or.inl ⟨by rw[et,h];rfl,rfl⟩⟩
  |cons c r=>
   have e0:s.toList.isEmpty=false:=by rw[et,h];rfl
   cases hx:Lib.hasSuffix s.data.toList [10] with
   |true=>
    rw[hx]at nl;refine⟨s,by omega,Or.inr ?_,Or.inr ⟨e0,Or.inl ⟨nl,rfl⟩⟩⟩;unfold Lib.hasSuffix at hx;rw[aj7]at hx;obtain⟨u,hu⟩:=hx;exact⟨u,hu.symm⟩
   |false=>
    rw[hx]at nl;refine⟨s++⟨#[10]⟩,by rw[qL];show s.size+1<=_;omega,Or.inr ⟨s.data.toList,by simp [lY]⟩,Or.inr ⟨e0,Or.inr ⟨nl,rfl⟩⟩⟩
 have hal:=size_eq a;have hbl:=size_eq b;have eC:(a++b).data.toList=a.data.toList++b.data.toList:=by simp [lY]
 have hCz:(a++b).size<=3000000:=by rw[qL];omega
 have hn:=Bm (a++b).data.toList;have hCl:=size_eq (a++b);have hA:=ZI hend b.data.toList;rw[<-eC]at hA;refine QB s a b (a++b) ⟨(gI (a++b).data.toList).toArray⟩ ⟨(gI a.data.toList).toArray⟩ ⟨(gI b.data.toList).toArray⟩ (aY (aR 10 (a++b).data.toList)).length (by omega) (by omega) (by omega) (by omega) rfl w hD (fun w' hD'=>(De (a++b) hCz w' hD').mono fun e w2 ⟨⟨v,bl,h1,_,_⟩,h4⟩=>⟨⟨v,h1⟩,h4⟩) Ey hs ?_;by_cases h:a.size+b.size<=16384/\(aY (aR 10 (a++b).data.toList)).length<=100
 .have hlen:=congrArg List.length hA
  rw[ck]at hlen;have e3:(a++b).data.toList.length=a.data.toList.length+b.data.toList.length:=by rw[eC,ck]
  have k1:=D9 a.data.toList;have k2:=D9 b.data.toList;refine Or.inr ⟨h,?_,?_,fun w' hD'=>tP _ _ rfl w' hD',fun w' hD'=>tP _ _ rfl w' hD',fun w' hD'=>tP _ _ rfl w' hD'⟩
  .rw[nW (t:=(a++b).data.toList) ⟨by omega,h.2⟩,nW (t:=a.data.toList) ⟨by omega,by omega⟩,nW (t:=b.data.toList) ⟨by omega,by omega⟩,hA,Ot,MW]
   apply eK;simp [lY]
  .show(gI a.data.toList).toArray.size+(gI b.data.toList).toArray.size<=_
   simp;omega
 .exact Or.inl (by omega)
