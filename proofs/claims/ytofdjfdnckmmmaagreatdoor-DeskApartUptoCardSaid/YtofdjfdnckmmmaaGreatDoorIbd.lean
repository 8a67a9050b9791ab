import Derived.Test.YtofdjfdnckmmmaaGreatDoorIa
import Derived.Test.YtofdjfdnckmmmaaGreatDoorJwe
set_option linter.all false
set_option maxHeartbeats 16000000
set_option maxRecDepth 100000
open Go.Proofs.Tryz
open Go.Lib (hid hasPrefix trimPrefix)
namespace Go.Proofs.YtofdjfdnckmmmaaGreatDoor
open Go.Shelf Go.RowKit Go.Lib Nt Fm Fl
abbrev qw (k:Int):Ending:= .panicked [{ v:= .iface 27 (.int .i64 k),recovered:=false }]
inductive Oc where
 |ret (v:Value)
 |pan (k:Int)
def Oc.is (o:Oc) (e:Ending):Prop:=match o with
 | .ret v=>e=.returned v
 | .pan k=>e=qw k
def Dq (w:World):Prop:=Dk w/\pZ w
theorem Dk.q {w:World}(h:Dk w):Dq w:=⟨h,h.er⟩
theorem Dq.below {w w':World}(h:Dq w) (hb:Below w.heap.size w w'):Dq w':=⟨h.1.below hb,h.2.below hb⟩
theorem Dq.drew {w:World}(h:Dq w):Dq w.drew:=h.below br0.drew
theorem Dq.alloc {w:World}(h:Dq w) (o:Obj):Dq (w.alloc o):=h.below (br0.alloc le0 o)
abbrev bG (w:World) (o:Oc) (e:Ending) (w':World):Prop:=o.is e/\Below w.heap.size w w'
theorem Tb (s:List UInt8) (mode:Int):0<=fX s mode/\fX s mode<=18446744073709551615:=by
 have h:rat (kd (jk s) mode) (dM (ic s) (gu s)) (fE (gu s))<=9218868437227405312:=by
  unfold rat;split
  .omega
  .exact nB _ _ _
 unfold fX;repeat' split
 all_goals omega
theorem T9 (neg:Bool) (M:Nat) (k mode:Int):0<=jC neg M k mode/\jC neg M k mode<=18446744073709551615:=by
 unfold jC;repeat' split
 all_goals first
  |exact qQ _ _
  |decide
theorem To (s:List UInt8):∃t1 t2 whole t3 r part t4 t5 t6 power rest neg ok pt p down up,rI s t1 t2 whole t3 r part t4 t5 t6 power rest neg ok pt p down up:=
 ⟨_,_,_,_,_,_,_,_,_,_,_,_,_,_,_,_,_,rfl,rfl,rfl,rfl,rfl,rfl,rfl,rfl,rfl,rfl,rfl,rfl,rfl,rfl,rfl,rfl,rfl⟩
theorem Va (s:List UInt8) (mode:Int):∃(V:Int) (C:Bool) (E:Int),(0<=V/\V<=18446744073709551615)/\∀S w,S=⟨s.toArray⟩->Calls prog 170 #[.string S,.int .i64 mode] w (ei w V C E):=by
 obtain⟨t1,t2,whole,t3,r,part,t4,t5,t6,power,rest,neg,ok,pt,p,down,up,H⟩:=To s;refine⟨_,_,_,?_,fun S w hS=>Rq H S hS mode w⟩;split
 .exact T9 _ _ _ _
 .decide
theorem wP (s:List UInt8) (S:ByteArray) (hS:S=⟨s.toArray⟩) (h1:hasPrefix s [35]=false) (V:Int) (C:Bool) (E:Int) (w:World)
  (hN:(((hasPrefix s [48,120]=true\/hasPrefix s [48,120]=false/\hasPrefix s [45,48,120]=true)/\Calls prog 170 #[.string S,.int .i64 0] w (ei w V C E))\/
   (hasPrefix s [48,120]=false/\hasPrefix s [45,48,120]=false/\Calls prog 10 #[.string S,.int .i64 0] w (ei w V C E))))
  (o:Oc) (ho:(E=0/\o=.ret (.int .u64 V))\/((E !=0)=true/\o=.pan 5)):
  Calls prog 122 #[.string S] w (bG w o):=by
 have CP:=hid (fun w'=>wI S ⟨#[35]⟩ w');have P1:=hid (fun w'=>xM S ⟨#[48,120]⟩ w');have P2:=hid (fun w'=>xM S ⟨#[45,48,120]⟩ w');have es:S.data.toList=s:=by rw[hS]
 have e0:(⟨(trimPrefix s [35]).toArray⟩:ByteArray)=S:=by unfold trimPrefix;rw[h1,hS];rfl
 simp only[es,e0,h1]at CP;simp only[es]at P1 P2;unfold ei at hN;clear es e0 h1 hS;generalize hasPrefix s [48,120]=b1 at *;generalize hasPrefix s [45,48,120]=b2 at *;rcases hN with⟨rfl|⟨rfl,rfl⟩,h⟩|⟨rfl,rfl,h⟩ <;> rcases ho with⟨rfl,rfl⟩|⟨hE,rfl⟩
 all_goals
  have RN:=hid h;clear h;unfold bG Oc.is;go_enter func122,ntmps122
  go_wp2_with (first
   |(go_at_call 45;refine(CP.out _).mono ?_;rintro e w1 ⟨rfl,rfl⟩)
   |(go_at_call 55;first
    |((with_reducible refine(P1.out _).mono ?_);rintro e w1 ⟨rfl,rfl⟩)
    |((with_reducible refine(P2.out _).mono ?_);rintro e w1 ⟨rfl,rfl⟩))
   |((first|go_at_call 170|go_at_call 10);refine RN.out.mono ?_;rintro e w1 ⟨rfl,hb⟩;have B:=hid hb;clear hb)
   |(go_at_call 118;refine(lA 5 rfl _).mono ?_;rintro e w1 ⟨rfl,rfl⟩))
  first
   |(go_ret;exact⟨rfl,B.out⟩;done)
   |exact⟨rfl,rfl,B.out⟩
theorem DP {p:UInt8->Bool} :∀ {l:List UInt8}{c:UInt8},c∈l->p c=false->c∈l.dropWhile p
 |d::l,c,h,hp=>by
  by_cases hd:p d=true
  .rw[sj hd]
   rcases iI.1 h with rfl|h
   .rw[hp]at hd;cases hd
   .exact DP h hp
  .rw[qJ hd];exact h
theorem Mn {l cs:List UInt8}{c:UInt8}(h:c∈l) (hc:cs.contains c=false):Lib.trimS l cs≠[]:=by
 intro e
 have h1:c∈Lib.trimS l cs:=by
  unfold Lib.trimS Lib.trimRightS Lib.trimLeftS;exact DP (Ad.2 (DP (Ad.2 h) hc)) hc
 rw[e]at h1;cases h1
theorem YT (l:List UInt8) (hl:¬(l.length=16/\∀c∈l,fY c)) (hz:l.length<=100000) (S:ByteArray) (hS:S=⟨(35::l).toArray⟩) (w:World) (hD:Dq w):
  Calls prog 122 #[.string S] w (bG w (.pan 5)):=by
 have CP:=hid (fun w'=>wI S ⟨#[35]⟩ w');obtain⟨T,hT⟩:∃T:ByteArray,T=⟨l.toArray⟩:=⟨_,rfl⟩;have es:S.data.toList=35::l:=by rw[hS]
 have e1:hasPrefix (35::l) [35]=true:=by simp [hasPrefix,List.isPrefixOf]
 have e0:(⟨(trimPrefix (35::l) [35]).toArray⟩:ByteArray)=T:=by unfold trimPrefix;rw[e1,hT];rfl
 simp only[es,e0,e1]at CP;have hz2:T.size=l.length:=by rw[hT];rfl
 have PU:=hid (Y8 T (by omega) w hD.2);have TR:=hid (fun w'=>Di T [48,49,50,51,52,53,54,55,56,57,97,98,99,100,101,102] (by decide) (by decide) w' (by omega));obtain⟨X,hX⟩:∃X:ByteArray,X=⟨(Lib.trimS T.data.toList [48,49,50,51,52,53,54,55,56,57,97,98,99,100,101,102]).toArray⟩:=⟨_,rfl⟩;rw[<-hX]at TR
 have hne:l.length=16->X.toList.isEmpty=false:=by
  intro h16
  have hex:∃c,c∈l/\¬fY c:=by
   apply gP;intro h;exact hl ⟨h16,fun c hc=>gP fun k=>h ⟨c,hc,k⟩⟩
  obtain⟨c,hc,hk⟩:=hex
  have hcs:List.contains [48,49,50,51,52,53,54,55,56,57,97,98,99,100,101,102] c=false:=by
   cases h:List.contains [48,49,50,51,52,53,54,55,56,57,97,98,99,100,101,102] c
   .rfl
   .exact absurd (CD h) hk
  have h2:=Mn (l:=T.data.toList) (by rw[hT];exact hc) hcs;rw[ByteArray.toList_eq,hX];cases h3:Lib.trimS T.data.toList [48,49,50,51,52,53,54,55,56,57,97,98,99,100,101,102] with
  |nil=>exact absurd h3 h2
  |cons a b=>rfl
 have HN:=hid hne;unfold Nj at PU;unfold bG Oc.is;clear hD es e0 e1 hS hT hX hl hne;go_enter func122,ntmps122;go_wp2_with (go_at_call 45;refine(CP.out _).mono ?_;rintro e w1 ⟨rfl,rfl⟩)
 refine PU.out.mono ?_;rintro e w1 ⟨⟨n,er,rfl,her,n0,n1⟩,hb⟩;have B:=hid hb;clear hb;by_cases h16:l.length=16
 .have hne:=HN.out h16
  rw[h16]at hz2;rcases her with rfl|⟨t,p,rfl⟩
  all_goals
   go_wp2_with (first
    |(go_at_call 169;refine(TR.out _).mono ?_;rintro e w2 ⟨rfl,hb⟩;replace B:=bt0 B hb;clear hb)
    |(go_at_call 118;refine(lA 5 rfl _).mono ?_;rintro e w1 ⟨rfl,rfl⟩))
   all_goals first
    |exact⟨rfl,rfl,B.out⟩
    |(exfalso;simp_all;done)
 .have h17:¬T.size=16:=by omega
  go_wp2_with (first
   |(go_at_call 169;refine(TR.out _).mono ?_;rintro e w2 ⟨rfl,hb⟩;replace B:=bt0 B hb;clear hb)
   |(go_at_call 118;refine(lA 5 rfl _).mono ?_;rintro e w1 ⟨rfl,rfl⟩))
  all_goals first
   |exact⟨rfl,rfl,B.out⟩
   |(exfalso;simp_all;done)
theorem YD (l:List UInt8) (hl:l.length=16) (h:∀c∈l,fY c) (S:ByteArray) (hS:S=⟨(35::l).toArray⟩) (w:World) (hD:Dk w):
  Calls prog 122 #[.string S] w fun e w'=>e=.returned (.int .u64 ((bD 0 l:Nat):Int))/\Below w.heap.size w w':=by
 have CP:=hid (fun w'=>wI S ⟨#[35]⟩ w');obtain⟨T,hT⟩:∃T:ByteArray,T=⟨l.toArray⟩:=⟨_,rfl⟩;have es:S.data.toList=35::l:=by rw[hS]
 have e1:hasPrefix (35::l) [35]=true:=by simp [hasPrefix,List.isPrefixOf]
 have e0:(⟨(trimPrefix (35::l) [35]).toArray⟩:ByteArray)=T:=by unfold trimPrefix;rw[e1,hT];rfl
 simp only[es,e0,e1]at CP;have PU:=hid (G7 l T hT h (by omega) (by omega) w);have hz:T.size=16:=by rw[hT];exact hl
 have TR:=hid (fun w'=>Di T [48,49,50,51,52,53,54,55,56,57,97,98,99,100,101,102] (by decide) (by decide) w' (by omega))
 have et:Lib.trimS T.data.toList [48,49,50,51,52,53,54,55,56,57,97,98,99,100,101,102]=[]:=by
  rw[hT]
  show Lib.trimS l _=[]
  unfold Lib.trimS Lib.trimRightS Lib.trimLeftS;rw[ED l.reverse (by intro c hc;exact Y0 (h c (by simpa using hc)))];rfl
 rw[et]at TR;generalize ((bD 0 l:Nat):Int)=x at *;clear hD es e0 e1 hS hT et h hl;go_enter func122,ntmps122
 go_wp2_with (first
  |(go_at_call 45;refine(CP.out _).mono ?_;rintro e w1 ⟨rfl,rfl⟩)
  |(go_at_call 106;refine PU.out.mono ?_;rintro e w1 ⟨rfl,hb⟩;have B:=hid hb;clear hb)
  |(go_at_call 169;refine(TR.out _).mono ?_;rintro e w2 ⟨rfl,hb⟩;have B2:=bt0 B hb;clear hb))
 go_ret;exact⟨rfl,B2.out⟩
def Dw (s:List UInt8):Prop:= ∀(S:ByteArray) (w:World),S=⟨s.toArray⟩->Dq w->Calls prog 122 #[.string S] w (bG w (.pan 5))
theorem Gx (s:List UInt8) (hl:s.length<=100000):(∃x,mF s x)\/Dw s:=by
 cases h1:hasPrefix s [35]
 .by_cases h2:hasPrefix s [48,120]=true\/hasPrefix s [48,120]=false/\hasPrefix s [45,48,120]=true
  .obtain⟨V,C,E,hV,hC⟩:=Va s 0
   by_cases hE:E=0
   .exact Or.inl ⟨V,hV,fun S w hS _=>wP s S hS h1 V C E w (Or.inl ⟨h2,hC S w hS⟩) _ (Or.inl ⟨hE,rfl⟩)⟩
   .exact Or.inr fun S w hS _=>wP s S hS h1 V C E w (Or.inl ⟨h2,hC S w hS⟩) _ (Or.inr ⟨by rw[lZ];exact hE,rfl⟩)
  .have h3:hasPrefix s [48,120]=false/\hasPrefix s [45,48,120]=false:=by
    generalize hasPrefix s [48,120]=a at *;generalize hasPrefix s [45,48,120]=b at *;cases a <;> cases b <;> simp_all
   by_cases hE:kj s 0=0
   .exact Or.inl ⟨_,Tb s 0,fun S w hS hD=>wP s S hS h1 _ _ _ w (Or.inr ⟨h3.1,h3.2,B_ s S hS 0 w hD.t32⟩) _ (Or.inl ⟨hE,rfl⟩)⟩
   .exact Or.inr fun S w hS hD=>wP s S hS h1 _ _ _ w (Or.inr ⟨h3.1,h3.2,B_ s S hS 0 w hD.1.t32⟩) _ (Or.inr ⟨by rw[lZ];exact hE,rfl⟩)
 .obtain⟨l,rfl⟩:∃l,s=35::l:=by
   cases s with
   |nil=>cases h1
   |cons c l=>
    refine⟨l,?_⟩;simp [hasPrefix,List.isPrefixOf]at h1;rw[h1]
  rw[ez]at hl;by_cases h:l.length=16/\∀c∈l,fY c
  .have hb:=C0 l h.2
   have h64:(2:Nat)^(4*16)=18446744073709551616:=by decide
   rw[h.1,h64]at hb;exact Or.inl ⟨((bD 0 l:Nat):Int),⟨by omega,by omega⟩,fun S w hS hD=>YD l h.1 h.2 S hS w hD⟩
  .exact Or.inr fun S w hS hD=>YT l h (by omega) S hS w hD
def JL (S:ByteArray) (o:Oc):Prop:=((∃x:Int,o=.ret (.int .i64 x)/\0<=x/\x<=4)\/o=.pan 5)/\∀w:World,Calls prog 116 #[.string S] w fun e w'=>o.is e/\w'=w
theorem BY (S:ByteArray):∃o,JL S o:=by
 have W:∀k:Int,(0<=k/\k<=4)->(∀w:World,Calls prog 116 #[.string S] w fun e w'=>e=.returned (.int .i64 k)/\w'=w)->∃o,JL S o:=fun k hk h=>⟨.ret (.int .i64 k),Or.inl ⟨k,rfl,hk⟩,h⟩
 cases h0:S.toList==[110,101,97,114]
 case true=>
  refine W 0 (by decide) fun w=>?_
  go_enter func116,ntmps116;go_wp2;go_ret;exact⟨rfl,rfl⟩
 cases h1:S.toList==[117,112]
 case true=>
  refine W 1 (by decide) fun w=>?_
  go_enter func116,ntmps116;go_wp2;go_ret;exact⟨rfl,rfl⟩
 cases h2:S.toList==[100,111,119,110]
 case true=>
  refine W 2 (by decide) fun w=>?_
  go_enter func116,ntmps116;go_wp2;go_ret;exact⟨rfl,rfl⟩
 cases h3:S.toList==[122,101,114,111]
 case true=>
  refine W 3 (by decide) fun w=>?_
  go_enter func116,ntmps116;go_wp2;go_ret;exact⟨rfl,rfl⟩
 cases h4:S.toList==[97,119,97,121]
 case true=>
  refine W 4 (by decide) fun w=>?_
  go_enter func116,ntmps116;go_wp2;go_ret;exact⟨rfl,rfl⟩
 refine⟨.pan 5,Or.inr rfl,fun w=>?_⟩;unfold Oc.is;go_enter func116,ntmps116;go_wp2_with (go_at_call 118;refine(lA 5 rfl _).mono ?_;rintro e w1 ⟨rfl,rfl⟩)
 exact⟨rfl,rfl,rfl⟩
def YH (s:List UInt8) (o:Oc):Prop:=((∃x:Int,o=.ret (.int .i64 x)/\0<=x/\x<=9999)\/o=.pan 5)/\
 ∀(S:ByteArray) (w:World),S=⟨s.toArray⟩->Dq w->Calls prog 168 #[.string S] w (bG w o)
theorem Ji (S X:ByteArray) (n:Int) (er:Value) (w:World) (hz:S.size<=1000000)
  (AT:Hid (Calls prog 92 #[.string S] w fun e w'=>(∃m er,e=.returned (.tuple #[.int .i64 m,er])/\(X.toList.isEmpty=true->1<=S.size->S.size<=4->m=n))/\Below w.heap.size w w'))
  (TR:Hid (∀w':World,Calls prog 169 #[.string S,.string ⟨#[48,49,50,51,52,53,54,55,56,57]⟩] w' fun e w2=>e=.returned (.string X)/\Below w'.heap.size w' w2))
  (o:Oc) (ho:(X.toList.isEmpty=true/\1<=S.size/\S.size<=4/\o=.ret (.int .i64 n))\/(X.toList.isEmpty=false/\o=.pan 5)\/(S.size<1/\o=.pan 5)\/(4<S.size/\o=.pan 5)):
  Calls prog 168 #[.string S] w (bG w o):=by
 rcases ho with⟨hX,h1,h4,rfl⟩|⟨hX,rfl⟩|⟨h1,rfl⟩|⟨h4,rfl⟩
 all_goals
  unfold bG Oc.is;go_enter func168,ntmps168;go_wp2_with fail
  refine AT.out.mono ?_;rintro e w1 ⟨⟨m,qa,rfl,hm⟩,hb⟩;have B:=hid hb;clear hb
  first
   |(have e1:m=n:=hm hX h1 h4
     subst e1)
   |clear hm
  go_wp2_with (first
   |(go_at_call 169;refine(TR.out _).mono ?_;rintro e w2 ⟨rfl,hb⟩;replace B:=bt0 B hb;clear hb)
   |(go_at_call 118;refine(lA 5 rfl _).mono ?_;rintro e w1 ⟨rfl,rfl⟩))
  all_goals first
   |(go_ret;exact⟨rfl,B.out⟩;done)
   |exact⟨rfl,rfl,B.out⟩
   |(exfalso;omega)
   |(exfalso;simp_all;done)
theorem VT (s:List UInt8) (hl:s.length<=100000):∃o,YH s o:=by
 have TR:=fun(S:ByteArray) (w':World) (hS:S=⟨s.toArray⟩)=>Di S [48,49,50,51,52,53,54,55,56,57] (by decide) (by decide) w' (by rw[hS];show s.toArray.size<=_;simp;omega)
 by_cases h:s≠[]/\s.length<=4/\∀c∈s,cF c
 .obtain⟨h0,h4,hd⟩:=h
  have hv:=pg s 0 hd;have hp:(10:Nat)^s.length<=10^4:=aG (by omega) h4;refine⟨.ret (.int .i64 ((aM 0 s:Nat):Int)),Or.inl ⟨_,rfl,by omega,by omega⟩,fun S w hS hD=>?_⟩;have hz:S.size=s.length:=by rw[hS];rfl
  have hs1:1<=s.length:=by cases s with
   |nil=>exact absurd rfl h0
   |cons a b=>simp
  have et:Lib.trimS S.data.toList [48,49,50,51,52,53,54,55,56,57]=[]:=by
   rw[hS]
   show Lib.trimS s _=[]
   unfold Lib.trimS Lib.trimRightS Lib.trimLeftS;rw[ED s.reverse (by intro c hc;exact vg (hd c (by simpa using hc)))];rfl
  have TR2:=fun w'=>TR S w' hS
  rw[et]at TR2;exact Ji S ⟨#[]⟩ _ .nilIface w (by omega) (hid ((Bj s S hS h0 hd (by omega) w).mono fun e w' k=>⟨⟨_,_,k.1,fun _ _ _=>rfl⟩,k.2⟩)) (hid TR2) _ (Or.inl ⟨by rw[ByteArray.toList_eq];rfl,by omega,by omega,rfl⟩)
 .refine⟨.pan 5,Or.inr rfl,fun S w hS hD=>?_⟩
  have hz:S.size=s.length:=by rw[hS];rfl
  obtain⟨X,hX⟩:∃X:ByteArray,X=⟨(Lib.trimS S.data.toList [48,49,50,51,52,53,54,55,56,57]).toArray⟩:=⟨_,rfl⟩;have TR2:=fun w'=>TR S w' hS
  rw[<-hX]at TR2
  have hways:(X.toList.isEmpty=false)\/S.size<1\/4<S.size:=by
   by_cases h0:s=[]
   .right;left;rw[hz,h0];decide
   by_cases h4:s.length<=4
   .left
    have hex:∃c,c∈s/\¬cF c:=by
     apply gP;intro k;exact h ⟨h0,h4,fun c hc=>gP fun g=>k ⟨c,hc,g⟩⟩
    obtain⟨c,hc,hk⟩:=hex
    have hcs:List.contains [48,49,50,51,52,53,54,55,56,57] c=false:=by
     cases g:List.contains [48,49,50,51,52,53,54,55,56,57] c
     .rfl
     .exact absurd (Gd g) hk
    have h2:=Mn (l:=S.data.toList) (by rw[hS];exact hc) hcs;rw[ByteArray.toList_eq,hX];cases h3:Lib.trimS S.data.toList [48,49,50,51,52,53,54,55,56,57] with
    |nil=>exact absurd h3 h2
    |cons a b=>rfl
   .right;right;omega
  have AT:Hid (Calls prog 92 #[.string S] w fun e w'=>(∃m er,e=.returned (.tuple #[.int .i64 m,er])/\(X.toList.isEmpty=true->1<=S.size->S.size<=4->m=0))/\Below w.heap.size w w'):=hid ((ac1 S (by omega) w hD.2).mono fun e w' k=>by
   obtain⟨⟨m,er,he⟩,hb⟩:=k;refine⟨⟨m,er,he,fun a b c=>?_⟩,hb⟩;rcases hways with g|g|g
   .rw[g]at a;cases a
   .omega
   .omega)
  exact Ji S X 0 .nilIface w (by omega) AT (hid TR2) _ (by
   rcases hways with g|g|g
   .exact Or.inr (Or.inl ⟨g,rfl⟩)
   .exact Or.inr (Or.inr (Or.inl ⟨g,rfl⟩))
   .exact Or.inr (Or.inr (Or.inr ⟨g,rfl⟩)))
theorem Hf {x:Int}(x0:0<=x) (x1:x<=18446744073709551615):(10:UInt8) ∉ jD x:=by
 intro h;unfold jD at h;rcases gF.1 h with h|h
 .exact absurd (n_.1 (rS (FX x0 x1)) 10 h) (by decide)
 .rcases iI.1 h with h|h
  .exact absurd h (by decide)
  .have :=(GN x).2 10 h;exact absurd rfl this.1
theorem yd (a:Option Addr) (n cap:Nat) (X:Int) (hX:X≠(n:Int)) (w:World):Calls prog 113 #[.slice a n cap,.int .i64 X] w fun e w'=>e=qw 5/\w=w':=by
 have hX2:¬(n:Int)=X:=fun h=>hX h.symm
 go_enter func113,ntmps113;go_wp2_with (go_at_call 118;refine(lA 5 rfl _).mono ?_;rintro e w1 ⟨rfl,rfl⟩)
 exact⟨rfl,rfl,rfl⟩
def jO (o:Oc):Prop:=(∃S,o=.ret (.string S)/\Ln 200000 S)\/∃k:Nat,k<=1000/\o=.pan k
theorem lj (x:Int) (b:Bool) (e:Int) (x0:0<=x) (x1:x<=18446744073709551615) (e0:0<=e) (e1:e<=1000):
  ∃o,jO o/\∀w,Dk w->Calls prog 119 #[.int .u64 x,.bool b,.int .i64 e] w (bG w o):=by
 by_cases he:e=0
 .subst he
  have l1:=yW x0 x1;have l2:=vW b;refine⟨.ret (.string ⟨(jD x++jm b).toArray⟩),Or.inl ⟨_,rfl,Ln.of (by rw[ck];omega) ?_⟩,fun w hD=>F_ x b x0 x1 w hD⟩;intro h;rcases gF.1 h with h|h
  .exact Hf x0 x1 h
  .unfold jm at h;split at h <;> exact absurd h (by decide)
 .refine⟨.pan e,Or.inr ⟨e.toNat,by omega,by rw[OB e0]⟩,fun w hD=>?_⟩
  have hk:(e !=0)=true:=by rw[lZ];exact he
  unfold bG Oc.is;go_enter func119,ntmps119;go_wp2_with (go_at_call 118;refine(lA e hk _).mono ?_;rintro e w1 ⟨rfl,rfl⟩)
  exact⟨rfl,rfl,Below.refl _ _⟩
theorem VH (A off cap:Nat) (l:List (List UInt8)) (vs:List Int) (hlen:vs.length<l.length) (hl:l.length<=100000) (hN:∀(j:Nat) s x,l[j]?=some s->vs[j]?=some x->mF s x) (hB:∀s,l[vs.length]?=some s->Dw s) (w:World) (hD:Dq w) (hA:A<w.heap.size)
  (hW:∀(j:Nat) s,l[j]?=some s->w.cell? ⟨A,off+j,none⟩=some (dL s)):
  Calls prog 115 #[.slice (some ⟨A,off,none⟩) l.length cap] w (bG w (.pan 5)):=by
 have HN:=hid hN;have HP:=hid hB;have HD:=hid hD;have HW:=hid hW;obtain⟨n,hn⟩:∃n,n=l.length:=⟨_,rfl⟩;obtain⟨m,hm⟩:∃m,m=vs.length:=⟨_,rfl⟩;rw[<-hn]at hl hlen ⊢;rw[<-hm]at hlen HP;have Hn:=hid hn;have Hm:=hid hm;unfold bG Oc.is;clear hN hD hW hn hm hB;go_enter func115,ntmps115;go_wp2;go_loopw [3,8] (fun v iv wr=>∃i:Nat,iv=.int .i64 (i:Int)/\i<=m/\Hid (wr.ownsRow w.heap.size 24 1 v (vs.take i).length (kh (vs.take i)))/\Hid (Below w.heap.size w wr)) (fun _ iv _=>n-(RowKit.intOf iv).toNat)
 case atStart=>exact⟨0,rfl,by omega,hid (World.ownsRow_nil _ _ _ _),hid br0⟩
 case round=>
  obtain⟨i,rfl,hi,hO,B⟩:=hrel
  obtain⟨ao,ln,cp,rfl⟩:∃ao ln cp,u3=.slice ao ln cp:=by
   rcases hO.out.2 with⟨h,_⟩|⟨g,c,cur,h,_⟩
   .exact⟨_,_,_,h⟩
   .exact⟨_,_,_,h⟩
  have hil:i<l.length:=by rw[<-Hn.out];omega
  obtain⟨s,hs⟩:∃s,l[i]?=some s:=⟨_,fO hil⟩;obtain⟨T,hT⟩:∃T:ByteArray,T=⟨s.toArray⟩:=⟨_,rfl⟩
  have hc:wr.cell? ⟨A,off+i,none⟩=some (.string T):=by
   rw[B.out.cell (p:=⟨A,off+i,none⟩) hA,HW.out i s hs,hT]
  have hin:i<n:=by omega
  by_cases him:i<m
  .obtain⟨x,hx⟩:∃x,vs[i]?=some x:=⟨_,fO (by rw[<-Hm.out];exact him)⟩
   have NT:=HN.out i s x hs hx;have NH:=hid (NT.2 T wr hT (HD.out.1.below B.out))
   have htk:vs.take (i+1)=vs.take i++[x]:=by
    have hv:=(iH.1 hx).1;rw[pA hv,(iH.1 hx).2]
   have HTK:=hid htk;have hll:Hid ((vs.take i).length<=10000000/\True):=hid ⟨by rw[dj];omega,trivial⟩;clear NT hT hs hx htk
   go_wp2_with (first
    |(go_at_call 122;refine NH.out.mono ?_;rintro e w2 ⟨rfl,hb⟩;have B2:=bt0 B hb;have O2:=hid (kZ hO.out hb);have hz2:=B2.out.size;clear hb NH)
    |(at_builtin;refine J7 rfl _ _ rfl w.heap.size hz2 _ (vs.take i) rfl O2.out x rfl rfl hll.out.1 ?_;intro v5 w5 ho5 hb5;have O5:=hid ho5;have B5:=hid (B2.out.trans hb5);clear ho5 hb5))
   exact⟨⟨i+1,rfl,by omega,hid (by rw[HTK.out];exact O5.out),B5⟩,by simp only[RowKit.intOf];omega⟩
  .obtain rfl:i=m:=by omega
   have NH:=hid (HP.out s hs T wr hT (HD.out.below B.out));clear hT hs him;go_wp2_with (go_at_call 122;refine NH.out.mono ?_;rintro e w2 ⟨he,hb⟩;have B2:=bt0 B hb;obtain rfl:e=qw 5:=he;clear hb NH)
   exact⟨rfl,rfl,B2.out⟩
theorem Xp (l:List (List UInt8)) (hl:∀s∈l,s.length<=100000):(∃vs:List Int,vs.length=l.length/\∀(j:Nat) s x,l[j]?=some s->vs[j]?=some x->mF s x)\/
  ∃vs:List Int,vs.length<l.length/\(∀(j:Nat) s x,l[j]?=some s->vs[j]?=some x->mF s x)/\∀s,l[vs.length]?=some s->Dw s:=by
 induction l with
 |nil=>exact Or.inl ⟨[],rfl,fun j s x h=>by simp at h⟩
 |cons a l ih=>
  rcases Gx a (hl a (by simp)) with⟨x,hx⟩|hp
  .rcases ih (fun s h=>hl s (by simp [h])) with⟨vs,h1,h2⟩|⟨vs,h1,h2,h3⟩
   .refine Or.inl ⟨x::vs,by simp [h1],fun j s y hs hy=>?_⟩
    cases j with
    |zero=>simp at hs hy;subst hs hy;exact hx
    |succ j=>simp at hs hy;exact h2 j s y hs hy
   .refine Or.inr ⟨x::vs,by simp;omega,fun j s y hs hy=>?_,fun s hs=>h3 s (by simpa using hs)⟩
    cases j with
    |zero=>simp at hs hy;subst hs hy;exact hx
    |succ j=>simp at hs hy;exact h2 j s y hs hy
  .exact Or.inr ⟨[],by simp,fun j s y hs hy=>by simp at hy,fun s hs=>by simp at hs;subst hs;exact hp⟩
theorem vt {ops:Array Oper}{i:Nat}{o:Oper}(h:(ops.toList.drop i).head?=some o):ops[i]?=some o:=by
 rw[List.head?_drop]at h
 simpa using h
theorem ch {P:Program}{md:Region.Mode}{ops:Array Oper}{Q:Exit->Act->World->Prop}{S:World->Prop}(i:Nat) {oi:Oper}{v:Value}{fuel:Nat}{L:Array Bool}{a:Act}{w:World}(hi:(ops.toList.drop i).head?=some oi)
  (hc:(Region.noSelect ops && (Region.free md ops L i && (Region.ready md ops L).contains i))=true) (hQ:∀c a w,Q (.panic c) (a.put oi.dst v) w->Q (.panic c) a w)
  (hw:Region.wanted oi (yielded ops a.tmps)=true) (hS:S w) (hy:∀w,S w->(execOp a.eval oi).run P w=.ok (.value v) w)
  (h:wpAnyH P md ops Q S fuel (L.setIfInBounds i true) (a.put oi.dst v) w):wpAnyH P md ops Q S (fuel+1) L a w:=by
 rw[lT,lT]at hc;exact wpAnyH_take (vt hi) hc.1 hc.2.1 hc.2.2 hQ (Or.inl ⟨hw,hy⟩) hS h
theorem vJ (nm:ByteArray) (f:Nat) (hf:(nm=⟨#[97,100,100]⟩/\f=145)\/(nm=⟨#[115,117,98]⟩/\f=146)\/(nm=⟨#[109,117,108]⟩/\f=147)\/(nm=⟨#[100,105,118]⟩/\f=148)) (g cap:Nat) (x y m r e:Int) (c:Bool) (o:Oc) (w:World) (hD:Dk w)
  (hA:∀w',Dk w'->Calls prog f #[.int .u64 x,.int .u64 y,.int .i64 m] w' (ei w' r c e))
  (hF:∀w',Dk w'->Calls prog 119 #[.int .u64 r,.bool c,.int .i64 e] w' (bG w' o)) (hc0:w.cell? ⟨g,0,none⟩=some (.int .u64 x)) (hc1:w.cell? ⟨g,1,none⟩=some (.int .u64 y)):
  Calls prog 114 #[.string nm,.slice (some ⟨g,0,none⟩) 2 cap,.int .i64 m] w (bG w o):=by
 have hgl:=World.block_lt_of_cell? w ⟨g,0,none⟩ hc0;have HC:=hid (fun w' (hb:Below w.heap.size w w')=>(show w'.cell? ⟨g,0,none⟩=some (.int .u64 x)/\w'.cell? ⟨g,1,none⟩=some (.int .u64 y) from⟨(hb.cell (p:=⟨g,0,none⟩) hgl).trans hc0,(hb.cell (p:=⟨g,1,none⟩) hgl).trans hc1⟩));have FU:=hid (fun w' (hb:Below w.heap.size w w')=>hF w' (hD.below hb));have AD0:=hid (fun w' (hb:Below w.heap.size w w')=>hA w' (hD.below hb));have B:Hid (Below w.heap.size w w):=hid br0;unfold ei at AD0;unfold bG at FU ⊢;clear hD hA hF;rcases hf with⟨rfl,rfl⟩|⟨rfl,rfl⟩|⟨rfl,rfl⟩|⟨rfl,rfl⟩ <;> cases o
 all_goals
  simp only[Oc.is]at FU ⊢;have AD:=hid AD0.out;clear AD0;go_enter func114,ntmps114;go_wp2;replace B:=hid B.out.drew;refine wp_region_held_drew (S:=fun w'=>w'.cell? ⟨g,0,none⟩=some (.int .u64 x)/\w'.cell? ⟨g,1,none⟩=some (.int .u64 y)) (by kernel_rfl) (HC.out _ B.out) (fun hHeld=>?_)
  repeat
   first
    |((first|refine ch 0 (v:=?_) rfl (by decide+kernel) (fun _ _ _ h=>h) (by rfl) (HC.out _ B.out) (fun w hSw=>?_) ?_|refine ch 1 (v:=?_) rfl (by decide+kernel) (fun _ _ _ h=>h) (by rfl) (HC.out _ B.out) (fun w hSw=>?_) ?_|refine ch 2 (v:=?_) rfl (by decide+kernel) (fun _ _ _ h=>h) (by rfl) (HC.out _ B.out) (fun w hSw=>?_) ?_|refine ch 3 (v:=?_) rfl (by decide+kernel) (fun _ _ _ h=>h) (by rfl) (HC.out _ B.out) (fun w hSw=>?_) ?_|refine ch 4 (v:=?_) rfl (by decide+kernel) (fun _ _ _ h=>h) (by rfl) (HC.out _ B.out) (fun w hSw=>?_) ?_|refine ch 5 (v:=?_) rfl (by decide+kernel) (fun _ _ _ h=>h) (by rfl) (HC.out _ B.out) (fun w hSw=>?_) ?_|refine ch 6 (v:=?_) rfl (by decide+kernel) (fun _ _ _ h=>h) (by rfl) (HC.out _ B.out) (fun w hSw=>?_) ?_|refine ch 7 (v:=?_) rfl (by decide+kernel) (fun _ _ _ h=>h) (by rfl) (HC.out _ B.out) (fun w hSw=>?_) ?_|refine ch 8 (v:=?_) rfl (by decide+kernel) (fun _ _ _ h=>h) (by rfl) (HC.out _ B.out) (fun w hSw=>?_) ?_|refine ch 9 (v:=?_) rfl (by decide+kernel) (fun _ _ _ h=>h) (by rfl) (HC.out _ B.out) (fun w hSw=>?_) ?_|refine ch 10 (v:=?_) rfl (by decide+kernel) (fun _ _ _ h=>h) (by rfl) (HC.out _ B.out) (fun w hSw=>?_) ?_|refine ch 11 (v:=?_) rfl (by decide+kernel) (fun _ _ _ h=>h) (by rfl) (HC.out _ B.out) (fun w hSw=>?_) ?_|refine ch 12 (v:=?_) rfl (by decide+kernel) (fun _ _ _ h=>h) (by rfl) (HC.out _ B.out) (fun w hSw=>?_) ?_|refine ch 13 (v:=?_) rfl (by decide+kernel) (fun _ _ _ h=>h) (by rfl) (HC.out _ B.out) (fun w hSw=>?_) ?_|refine ch 14 (v:=?_) rfl (by decide+kernel) (fun _ _ _ h=>h) (by rfl) (HC.out _ B.out) (fun w hSw=>?_) ?_|refine ch 15 (v:=?_) rfl (by decide+kernel) (fun _ _ _ h=>h) (by rfl) (HC.out _ B.out) (fun w hSw=>?_) ?_|refine ch 16 (v:=?_) rfl (by decide+kernel) (fun _ _ _ h=>h) (by rfl) (HC.out _ B.out) (fun w hSw=>?_) ?_);rotate_left;focus ((try dsimp only at hSw);first|(go_simp;done)|(go_simp;with_reducible rfl));try simp only[Act.put,bj,bB,bg])
    |(refine wpAnyH_done (by decide+kernel) ?_ _)
    |((first|refine wpAnyH_ready (rs:=[4]) (by decide+kernel) (by simp) ?_|refine wpAnyH_ready (rs:=[5]) (by decide+kernel) (by simp) ?_|refine wpAnyH_ready (rs:=[6]) (by decide+kernel) (by simp) ?_|refine wpAnyH_ready (rs:=[7]) (by decide+kernel) (by simp) ?_|refine wpAnyH_ready (rs:=[8]) (by decide+kernel) (by simp) ?_|refine wpAnyH_ready (rs:=[9]) (by decide+kernel) (by simp) ?_|refine wpAnyH_ready (rs:=[10]) (by decide+kernel) (by simp) ?_|refine wpAnyH_ready (rs:=[11]) (by decide+kernel) (by simp) ?_|refine wpAnyH_ready (rs:=[12]) (by decide+kernel) (by simp) ?_|refine wpAnyH_ready (rs:=[13]) (by decide+kernel) (by simp) ?_|refine wpAnyH_ready (rs:=[14]) (by decide+kernel) (by simp) ?_)
      refine AllReadyH.cons (o:=_) (vt rfl) (fun K hK=>?_) AllReadyH.nil;go_simp
      first
       |(refine(AD.out _ B.out).mono ?_;rintro e w' ⟨rfl,hb⟩;replace B:=bt0 B hb;clear hb;refine hK.out _ _ (HC.out _ B.out) (fun _=>?_);clear hK K;try simp only[Act.put,bj,bB,bg])
       |(refine(FU.out _ B.out).mono ?_;rintro e w' ⟨rfl,hb⟩;exact⟨rfl,rfl,af B.out le0 hb⟩)
       |(refine(FU.out _ B.out).mono ?_;rintro e w' ⟨rfl,hb⟩;replace B:=bt0 B hb;clear hb;refine hK.out _ _ (HC.out _ B.out) (fun _=>?_);clear hK K;try simp only[Act.put,bj,bB,bg]))
  all_goals (go_wp2;go_ret;exact⟨rfl,B.out⟩)
theorem ZQ (nm:ByteArray) (f:Nat) (hf:(nm=⟨#[102,109,97]⟩/\f=149)) (g cap:Nat) (x y z m r e:Int) (c:Bool) (o:Oc) (w:World) (hD:Dk w)
  (hA:∀w',Dk w'->Calls prog f #[.int .u64 x,.int .u64 y,.int .u64 z,.int .i64 m] w' (ei w' r c e))
  (hF:∀w',Dk w'->Calls prog 119 #[.int .u64 r,.bool c,.int .i64 e] w' (bG w' o)) (hc0:w.cell? ⟨g,0,none⟩=some (.int .u64 x)) (hc1:w.cell? ⟨g,1,none⟩=some (.int .u64 y)) (hc2:w.cell? ⟨g,2,none⟩=some (.int .u64 z)):
  Calls prog 114 #[.string nm,.slice (some ⟨g,0,none⟩) 3 cap,.int .i64 m] w (bG w o):=by
 have hgl:=World.block_lt_of_cell? w ⟨g,0,none⟩ hc0;have HC:=hid (fun w' (hb:Below w.heap.size w w')=>(show w'.cell? ⟨g,0,none⟩=some (.int .u64 x)/\w'.cell? ⟨g,1,none⟩=some (.int .u64 y)/\w'.cell? ⟨g,2,none⟩=some (.int .u64 z) from⟨(hb.cell (p:=⟨g,0,none⟩) hgl).trans hc0,(hb.cell (p:=⟨g,1,none⟩) hgl).trans hc1,(hb.cell (p:=⟨g,2,none⟩) hgl).trans hc2⟩));have FU:=hid (fun w' (hb:Below w.heap.size w w')=>hF w' (hD.below hb));have AD0:=hid (fun w' (hb:Below w.heap.size w w')=>hA w' (hD.below hb));have B:Hid (Below w.heap.size w w):=hid br0;unfold ei at AD0;unfold bG at FU ⊢;clear hD hA hF;rcases hf with⟨rfl,rfl⟩ <;> cases o
 all_goals
  simp only[Oc.is]at FU ⊢;have AD:=hid AD0.out;clear AD0;go_enter func114,ntmps114;go_wp2;replace B:=hid B.out.drew;refine wp_region_held_drew (S:=fun w'=>w'.cell? ⟨g,0,none⟩=some (.int .u64 x)/\w'.cell? ⟨g,1,none⟩=some (.int .u64 y)/\w'.cell? ⟨g,2,none⟩=some (.int .u64 z)) (by kernel_rfl) (HC.out _ B.out) (fun hHeld=>?_)
  repeat
   first
    |((first|refine ch 0 (v:=?_) rfl (by decide+kernel) (fun _ _ _ h=>h) (by rfl) (HC.out _ B.out) (fun w hSw=>?_) ?_|refine ch 1 (v:=?_) rfl (by decide+kernel) (fun _ _ _ h=>h) (by rfl) (HC.out _ B.out) (fun w hSw=>?_) ?_|refine ch 2 (v:=?_) rfl (by decide+kernel) (fun _ _ _ h=>h) (by rfl) (HC.out _ B.out) (fun w hSw=>?_) ?_|refine ch 3 (v:=?_) rfl (by decide+kernel) (fun _ _ _ h=>h) (by rfl) (HC.out _ B.out) (fun w hSw=>?_) ?_|refine ch 4 (v:=?_) rfl (by decide+kernel) (fun _ _ _ h=>h) (by rfl) (HC.out _ B.out) (fun w hSw=>?_) ?_|refine ch 5 (v:=?_) rfl (by decide+kernel) (fun _ _ _ h=>h) (by rfl) (HC.out _ B.out) (fun w hSw=>?_) ?_|refine ch 6 (v:=?_) rfl (by decide+kernel) (fun _ _ _ h=>h) (by rfl) (HC.out _ B.out) (fun w hSw=>?_) ?_|refine ch 7 (v:=?_) rfl (by decide+kernel) (fun _ _ _ h=>h) (by rfl) (HC.out _ B.out) (fun w hSw=>?_) ?_|refine ch 8 (v:=?_) rfl (by decide+kernel) (fun _ _ _ h=>h) (by rfl) (HC.out _ B.out) (fun w hSw=>?_) ?_|refine ch 9 (v:=?_) rfl (by decide+kernel) (fun _ _ _ h=>h) (by rfl) (HC.out _ B.out) (fun w hSw=>?_) ?_|refine ch 10 (v:=?_) rfl (by decide+kernel) (fun _ _ _ h=>h) (by rfl) (HC.out _ B.out) (fun w hSw=>?_) ?_|refine ch 11 (v:=?_) rfl (by decide+kernel) (fun _ _ _ h=>h) (by rfl) (HC.out _ B.out) (fun w hSw=>?_) ?_|refine ch 12 (v:=?_) rfl (by decide+kernel) (fun _ _ _ h=>h) (by rfl) (HC.out _ B.out) (fun w hSw=>?_) ?_|refine ch 13 (v:=?_) rfl (by decide+kernel) (fun _ _ _ h=>h) (by rfl) (HC.out _ B.out) (fun w hSw=>?_) ?_|refine ch 14 (v:=?_) rfl (by decide+kernel) (fun _ _ _ h=>h) (by rfl) (HC.out _ B.out) (fun w hSw=>?_) ?_|refine ch 15 (v:=?_) rfl (by decide+kernel) (fun _ _ _ h=>h) (by rfl) (HC.out _ B.out) (fun w hSw=>?_) ?_|refine ch 16 (v:=?_) rfl (by decide+kernel) (fun _ _ _ h=>h) (by rfl) (HC.out _ B.out) (fun w hSw=>?_) ?_);rotate_left;focus ((try dsimp only at hSw);first|(go_simp;done)|(go_simp;with_reducible rfl));try simp only[Act.put,bj,bB,bg])
    |(refine wpAnyH_done (by decide+kernel) ?_ _)
    |((first|refine wpAnyH_ready (rs:=[4]) (by decide+kernel) (by simp) ?_|refine wpAnyH_ready (rs:=[5]) (by decide+kernel) (by simp) ?_|refine wpAnyH_ready (rs:=[6]) (by decide+kernel) (by simp) ?_|refine wpAnyH_ready (rs:=[7]) (by decide+kernel) (by simp) ?_|refine wpAnyH_ready (rs:=[8]) (by decide+kernel) (by simp) ?_|refine wpAnyH_ready (rs:=[9]) (by decide+kernel) (by simp) ?_|refine wpAnyH_ready (rs:=[10]) (by decide+kernel) (by simp) ?_|refine wpAnyH_ready (rs:=[11]) (by decide+kernel) (by simp) ?_|refine wpAnyH_ready (rs:=[12]) (by decide+kernel) (by simp) ?_|refine wpAnyH_ready (rs:=[13]) (by decide+kernel) (by simp) ?_|refine wpAnyH_ready (rs:=[14]) (by decide+kernel) (by simp) ?_)
      refine AllReadyH.cons (o:=_) (vt rfl) (fun K hK=>?_) AllReadyH.nil;go_simp
      first
       |(refine(AD.out _ B.out).mono ?_;rintro e w' ⟨rfl,hb⟩;replace B:=bt0 B hb;clear hb;refine hK.out _ _ (HC.out _ B.out) (fun _=>?_);clear hK K;try simp only[Act.put,bj,bB,bg])
       |(refine(FU.out _ B.out).mono ?_;rintro e w' ⟨rfl,hb⟩;exact⟨rfl,rfl,af B.out le0 hb⟩)
       |(refine(FU.out _ B.out).mono ?_;rintro e w' ⟨rfl,hb⟩;replace B:=bt0 B hb;clear hb;refine hK.out _ _ (HC.out _ B.out) (fun _=>?_);clear hK K;try simp only[Act.put,bj,bB,bg]))
  all_goals (go_wp2;go_ret;exact⟨rfl,B.out⟩)
theorem tG (nm:ByteArray) (f:Nat) (hf:(nm=⟨#[115,113,114,116]⟩/\f=150)\/(nm=⟨#[101,120,112]⟩/\f=151)\/(nm=⟨#[101,120,112,109,49]⟩/\f=152)\/(nm=⟨#[108,111,103]⟩/\f=153)\/(nm=⟨#[108,111,103,49,112]⟩/\f=154)\/(nm=⟨#[114,111,117,110,100]⟩/\f=155)) (g cap:Nat) (x m r e:Int) (c:Bool) (o:Oc) (w:World) (hD:Dk w)
  (hA:∀w',Dk w'->Calls prog f #[.int .u64 x,.int .i64 m] w' (ei w' r c e))
  (hF:∀w',Dk w'->Calls prog 119 #[.int .u64 r,.bool c,.int .i64 e] w' (bG w' o)) (hc0:w.cell? ⟨g,0,none⟩=some (.int .u64 x)):
  Calls prog 114 #[.string nm,.slice (some ⟨g,0,none⟩) 1 cap,.int .i64 m] w (bG w o):=by
 have FU:=hid (fun w' (hb:Below w.heap.size w w')=>hF w' (hD.below hb));have AD0:=hid (fun w' (hb:Below w.heap.size w w')=>hA w' (hD.below hb));have B:Hid (Below w.heap.size w w):=hid br0;unfold ei at AD0;unfold bG at FU ⊢;clear hD hA hF;rcases hf with⟨rfl,rfl⟩|⟨rfl,rfl⟩|⟨rfl,rfl⟩|⟨rfl,rfl⟩|⟨rfl,rfl⟩|⟨rfl,rfl⟩ <;> cases o
 all_goals
  simp only[Oc.is]at FU ⊢;have AD:=hid AD0.out;clear AD0;go_enter func114,ntmps114
  go_wp2_with (first
   |(go_at_call 119;refine(FU.out _ B.out).mono ?_;rintro e w' ⟨rfl,hb⟩;replace B:=bt0 B hb;clear hb)
   |((first|go_at_call 150|go_at_call 151|go_at_call 152|go_at_call 153|go_at_call 154|go_at_call 155);refine(AD.out _ B.out).mono ?_;rintro e w' ⟨rfl,hb⟩;replace B:=bt0 B hb;clear hb))
  first
   |(go_ret;exact⟨rfl,B.out⟩)
   |exact⟨rfl,B.out⟩
   |exact⟨rfl,rfl,B.out⟩
   |trace_state
theorem sA (x:Int) (x0:0<=x) (x1:x<=18446744073709551615):∃S,Ln 200000 S/\∀w,Dk w->Calls prog 156 #[.int .u64 x] w fun e w'=>e=.returned (.string S)/\Below w.heap.size w w':=
 ⟨⟨(jD x).toArray⟩,Ln.of (by have :=yW x0 x1;omega) (Hf x0 x1),fun w hD=>Kw x x0 x1 w hD⟩
theorem Cq (nm:ByteArray) (f:Nat) (hf:(nm=⟨#[110,101,120,116]⟩/\f=158)\/(nm=⟨#[112,114,101,118]⟩/\f=159)\/(nm=⟨#[110,101,103]⟩/\f=160)) (g cap:Nat) (x r:Int) (S:ByteArray) (w:World) (hD:Dk w)
  (hA:∀w',Dk w'->Calls prog f #[.int .u64 x] w' fun e w2=>e=.returned (.int .u64 r)/\Below w'.heap.size w' w2)
  (hF:∀w',Dk w'->Calls prog 156 #[.int .u64 r] w' fun e w2=>e=.returned (.string S)/\Below w'.heap.size w' w2) (hc0:w.cell? ⟨g,0,none⟩=some (.int .u64 x)):
  Calls prog 117 #[.string nm,.slice (some ⟨g,0,none⟩) 1 cap] w fun e w'=>e=.returned (.string S)/\Below w.heap.size w w':=by
 have FU:=hid (fun w' (hb:Below w.heap.size w w')=>hF w' (hD.below hb));have AD0:=hid (fun w' (hb:Below w.heap.size w w')=>hA w' (hD.below hb));have B:Hid (Below w.heap.size w w):=hid br0;clear hD hA hF;rcases hf with⟨rfl,rfl⟩|⟨rfl,rfl⟩|⟨rfl,rfl⟩
 all_goals
  have AD:=hid AD0.out;clear AD0;go_enter func117,ntmps117
  go_wp2_with (first
   |(go_at_call 156;refine(FU.out _ B.out).mono ?_;rintro e w' ⟨rfl,hb⟩;replace B:=bt0 B hb;clear hb)
   |((first|go_at_call 158|go_at_call 159|go_at_call 160);refine(AD.out _ B.out).mono ?_;rintro e w' ⟨rfl,hb⟩;replace B:=bt0 B hb;clear hb))
  go_ret;exact⟨rfl,B.out⟩
theorem D' (nm:ByteArray) (f:Nat) (hf:(nm=⟨#[114,101,109]⟩/\f=157)\/(nm=⟨#[109,105,110]⟩/\f=161)\/(nm=⟨#[109,97,120]⟩/\f=162)) (g cap:Nat) (x y r:Int) (S:ByteArray) (w:World) (hD:Dk w)
  (hA:∀w',Dk w'->Calls prog f #[.int .u64 x,.int .u64 y] w' fun e w2=>e=.returned (.int .u64 r)/\Below w'.heap.size w' w2)
  (hF:∀w',Dk w'->Calls prog 156 #[.int .u64 r] w' fun e w2=>e=.returned (.string S)/\Below w'.heap.size w' w2) (hc0:w.cell? ⟨g,0,none⟩=some (.int .u64 x)) (hc1:w.cell? ⟨g,1,none⟩=some (.int .u64 y)):
  Calls prog 117 #[.string nm,.slice (some ⟨g,0,none⟩) 2 cap] w fun e w'=>e=.returned (.string S)/\Below w.heap.size w w':=by
 have hgl:=World.block_lt_of_cell? w ⟨g,0,none⟩ hc0;have HC:=hid (fun w' (hb:Below w.heap.size w w')=>(show w'.cell? ⟨g,0,none⟩=some (.int .u64 x)/\w'.cell? ⟨g,1,none⟩=some (.int .u64 y) from⟨(hb.cell (p:=⟨g,0,none⟩) hgl).trans hc0,(hb.cell (p:=⟨g,1,none⟩) hgl).trans hc1⟩));have FU:=hid (fun w' (hb:Below w.heap.size w w')=>hF w' (hD.below hb));have AD0:=hid (fun w' (hb:Below w.heap.size w w')=>hA w' (hD.below hb));have B:Hid (Below w.heap.size w w):=hid br0;clear hD hA hF;rcases hf with⟨rfl,rfl⟩|⟨rfl,rfl⟩|⟨rfl,rfl⟩
 all_goals
  have AD:=hid AD0.out;clear AD0;go_enter func117,ntmps117;go_wp2;replace B:=hid B.out.drew
  go_region_held3 (fun w'=>w'.cell? ⟨g,0,none⟩=some (.int .u64 x)/\w'.cell? ⟨g,1,none⟩=some (.int .u64 y))
   (first
    |(with_reducible exact HC.out _ B.out)
    |(go_keep;done))
   (first
    |((first|(go_at_call 156;refine(FU.out _ B.out).mono ?_)|((first|go_at_call 157|go_at_call 161|go_at_call 162);refine(AD.out _ B.out).mono ?_));rintro e w' ⟨rfl,hb⟩;replace B:=bt0 B hb;clear hb))
  go_wp2;go_ret;exact⟨rfl,B.out⟩
theorem Nn (g cap:Nat) (x y n:Int) (ok:Bool) (S:ByteArray) (hS:(ok=false/\S=⟨#[63]⟩)\/(ok=true/\((n= -1/\S=⟨#[60]⟩)\/(n=0/\S=⟨#[61]⟩)\/(n=1/\S=⟨#[62]⟩)))) (w:World)
  (CM:Hid (∀w',Calls prog 165 #[.int .u64 x,.int .u64 y] w' fun e w2=>e=.returned (.tuple #[.int .i64 n,.bool ok])/\w'=w2))
  (hc0:w.cell? ⟨g,0,none⟩=some (.int .u64 x)) (hc1:w.cell? ⟨g,1,none⟩=some (.int .u64 y)):
  Calls prog 117 #[.string ⟨#[99,109,112]⟩,.slice (some ⟨g,0,none⟩) 2 cap] w fun e w'=>e=.returned (.string S)/\Below w.heap.size w w':=by
 have hi0:∀w',(Instr.index 185 (.agg #[.string ⟨#[60]⟩,.string ⟨#[61]⟩,.string ⟨#[62]⟩]) (.int .i64 0)).run prog w'=.ok (.string ⟨#[60]⟩) w':=fun w'=>by kernel_rfl
 have hi1:∀w',(Instr.index 185 (.agg #[.string ⟨#[60]⟩,.string ⟨#[61]⟩,.string ⟨#[62]⟩]) (.int .i64 1)).run prog w'=.ok (.string ⟨#[61]⟩) w':=fun w'=>by kernel_rfl
 have hi2:∀w',(Instr.index 185 (.agg #[.string ⟨#[60]⟩,.string ⟨#[61]⟩,.string ⟨#[62]⟩]) (.int .i64 2)).run prog w'=.ok (.string ⟨#[62]⟩) w':=fun w'=>by kernel_rfl
 rcases hS with⟨rfl,rfl⟩|⟨rfl,⟨rfl,rfl⟩|⟨rfl,rfl⟩|⟨rfl,rfl⟩⟩
 all_goals
  go_enter func117,ntmps117;go_wp2
  go_region_held3 (fun w'=>w'.cell? ⟨g,0,none⟩=some (.int .u64 x)/\w'.cell? ⟨g,1,none⟩=some (.int .u64 y))
   (first
    |(with_reducible exact⟨hc0,hc1⟩)
    |(go_keep;done))
   (first
    |(go_at_call 165;refine(CM.out _).mono ?_;rintro e w' ⟨rfl,rfl⟩))
  go_wp2;go_ret;exact⟨rfl,dh (n:=1) br0⟩
def sS (nm:ByteArray):Prop:= ∀(x:Int),0<=x->x<=18446744073709551615->∃S,Ln 200000 S/\∀(g cap:Nat) (w:World),Dk w->w.cell? ⟨g,0,none⟩=some (.int .u64 x)->Calls prog 117 #[.string nm,.slice (some ⟨g,0,none⟩) 1 cap] w fun e w'=>e=.returned (.string S)/\Below w.heap.size w w'
def tY (nm:ByteArray):Prop:= ∀(x y:Int),0<=x->x<=18446744073709551615->0<=y->y<=18446744073709551615->∃S,Ln 200000 S/\∀(g cap:Nat) (w:World),Dk w->w.cell? ⟨g,0,none⟩=some (.int .u64 x)->w.cell? ⟨g,1,none⟩=some (.int .u64 y)->Calls prog 117 #[.string nm,.slice (some ⟨g,0,none⟩) 2 cap] w fun e w'=>e=.returned (.string S)/\Below w.heap.size w w'
theorem still {P:Program}{f:Nat}{a:Array Value}{w:World}{v:Ending}(h:Calls P f a w fun e w'=>e=v/\w=w'):Calls P f a w fun e w'=>e=v/\Below w.heap.size w w':=
 h.mono fun e w' k=>⟨k.1,by obtain⟨-,rfl⟩:=k;exact Below.refl _ _⟩
theorem Ub:sS ⟨#[110,101,120,116]⟩:=by
 intro x x0 x1;have hb:=YZ x0 x1;obtain⟨S,hS,hF⟩:=sA _ hb.1 hb.2;exact⟨S,hS,fun g cap w hD c0=>Cq _ _ (Or.inl ⟨rfl,rfl⟩) g cap x _ S w hD (fun w h=>still (OO x x0 x1 w)) hF c0⟩
theorem Wq:sS ⟨#[112,114,101,118]⟩:=by
 intro x x0 x1;have hb:=XT x0 x1;obtain⟨S,hS,hF⟩:=sA _ hb.1 hb.2;exact⟨S,hS,fun g cap w hD c0=>Cq _ _ (Or.inr (Or.inl ⟨rfl,rfl⟩)) g cap x _ S w hD (fun w h=>still (Zm x x0 x1 w)) hF c0⟩
theorem ag7 {x:Int}(x0:0<=x) (x1:x<=18446744073709551615):0<=kg x/\kg x<=18446744073709551615:=by unfold kg;split <;> omega
theorem TK:sS ⟨#[110,101,103]⟩:=by
 intro x x0 x1;have hb:=ag7 x0 x1;obtain⟨S,hS,hF⟩:=sA _ hb.1 hb.2;exact⟨S,hS,fun g cap w hD c0=>Cq _ _ (Or.inr (Or.inr (⟨rfl,rfl⟩))) g cap x _ S w hD (fun w h=>still (Fy x x0 x1 w)) hF c0⟩
theorem Xe:tY ⟨#[114,101,109]⟩:=by
 intro x y x0 x1 y0 y1;have hb:=Yy (y:=y) x0 x1;obtain⟨S,hS,hF⟩:=sA _ hb.1 hb.2;exact⟨S,hS,fun g cap w hD c0 c1=>D' _ _ (Or.inl ⟨rfl,rfl⟩) g cap x y _ S w hD (fun w h=>ZR x y x0 x1 y0 y1 w h.t32) hF c0 c1⟩
theorem RU:tY ⟨#[109,105,110]⟩:=by
 intro x y x0 x1 y0 y1;have hb:=Mt (s:=1) x0 x1 y0 y1;obtain⟨S,hS,hF⟩:=sA _ hb.1 hb.2;exact⟨S,hS,fun g cap w hD c0 c1=>D' _ _ (Or.inr (Or.inl ⟨rfl,rfl⟩)) g cap x y _ S w hD (fun w h=>still (Yz x y x0 x1 y0 y1 w)) hF c0 c1⟩
theorem SY:tY ⟨#[109,97,120]⟩:=by
 intro x y x0 x1 y0 y1;have hb:=Mt (s:= -1) x0 x1 y0 y1;obtain⟨S,hS,hF⟩:=sA _ hb.1 hb.2;exact⟨S,hS,fun g cap w hD c0 c1=>D' _ _ (Or.inr (Or.inr (⟨rfl,rfl⟩))) g cap x y _ S w hD (fun w h=>still (QC x y x0 x1 y0 y1 w)) hF c0 c1⟩
theorem Rt:tY ⟨#[99,109,112]⟩:=by
 intro x y x0 x1 y0 y1
 have hn:o' x y= -1\/o' x y=0\/o' x y=1:=by
  have :=KJ (bO x) (bO y);unfold o';split <;> omega
 obtain⟨S,hS,h⟩:∃S:ByteArray,Ln 200000 S/\((ra x y=false/\S=⟨#[63]⟩)\/(ra x y=true/\((o' x y= -1/\S=⟨#[60]⟩)\/(o' x y=0/\S=⟨#[61]⟩)\/(o' x y=1/\S=⟨#[62]⟩)))):=by
  cases ra x y
  .exact⟨_,Ln.of (s:=[63]) (by decide) (by decide),Or.inl ⟨rfl,rfl⟩⟩
  .rcases hn with h|h|h
   .exact⟨_,Ln.of (s:=[60]) (by decide) (by decide),Or.inr ⟨rfl,Or.inl ⟨h,rfl⟩⟩⟩
   .exact⟨_,Ln.of (s:=[61]) (by decide) (by decide),Or.inr ⟨rfl,Or.inr (Or.inl ⟨h,rfl⟩)⟩⟩
   .exact⟨_,Ln.of (s:=[62]) (by decide) (by decide),Or.inr ⟨rfl,Or.inr (Or.inr ⟨h,rfl⟩)⟩⟩
 exact⟨S,hS,fun g cap w hD c0 c1=>Nn g cap x y _ _ S h w (hid fun w'=>Lf x y x0 x1 y0 y1 w') c0 c1⟩
theorem Wm {x:Int}(x0:0<=x) (x1:x<=18446744073709551615):(10:UInt8) ∉ sz x:=by
 intro h;unfold sz at h;rcases gF.1 h with h|h
 .exact absurd (n_.1 (rS (FX x0 x1)) 10 h) (by decide)
 .rcases iI.1 h with h|h
  .exact absurd h (by decide)
  .rcases gF.1 h with h|h
   .exact absurd (n_.1 (Jd x) 10 h) (by decide)
   .rcases iI.1 h with h|h
    .exact absurd h (by decide)
    .have :=(GN x).2 10 h;exact absurd rfl this.1
theorem af5:sS ⟨#[115,104,111,119]⟩:=by
 intro x x0 x1;have l1:=xx x0 x1;have l2:=xZ x;have l3:=AF x0 x1;exact⟨⟨(sz x).toArray⟩,Ln.of (by unfold sz;simp only[ck,ez];omega) (Wm x0 x1),fun g cap w hD c0=>ZM g cap x x0 x1 w hD c0⟩
