import Derived.Test.YtofdjfdnckmmmaaGreatDoorZr
set_option linter.all false
set_option maxHeartbeats 16000000
set_option maxRecDepth 100000
open Go.Proofs.Tryz
open Go.Lib (hid decDigits trimRightB)
namespace Go.Proofs.YtofdjfdnckmmmaaGreatDoor
open Go.Shelf Go.RowKit Nt Fm Fl
theorem Tryz.laysTrimRight:Go.Proofs.Lays.n162 prog Tryz.RN:= { Tryz.laysTrimLeft with
 f120:=aA func239 (by kernel_rfl)
 f162:=aA func131 (by kernel_rfl)
 f232:=aA func174 (by kernel_rfl)
 f234:=aA func175 (by kernel_rfl)
 f236:=aA func176 (by kernel_rfl)
 f271:=aA func218 (by kernel_rfl) }
theorem Qo:Tryz.RN.f 162=131:=by kernel_rfl
theorem tO (s:List UInt8) (S:ByteArray) (hS:S=⟨s.toArray⟩) (hl:s.length<=10000) (w:World):
  Calls prog 131 #[.string S,.string ⟨#[48]⟩] w fun e w'=>e=.returned (.string ⟨(trimRightB s 48).toArray⟩)/\w'=w:=by
 have zS:S.size=s.length:=by rw[hS];rfl
 have h:=Any.strings_TrimRight_one Tryz.laysTrimRight S 48 (by decide) w (by omega);rw[Qo,show S.data.toList=s by rw[hS]]at h;exact h
theorem rC (l:List UInt8) (c:UInt8):(trimRightB l c).length<=l.length:=by
 unfold trimRightB;rw[um];have :=nQ (p:=(· ==c)) l.reverse
 rw[um]at this;exact this
theorem Db {a:Nat}(h:a<2^62):(decDigits a).length<=200:=by
 have h1:a<=10^20:=by
  have e1:(2:Nat)^62=4611686018427387904:=by decide
  have e2:(10:Nat)^20=100000000000000000000:=by decide
  omega
 have h2:=qR h1;have h3:(decDigits (10^20)).length<=200:=by decide+kernel
 omega
def AA (w:World) (s:List UInt8) (k er:Int) (e:Ending) (w':World):Prop:=e=.returned (.tuple #[.string ⟨s.toArray⟩,.int .i64 k,.int .i64 er])/\Below w.heap.size w w'
theorem Wu (x:Int) (x0:0<=x) (x1:x<=18446744073709551615) (hv:dG x=true) (hx:1<=ay x) (w:World) (hT:aQ w) (hT10:b_ w):
  Calls prog 214 #[.int .u64 x] w (AA w (dx x) (gi x) 0):=by
 have HV:=hid (fun w'=>sI x x0 x1 w');rw[hv]at HV;have CL:=hid (fun w'=>fB x x0 x1 w');have hm:=(wQ x0 x1 hx).2;have LM:=hid (fun w'=>Wf x x0 x1 hm w');have hc:ak x≠1:=by unfold ak;split <;> (try split) <;> (try split) <;> (try split) <;> omega
 have hf:=pX x;have he:=rQ x;have hM:aP x<9007199254740992:=by unfold aP;split <;> omega
 have hE: -1076<=bw x/\bw x<=971:=by unfold bw;omega
 have NM:=hid (fun va w' (ht:aQ w') (ha:NV w' va (4*aP x))=>iU false va _ 60 (bw x) w' ht ha (by omega) (by omega) (by omega) (by omega));have hsh:norm false (4*aP x) (bw x)=cK x:=rfl;rw[hsh]at NM;have hmid:=(wU x0 x1 hx).1;have LG:=hid (fun v w' (h:DV w' v (cK x))=>Ir v (cK x) w' h hmid);have HT:=hid hT;have H10:=hid hT10;have B:Hid (Below w.heap.size w w):=hid br0;clear hT hT10;generalize ak x=c at *;have hc1:(c==1)=false:=by rw[aH];exact hc
 obtain⟨TS,hTS⟩:∃T:ByteArray,T=⟨(dx x).toArray⟩:=⟨_,rfl⟩;obtain⟨SX,hSX⟩:∃z,z=gi x:=⟨_,rfl⟩;unfold AA;rw[<-hTS,<-hSX];have HTS:=hid hTS;have HSX:=hid hSX;clear hTS hSX;go_enter func214,ntmps214
 go_wp2_with (first
  |(go_at_call 27;refine(HV.out _).mono ?_;rintro e w1 ⟨rfl,rfl⟩)
  |(go_at_call 8;refine(CL.out _).mono ?_;rintro e w1 ⟨rfl,rfl⟩)
  |(go_at_call 234;refine(LM.out _).mono ?_;rintro e w1 ⟨v1,rfl,⟨va,vb,vc,rfl,n1,n2,n3⟩,hb1⟩;obtain⟨aa,an,ac,rfl⟩:=n1.shape;obtain⟨ba,bn,bc,rfl⟩:=n2.shape;obtain⟨ca,cn,cc,rfl⟩:=n3.shape;have X0:=hid (cw.new w1 (.slice none 0 0) (.slice none 0 0) (.slice none 0 0) (.int .i64 0) (.bool false) 243);obtain⟨s0,s1,s2,s3,s4,t0,t1,t2,t3,t4⟩:=X0.out.cells))
 clear s0 s1 s2 s3 s4 t0 t1 t2 t3 t4 X0;replace B:=bt0 B hb1;replace HT:=hid (HT.out.below hb1);replace H10:=hid (H10.out.below hb1);obtain⟨V,hV⟩:∃V,V=w1.alloc (.cells #[.slice aa an ac,.slice ba bn bc,.slice ca cn cc,.int .i64 (bw x),.bool (decide (c8 x%2=0))] 243):=⟨_,rfl⟩;have X:Hid (cw V w1.heap.size 243 (.slice aa an ac) (.slice ba bn bc) (.slice ca cn cc) (.int .i64 (bw x)) (.bool (decide (c8 x%2=0)))):=hid (by rw[hV];exact cw.new w1 _ _ _ _ _ _);replace HT:Hid (aQ V):=hid (by rw[hV];exact HT.out.alloc _);replace H10:Hid (b_ V):=hid (by rw[hV];exact H10.out.below (br0.alloc le0 _));have N1:Hid (NV V (.slice aa an ac) (4*aP x)):=hid (by rw[hV];exact n1.alloc _);have N2:Hid (NV V (.slice ba bn bc) (dB x)):=hid (by rw[hV];exact n2.alloc _);have N3:Hid (NV V (.slice ca cn cc) (4*aP x+2)):=hid (by rw[hV];exact n3.alloc _);replace B:Hid (Below w.heap.size w V):=hid (by rw[hV];exact B.out.alloc B.out.size _);obtain⟨b,hb⟩:∃b,b=w1.heap.size:=⟨_,rfl⟩;rw[<-hV];rw[<-hb]at X ⊢;clear hV n1 n2 n3 hb1 hb;refine(NM.out _ _ HT.out N1.out).mono ?_;rintro r w2 ⟨v2,rfl,h2,hb2⟩;obtain⟨sv,rfl,hs2⟩:=h2;obtain⟨sa,sn,sc,rfl⟩:=hs2.shape;replace X:=hid (X.out.below hb2);replace HT:=hid (HT.out.below hb2);replace H10:=hid (H10.out.below hb2);replace N1:=hid (N1.out.below hb2);replace N2:=hid (N2.out.below hb2);replace N3:=hid (N3.out.below hb2);replace B:=bt0 B hb2;have S2:=hid hs2;clear hs2 hb2;go_wp2_with fail
 obtain⟨V2,hV2⟩:∃V2,V2=w2.alloc (.cells #[.bool (cK x).neg,.slice sa sn sc,.int .i64 (cK x).e] 68):=⟨_,rfl⟩;have Y:Hid (ax V2 w2.heap.size 68 (.bool (cK x).neg) (.slice sa sn sc) (.int .i64 (cK x).e)):=hid (by rw[hV2];exact ax.new w2 _ _ _ _);replace X:Hid (cw V2 b 243 (.slice aa an ac) (.slice ba bn bc) (.slice ca cn cc) (.int .i64 (bw x)) (.bool (decide (c8 x%2=0)))):=hid (by rw[hV2];exact X.out.alloc _);replace HT:Hid (aQ V2):=hid (by rw[hV2];exact HT.out.alloc _);replace H10:Hid (b_ V2):=hid (by rw[hV2];exact H10.out.below (br0.alloc le0 _));replace N1:Hid (NV V2 (.slice aa an ac) (4*aP x)):=hid (by rw[hV2];exact N1.out.alloc _);replace N2:Hid (NV V2 (.slice ba bn bc) (dB x)):=hid (by rw[hV2];exact N2.out.alloc _);replace N3:Hid (NV V2 (.slice ca cn cc) (4*aP x+2)):=hid (by rw[hV2];exact N3.out.alloc _);replace S2:Hid (NV V2 (.slice sa sn sc) (cK x).m):=hid (by rw[hV2];exact S2.out.alloc _);replace B:Hid (Below w.heap.size w V2):=hid (by rw[hV2];exact B.out.alloc B.out.size _);obtain⟨y,hy⟩:∃y,y=w2.heap.size:=⟨_,rfl⟩;rw[<-hV2];rw[<-hy]at Y ⊢;clear hV2 hy;refine(LG.out _ _ ⟨_,rfl,S2.out⟩).mono ?_;rintro r w3 ⟨rfl,hb3⟩;replace X:=hid (X.out.below hb3);replace Y:=hid (Y.out.below hb3);replace HT:=hid (HT.out.below hb3);replace H10:=hid (H10.out.below hb3);replace N1:=hid (N1.out.below hb3);replace N2:=hid (N2.out.below hb3);replace N3:=hid (N3.out.below hb3);replace S2:=hid (S2.out.below hb3);replace B:=bt0 B hb3;clear hb3;go_wp2_with fail
 have hp:=yC hmid;go_loopw [8] (fun pv wr=>∃n:Nat,pv=.int .i64 (n:Int)/\1<=n/\n<=17/\Hid ((∀i,1<=i->i<n->gw x i=false)/\True)/\Hid (cw wr b 243 (.slice aa an ac) (.slice ba bn bc) (.slice ca cn cc) (.int .i64 (bw x)) (.bool (decide (c8 x%2=0))))/\Hid (ax wr y 68 (.bool (cK x).neg) (.slice sa sn sc) (.int .i64 (cK x).e))/\Hid (aQ wr)/\Hid (b_ wr)/\Hid (NV wr (.slice aa an ac) (4*aP x))/\Hid (NV wr (.slice ba bn bc) (dB x))/\Hid (NV wr (.slice ca cn cc) (4*aP x+2))/\Hid (NV wr (.slice sa sn sc) (cK x).m)/\Hid (Below w.heap.size w wr)) (fun pv _=>(17-intOf pv).toNat)
 case atStart=>exact⟨1,rfl,by omega,by omega,hid ⟨fun i h1 h2=>by omega,trivial⟩,X,Y,HT,H10,N1,N2,N3,S2,B⟩
 case round=>
  obtain⟨n,rfl,hn1,hn2,HI,X,Y,HT,H10,N1,N2,N3,S2,B⟩:=hrel;obtain⟨kk,hkk⟩:∃kk,kk=bW x n:=⟨_,rfl⟩;have hk:dK (cK x)+1-(n:Int)=kk:=by rw[hkk];rfl
  have hkb: -420<=kk/\kk<=420:=by omega
  obtain⟨Q,hQ⟩:∃Q,Q=dS x n:=⟨_,rfl⟩;obtain⟨t1,t2⟩:=yp x0 x1 hx n hn1;rw[<-hQ]at t1 t2;have hQ0:1<=Q:=by have :=fN (n:=n-1) (show 0<10 by omega);omega
  have hQb:Q+1<2^62:=by
   have h1:10^n<=10^17:=aG (by omega) hn2;have h2:(10:Nat)^17=100000000000000000:=by decide
   have h3:(2:Nat)^62=4611686018427387904:=by decide
   omega
  have cV:=Y9 x0 x1 hx hn1;rw[<-hQ]at cV;obtain⟨DS,hDS⟩:∃T:ByteArray,T=⟨(decDigits Q).toArray⟩:=⟨_,rfl⟩
  have hdl:(decDigits Q).length<=100:=by
   rw[<-cV,xJ (Or.inr hmid) hn1];omega
  have DG:=hid (fun v w' (h:DV w' v (cK x)) (h10:b_ w')=>AG v (cK x) n 3 w' h (Or.inr hmid) hn1 (by omega) (by omega) (by omega) h10);unfold rX at DG;rw[cV,<-hDS]at DG;have RD:=hid (fun w'=>Hx (decDigits Q) DS hDS (oW Q) (by omega) w');rw[uV]at RD;have OF:=hid (fun w'=>dU 1 (by omega) (by omega) w');have PL:=hid (fun va vb w' (h:NV w' va Q) (h2:NV w' vb 1)=>gN va vb Q 1 62 w' h h2 (by omega) (Oy (by omega)) (by omega));have F1:=hid (fun va vb vc vn w' (h1:NV w' vb (dB x)) (h2:NV w' vc (4*aP x+2)) (h3:NV w' vn Q) (h4:∃S,NV w' va S)=>Hj va vb vc vn (dB x) (4*aP x+2) Q kk (bw x) (decide (c8 x%2=0)) 62 w' h1 h2 h3 h4 (by unfold dB;split <;> omega) (by omega) (by omega) (by omega) (by omega) (by omega) (by omega) (by omega));have F2:=hid (fun va vb vc vn w' (h1:NV w' vb (dB x)) (h2:NV w' vc (4*aP x+2)) (h3:NV w' vn (Q+1)) (h4:∃S,NV w' va S)=>Hj va vb vc vn (dB x) (4*aP x+2) (Q+1) kk (bw x) (decide (c8 x%2=0)) 62 w' h1 h2 h3 h4 (by unfold dB;split <;> omega) (by omega) (by omega) (by omega) (by omega) (by omega) (by omega) (by omega));have ea:nU Q (dB x) (4*aP x+2) kk (bw x) (decide (c8 x%2=0))=ma x n:=by rw[hQ,hkk];rfl
  have ec:nU (Q+1) (dB x) (4*aP x+2) kk (bw x) (decide (c8 x%2=0))=lQ x n:=by rw[hQ,hkk];rfl
  rw[ea]at F1;rw[ec]at F2;have HK:=hid hkk;have HQ:=hid hQ;have HDS:=hid hDS;have zDS:DS.size=(decDigits Q).length:=by rw[hDS];rfl
  clear hkk hQ t1 t2 cV hDS ea ec NM LG LM CL HV hsh;obtain⟨q0,q1,q2,-,-,-⟩:=Y.out.cells
  go_wp2_with (first
   |(go_at_call 84;refine(DG.out _ _ ⟨_,rfl,S2.out⟩ H10.out).mono ?_;rintro r w4 ⟨rfl,hb4⟩;replace X:=hid (X.out.below hb4);replace Y:=hid (Y.out.below hb4);replace HT:=hid (HT.out.below hb4);replace H10:=hid (H10.out.below hb4);replace N1:=hid (N1.out.below hb4);replace N2:=hid (N2.out.below hb4);replace N3:=hid (N3.out.below hb4);replace S2:=hid (S2.out.below hb4);replace B:=bt0 B hb4;clear hb4)
   |(go_at_call 64;refine(RD.out _).mono ?_;rintro r w5 ⟨v5,rfl,h5,hb4⟩;obtain⟨la,ln,lc,rfl⟩:=h5.shape;have NL:=hid h5;replace X:=hid (X.out.below hb4);replace Y:=hid (Y.out.below hb4);replace HT:=hid (HT.out.below hb4);replace H10:=hid (H10.out.below hb4);replace N1:=hid (N1.out.below hb4);replace N2:=hid (N2.out.below hb4);replace N3:=hid (N3.out.below hb4);replace S2:=hid (S2.out.below hb4);replace B:=bt0 B hb4;clear hb4 h5)
   |(go_at_call 61;refine(OF.out _).mono ?_;rintro r w6 ⟨v6,rfl,h6,hb4⟩;have NO:=hid h6;replace NL:=hid (NL.out.below hb4);replace X:=hid (X.out.below hb4);replace Y:=hid (Y.out.below hb4);replace HT:=hid (HT.out.below hb4);replace H10:=hid (H10.out.below hb4);replace N1:=hid (N1.out.below hb4);replace N2:=hid (N2.out.below hb4);replace N3:=hid (N3.out.below hb4);replace S2:=hid (S2.out.below hb4);replace B:=bt0 B hb4;clear hb4 h6)
   |(go_at_call 103;refine(PL.out _ _ _ NL.out NO.out).mono ?_;rintro r w7 ⟨v7,rfl,h7,hb4⟩;obtain⟨ha,hn,hc2,rfl⟩:=h7.shape;have NH:=hid h7;replace NL:=hid (NL.out.below hb4);replace X:=hid (X.out.below hb4);replace Y:=hid (Y.out.below hb4);replace HT:=hid (HT.out.below hb4);replace H10:=hid (H10.out.below hb4);replace N1:=hid (N1.out.below hb4);replace N2:=hid (N2.out.below hb4);replace N3:=hid (N3.out.below hb4);replace S2:=hid (S2.out.below hb4);replace B:=bt0 B hb4;clear hb4 h7))
  have hdr:=(Below.refl w7.heap.size w7).drew;replace X:=hid (X.out.below hdr);replace Y:=hid (Y.out.below hdr);replace HT:=hid (HT.out.below hdr);replace H10:=hid (H10.out.below hdr);replace N1:=hid (N1.out.below hdr);replace N2:=hid (N2.out.below hdr);replace N3:=hid (N3.out.below hdr);replace S2:=hid (S2.out.below hdr);replace NL:=hid (NL.out.below hdr);replace NH:=hid (NH.out.below hdr);replace B:=hid B.out.drew;clear hdr q0 q1 q2 NO;obtain⟨p0,p1,p2,p3,p4,-,-,-,-,-⟩:=X.out.cells
  go_region_held3 (fun w'=>w'.cell? ⟨b,0,none⟩=some (.slice aa an ac)/\w'.cell? ⟨b,1,none⟩=some (.slice ba bn bc)/\w'.cell? ⟨b,2,none⟩=some (.slice ca cn cc)/\w'.cell? ⟨b,3,none⟩=some (.int .i64 (bw x))/\w'.cell? ⟨b,4,none⟩=some (.bool (decide (c8 x%2=0))))
   (first
    |with_reducible exact⟨p0,p1,p2,p3,p4⟩
    |(obtain⟨p0,p1,p2,p3,p4,-,-,-,-,-⟩:=X1.out.cells;exact⟨p0,p1,p2,p3,p4⟩)
    |(obtain⟨p0,p1,p2,p3,p4,-,-,-,-,-⟩:=X2.out.cells;exact⟨p0,p1,p2,p3,p4⟩)
    |(go_keep;done))
   (first
    |(go_at_call_of 235 (Value.slice la ln lc);refine(F1.out _ _ _ _ _ N2.out N3.out NL.out ⟨_,N1.out⟩).mono ?_;rintro r w8 ⟨rfl,hb8⟩;have HB8:=hid hb8;have X1:=hid (X.out.below hb8))
    |(go_at_call_of 235 (Value.slice ha hn hc2);refine(F2.out _ _ _ _ _ (N2.out.below HB8.out) (N3.out.below HB8.out) (NH.out.below HB8.out) ⟨_,N1.out.below HB8.out⟩).mono ?_;rintro r w9 ⟨rfl,hb9⟩;have X2:=hid (X1.out.below hb9)))
  have hb10:=af HB8.out le0 hb9;replace X:=hid (X.out.below hb10);replace Y:=hid (Y.out.below hb10);replace HT:=hid (HT.out.below hb10);replace H10:=hid (H10.out.below hb10);replace N1:=hid (N1.out.below hb10);replace N2:=hid (N2.out.below hb10);replace N3:=hid (N3.out.below hb10);replace S2:=hid (S2.out.below hb10);replace NL:=hid (NL.out.below hb10);replace NH:=hid (NH.out.below hb10);replace B:=bt0 B hb10;clear hb8 hb9 hb10 HB8 X1 X2 p0 p1 p2 p3 p4 F1 F2 DG RD OF PL;have hst:gw x n=(ma x n || lQ x n):=rfl;cases hfa:ma x n
  .cases hfc:lQ x n
   .have hs0:gw x n=false:=by rw[hst,hfa,hfc];rfl
    have hn3:n+1<=17:=by
     rcases eJ n 17 with g|g
     .exact g
     .exfalso
      have :=EG x0 x1 hx;rw[show(17:Nat)=n by omega,hs0]at this;exact absurd this (by decide)
    have HS0:=hid hs0;clear hst hs0 HDS zDS;go_wp2;go_roundw
    case rel=>
     refine⟨n+1,by go_num,by omega,hn3,hid ⟨fun i h1 h2=>?_,trivial⟩,X,Y,HT,H10,N1,N2,N3,S2,B⟩;rcases eJ i n with g|g
     .exact HI.out.1 i h1 g
     .obtain rfl:i=n:=by omega
      exact HS0.out
    case measure=>simp [intOf] <;> omega
   .have hC:iK x n=true:=by unfold iK;rw[hfa,hfc,ag (by simp)]
    clear hst;obtain⟨e1,e2⟩:=rN x0 x1 hx hn1 (by unfold gw;rw[hfa,hfc];rfl) HI.out.1 hC;rw[<-HQ.out,<-HK.out,aj rfl]at e2;rw[<-HQ.out,aj rfl]at e1;have hTS:=HTS.out;obtain⟨US,hUS⟩:∃T:ByteArray,T=⟨(decDigits (Q+1)).toArray⟩:=⟨_,rfl⟩;have zTS:TS.size=(dx x).length:=by rw[hTS];rfl
    have zUS:US.size=(decDigits (Q+1)).length:=by rw[hUS];rfl
    have hul:(decDigits (Q+1)).length<=200:=Db hQb;have TR:=hid (fun w'=>tO (decDigits (Q+1)) US hUS (by omega) w');rw[<-e1,<-hTS]at TR;have DC:=hid (fun va w' (h:NV w' va (Q+1)) (h10:b_ w')=>uz va (Q+1) 62 w' h hQb (by omega) h10);rw[<-hUS]at DC;have htl:(dx x).length<=(decDigits (Q+1)).length:=by rw[e1];exact rC _ _
    rw[<-zUS,<-zTS]at e2;rw[<-zUS,<-zTS]at htl;rw[<-zUS]at hul;have hw1:kk+((US.size:Nat):Int)-((TS.size:Nat):Int)=gi x:=e2.symm;rw[<-HSX.out]at hw1 e2;clear e1 e2 hTS HTS HSX HI zTS HDS zDS hC HQ HK hUS zUS
    go_wp2_with (first
     |(go_at_call 83;refine(DC.out _ _ NH.out H10.out).mono ?_;rintro r w10 ⟨rfl,hb10⟩;replace B:=bt0 B hb10;clear hb10)
     |(go_at_call 131;refine(TR.out _).mono ?_;rintro r w11 ⟨rfl,rfl⟩))
    go_ret3;exact⟨rfl,B.out⟩
  .cases hfc:lQ x n
   .have hC:iK x n=false:=by unfold iK;rw[hfa,hfc,ag (by simp)]
    clear hst;obtain⟨e1,e2⟩:=rN x0 x1 hx hn1 (by unfold gw;rw[hfa,hfc];rfl) HI.out.1 hC;rw[<-HQ.out,<-HK.out,ag (by decide)]at e2;rw[<-HQ.out,ag (by decide)]at e1;have hTS:=HTS.out;have zTS:TS.size=(dx x).length:=by rw[hTS];rfl
    have TR:=hid (fun w'=>tO (decDigits Q) DS HDS.out (by omega) w');rw[<-e1,<-hTS]at TR;have htl:(dx x).length<=(decDigits Q).length:=by rw[e1];exact rC _ _
    rw[<-zDS,<-zTS]at e2;rw[<-zDS,<-zTS]at htl;rw[<-zDS]at hdl;have hw1:kk+((DS.size:Nat):Int)-((TS.size:Nat):Int)=gi x:=e2.symm;rw[<-HSX.out]at hw1 e2;clear e1 e2 hTS HTS HSX HI zTS HDS zDS hC HQ HK
    go_wp2_with (first
     |(go_at_call 131;refine(TR.out _).mono ?_;rintro r w10 ⟨rfl,rfl⟩))
    go_ret3;exact⟨rfl,B.out⟩
   .clear hst
    have PL:=hid (fun w' (h:NV w' (.slice la ln lc) Q) (h2:NV w' (.slice ha hn hc2) (Q+1))=>gN _ _ Q (Q+1) 62 w' h h2 (by omega) (by omega) (by omega));have CP:=hid (fun va w' (h:NV w' va (Q+(Q+1))) (h2:NV w' (.slice aa an ac) (4*aP x))=>Bs va _ (Q+(Q+1)) (4*aP x) kk (bw x+1) 63 w' h h2 (by omega) (by omega) (by omega) (by omega) (by omega) (by omega) (by omega));obtain⟨hf2,hhf⟩:∃h,h=aK (nG (Q+(Q+1)) kk (bw x+1)) (mX (4*aP x) kk (bw x+1)):=⟨_,rfl⟩;rw[<-hhf]at CP
    have HC0:=hid (show iK x n=(decide (hf2<0) || (hf2==0 && decide (Q%2=1))) by
     unfold iK xI;rw[hfa,hfc,aj ⟨rfl,rfl⟩,<-HQ.out,<-HK.out,<-hhf])
    clear hhf;have hwe:=hid (show IntKind.i64.wrap (bw x+1)=bw x+1 from IntWalk.i64_in _ (by omega));go_wp2_with fail
    have hdr:=(Below.refl w9.heap.size w9).drew;replace X:=hid (X.out.below hdr);replace H10:=hid (H10.out.below hdr);replace N1:=hid (N1.out.below hdr);replace NL:=hid (NL.out.below hdr);replace NH:=hid (NH.out.below hdr);replace B:=hid B.out.drew;clear hdr;obtain⟨p0,p1,p2,p3,p4,-,-,-,-,-⟩:=X.out.cells
    go_region_held3 (fun w'=>w'.cell? ⟨b,0,none⟩=some (.slice aa an ac)/\w'.cell? ⟨b,3,none⟩=some (.int .i64 (bw x)))
     (first
      |with_reducible exact⟨p0,p3⟩
      |(obtain⟨p0,p1,p2,p3,p4,-,-,-,-,-⟩:=X1.out.cells;exact⟨p0,p3⟩)
      |(obtain⟨p0,p1,p2,p3,p4,-,-,-,-,-⟩:=X2.out.cells;exact⟨p0,p3⟩)
      |(go_keep;done))
     (first
      |(go_at_call 103;refine(PL.out _ NL.out NH.out).mono ?_;rintro r w10 ⟨v10,rfl,h10,hb10⟩;have HB10:=hid hb10;have V10:=hid h10;have X1:=hid (X.out.below hb10))
      |(go_at_call 236;(try rw[hwe.out]);(with_reducible refine(CP.out _ _ V10.out (N1.out.below HB10.out)).mono ?_);rintro r w11 ⟨rfl,hb11⟩;have X2:=hid (X1.out.below hb11)))
    have hb12:=af HB10.out le0 hb11;replace H10:=hid (H10.out.below hb12);replace NL:=hid (NL.out.below hb12);replace NH:=hid (NH.out.below hb12);replace B:=bt0 B hb12;clear h10 hb10 hb11 hb12 HB10 X1 X2 p0 p1 p2 p3 p4 PL CP V10 X Y N1 N2 N3 S2 HT;obtain⟨ao',n',c',heq,hnc',hc',hodd⟩:=x8 NL.out;obtain⟨rfl,rfl,rfl⟩:la=ao'/\ln=n'/\lc=c':=by cases heq;exact⟨rfl,rfl,rfl⟩
    unfold maxLen at hc'
    obtain⟨hl0,lb,loff,ld,rfl,hlb,hld,hcell,hpar⟩:0<ln/\∃lb loff ld,la=some ⟨lb,loff,none⟩/\lb<w11.heap.size/\ld<4294967296/\w11.cell? ⟨lb,loff,none⟩=some (.int .u32 ((ld:Nat):Int))/\ld%2=Q%2:=by
     rcases hodd with⟨-,h⟩|h
     .omega
     .exact h
    clear hodd heq;by_cases g1:hf2<0
    .have hC:iK x n=true:=by rw[HC0.out,fR g1];rfl
     clear hpar;obtain⟨e1,e2⟩:=rN x0 x1 hx hn1 (by unfold gw;rw[hfa,hfc];rfl) HI.out.1 hC;rw[<-HQ.out,<-HK.out,aj rfl]at e2;rw[<-HQ.out,aj rfl]at e1;have hTS:=HTS.out;obtain⟨US,hUS⟩:∃T:ByteArray,T=⟨(decDigits (Q+1)).toArray⟩:=⟨_,rfl⟩;have zTS:TS.size=(dx x).length:=by rw[hTS];rfl
     have zUS:US.size=(decDigits (Q+1)).length:=by rw[hUS];rfl
     have hul:(decDigits (Q+1)).length<=200:=Db hQb;have TR:=hid (fun w'=>tO (decDigits (Q+1)) US hUS (by omega) w');rw[<-e1,<-hTS]at TR;have DC:=hid (fun va w' (h:NV w' va (Q+1)) (h10:b_ w')=>uz va (Q+1) 62 w' h hQb (by omega) h10);rw[<-hUS]at DC;have htl:(dx x).length<=(decDigits (Q+1)).length:=by rw[e1];exact rC _ _
     rw[<-zUS,<-zTS]at e2;rw[<-zUS,<-zTS]at htl;rw[<-zUS]at hul;have hw1:kk+((US.size:Nat):Int)-((TS.size:Nat):Int)=gi x:=e2.symm;rw[<-HSX.out]at hw1 e2;clear e1 e2 hTS HTS HSX HI zTS HDS zDS hC HQ HK hUS zUS
     go_wp2_with (first
      |(go_at_call 83;refine(DC.out _ _ NH.out H10.out).mono ?_;rintro r w10 ⟨rfl,hb10⟩;replace B:=bt0 B hb10;clear hb10)
      |(go_at_call 131;refine(TR.out _).mono ?_;rintro r w11 ⟨rfl,rfl⟩))
     go_ret3;exact⟨rfl,B.out⟩
    .by_cases g2:hf2=0
     .have g2b:(hf2==0)=true:=by rw[dV];exact g2
      by_cases g3:Q%2=1
      .have hC:iK x n=true:=by rw[HC0.out,fR g3,g2b];simp
       have g4:((ld:Int)%2==1)=true:=by rw[dV];omega
       clear hpar g2 g3;obtain⟨e1,e2⟩:=rN x0 x1 hx hn1 (by unfold gw;rw[hfa,hfc];rfl) HI.out.1 hC;rw[<-HQ.out,<-HK.out,aj rfl]at e2;rw[<-HQ.out,aj rfl]at e1;have hTS:=HTS.out;obtain⟨US,hUS⟩:∃T:ByteArray,T=⟨(decDigits (Q+1)).toArray⟩:=⟨_,rfl⟩;have zTS:TS.size=(dx x).length:=by rw[hTS];rfl
       have zUS:US.size=(decDigits (Q+1)).length:=by rw[hUS];rfl
       have hul:(decDigits (Q+1)).length<=200:=Db hQb;have TR:=hid (fun w'=>tO (decDigits (Q+1)) US hUS (by omega) w');rw[<-e1,<-hTS]at TR;have DC:=hid (fun va w' (h:NV w' va (Q+1)) (h10:b_ w')=>uz va (Q+1) 62 w' h hQb (by omega) h10);rw[<-hUS]at DC;have htl:(dx x).length<=(decDigits (Q+1)).length:=by rw[e1];exact rC _ _
       rw[<-zUS,<-zTS]at e2;rw[<-zUS,<-zTS]at htl;rw[<-zUS]at hul;have hw1:kk+((US.size:Nat):Int)-((TS.size:Nat):Int)=gi x:=e2.symm;rw[<-HSX.out]at hw1 e2;clear e1 e2 hTS HTS HSX HI zTS HDS zDS hC HQ HK hUS zUS
       go_wp2_with (first
        |(go_at_call 83;refine(DC.out _ _ NH.out H10.out).mono ?_;rintro r w10 ⟨rfl,hb10⟩;replace B:=bt0 B hb10;clear hb10)
        |(go_at_call 131;refine(TR.out _).mono ?_;rintro r w11 ⟨rfl,rfl⟩))
       go_ret3;exact⟨rfl,B.out⟩
      .have hC:iK x n=false:=by rw[HC0.out,e_ g3,e_ g1];simp
       have g4:((ld:Int)%2==1)=false:=by rw[aH];omega
       clear hpar g2 g3;obtain⟨e1,e2⟩:=rN x0 x1 hx hn1 (by unfold gw;rw[hfa,hfc];rfl) HI.out.1 hC;rw[<-HQ.out,<-HK.out,ag (by decide)]at e2;rw[<-HQ.out,ag (by decide)]at e1;have hTS:=HTS.out;have zTS:TS.size=(dx x).length:=by rw[hTS];rfl
       have TR:=hid (fun w'=>tO (decDigits Q) DS HDS.out (by omega) w');rw[<-e1,<-hTS]at TR;have htl:(dx x).length<=(decDigits Q).length:=by rw[e1];exact rC _ _
       rw[<-zDS,<-zTS]at e2;rw[<-zDS,<-zTS]at htl;rw[<-zDS]at hdl;have hw1:kk+((DS.size:Nat):Int)-((TS.size:Nat):Int)=gi x:=e2.symm;rw[<-HSX.out]at hw1 e2;clear e1 e2 hTS HTS HSX HI zTS HDS zDS hC HQ HK
       go_wp2_with (first
        |(go_at_call 131;refine(TR.out _).mono ?_;rintro r w10 ⟨rfl,rfl⟩))
       go_ret3;exact⟨rfl,B.out⟩
     .have g2b:(hf2==0)=false:=by rw[aH];exact g2
      have hC:iK x n=false:=by rw[HC0.out,e_ g1,g2b];rfl
      clear hpar g2;obtain⟨e1,e2⟩:=rN x0 x1 hx hn1 (by unfold gw;rw[hfa,hfc];rfl) HI.out.1 hC;rw[<-HQ.out,<-HK.out,ag (by decide)]at e2;rw[<-HQ.out,ag (by decide)]at e1;have hTS:=HTS.out;have zTS:TS.size=(dx x).length:=by rw[hTS];rfl
      have TR:=hid (fun w'=>tO (decDigits Q) DS HDS.out (by omega) w');rw[<-e1,<-hTS]at TR;have htl:(dx x).length<=(decDigits Q).length:=by rw[e1];exact rC _ _
      rw[<-zDS,<-zTS]at e2;rw[<-zDS,<-zTS]at htl;rw[<-zDS]at hdl;have hw1:kk+((DS.size:Nat):Int)-((TS.size:Nat):Int)=gi x:=e2.symm;rw[<-HSX.out]at hw1 e2;clear e1 e2 hTS HTS HSX HI zTS HDS zDS hC HQ HK
      go_wp2_with (first
       |(go_at_call 131;refine(TR.out _).mono ?_;rintro r w10 ⟨rfl,rfl⟩))
      go_ret3;exact⟨rfl,B.out⟩
open Nt Fm Fl
def oD (d:List UInt8) (k:Int):List UInt8:=
 if k+(d.length:Int)-1< -5\/20<k+(d.length:Int)-1 then d.take 1++((if 1<d.length then 46::d.drop 1 else [])++101::fh (k+(d.length:Int)-1))
 else if 0<=k then d++List.replicate k.toNat 48
 else if 0<=k+(d.length:Int)-1 then d.take (k+(d.length:Int)).toNat++46::d.drop (k+(d.length:Int)).toNat
 else 48::46::(List.replicate (-(k+(d.length:Int))).toNat 48++d)
noncomputable def jo (x:Int):List UInt8:=
 if ak x=5 then [110,97,110] else gW x++(if ak x=4 then [105,110,102] else if ak x=1 then [48] else oD (dx x) (gi x))
theorem Vh (l:List UInt8) (h:∀c∈l,cF c):gK l=l.length:=by
 unfold gK;rw[(Jf (p:=(bK.contains ·)) l (fun c hc=>vg (h c hc))).1]
theorem Zh (p:Int) (h:p.natAbs<1000):yi (101::fh p) p:=by
 have hd:∀c∈(if p.natAbs<10 then [48] else [])++decDigits p.natAbs,cF c:=by
  intro c hc;rcases gF.1 hc with h1|h1
  .split at h1
   .obtain rfl:=Ab.1 h1;exact⟨by decide,by decide⟩
   .simp at h1
  .exact oW _ c h1
 have hl:1<=((if p.natAbs<10 then [48] else [])++decDigits p.natAbs).length/\((if p.natAbs<10 then [48] else [])++decDigits p.natAbs).length<=4:=by
  have h1:=uT p.natAbs;have h2:=qR (show p.natAbs<=999 by omega);have h3:(decDigits 999).length=3:=by decide+kernel
  rw[ck];split <;> simp <;> omega
 have hN:aM 0 ((if p.natAbs<10 then [48] else [])++decDigits p.natAbs)=p.natAbs:=by
  rw[tZ];have :aM 0 (if p.natAbs<10 then [48] else [])=0:=by split <;> rfl
  rw[this,uV]
 obtain⟨c,hc⟩:∃c:UInt8,c=if p<0 then 45 else 43:=⟨_,rfl⟩
 have e1:fh p=c::((if p.natAbs<10 then [48] else [])++decDigits p.natAbs):=by unfold fh;rw[hc]
 generalize (if p.natAbs<10 then [48] else [])++decDigits p.natAbs=l at *
 have hcc:c=45/\p<0\/c=43/\0<=p:=by
  rw[hc];by_cases h:p<0
  .left;simp [h]
  .right;simp [h];omega
 have hpre:Lib.hasPrefix (c::l) [45]=decide (c=45)/\Lib.hasPrefix (c::l) [43]=decide (c=43):=by
  rcases hcc with⟨rfl,-⟩|⟨rfl,-⟩ <;> exact⟨rfl,rfl⟩
 have hT:dt (c::l)=l:=by
  unfold dt;rw[hpre.1,hpre.2];rcases hcc with⟨rfl,-⟩|⟨rfl,-⟩ <;> rfl
 have hG:iD (c::l)=true:=by
  unfold iD;rw[hT,Vh l hd,e_ (show ¬l.length=0 by omega),e_ (show ¬6<l.length by omega),fR rfl];rfl
 have hOK:jI (101::fh p)=true:=by
  rw[e1]
  show((101==101 || 101==69) && iD (c::l))=true
  rw[hG];rfl
 refine⟨Or.inr ⟨101,fh p,rfl,by decide,by decide⟩,hOK,?_⟩
 show(if jI (101::fh p)=true then mO (fh p) else 0)=p
 rw[aj hOK,e1];unfold mO;rw[hpre.1,hT,hN];rcases hcc with⟨rfl,h⟩|⟨rfl,h⟩
 .rw[aj (by decide)];omega
 .rw[ag (by decide)];omega
theorem ag2 (d:List UInt8) (k:Int) (hd:∀c∈d,cF c) (h0:d≠[]) (hl:d.length<=30) (k0: -500<=k) (k1:k<=500):
  ∃W P E p q,(∀sg:List UInt8,sg++oD d k=sg++(W++((if p=true then 46::P else [])++E)))/\W≠[]/\(∀c∈W,cF c)/\(∀c∈P,cF c)/\(p=false->P=[])/\yi E q/\
   (∃j:Nat,aM 0 (W++P)=aM 0 d*10^j/\q-(P.length:Int)=k-j)/\(oD d k).length<=900:=by
 have hd1:1<=d.length:=by cases d with|nil=>exact absurd rfl h0|cons c l=>simp
 have z48:∀n,∀c∈List.replicate n (48:UInt8),cF c:=fun n c hc=>by rw[uf hc];exact⟨by decide,by decide⟩
 have znum:∀(n a:Nat),aM a (List.replicate n (48:UInt8))=a*10^n:=fun n=>by
  induction n with
  |zero=>intro a;show a=a*10^0;rw[jT,fI]
  |succ n ih=>
   intro a;rw[se]
   show aM (a*10+((48:UInt8).toNat-48)) (List.replicate n 48)=_
   rw[ih,show(48:UInt8).toNat-48=0 from rfl,kW,bH,aF,aW 10]
 unfold oD;by_cases c1:k+(d.length:Int)-1< -5\/20<k+(d.length:Int)-1
 .rw[aj c1]
  refine⟨d.take 1,d.drop 1,101::fh (k+(d.length:Int)-1),decide (1<d.length),k+(d.length:Int)-1,fun sg=>by simp only[da],?_,fun c hc=>hd c (kU hc),fun c hc=>hd c (zF hc),?_,Zh _ (by omega),⟨0,?_,?_⟩,?_⟩
  .intro h
   have h2:(d.take 1).length=0:=by rw[h];rfl
   rw[dj]at h2;omega
  .intro h
   rw[jx]at h;exact ai5 (by omega)
  .rw[nX,jT,fI]
  .rw[mS];omega
  .have h1:(fh (k+(d.length:Int)-1)).length<=10:=by
    unfold fh;have h2:=qR (show(k+(d.length:Int)-1).natAbs<=9999 by omega);have h3:(decDigits 9999).length=4:=by decide+kernel
    rw[ez,ck];split <;> simp <;> omega
   simp only[ck,dj,ez];split <;> simp <;> omega
 .rw[ag c1]
  by_cases c2:0<=k
  .rw[aj c2]
   refine⟨d++List.replicate k.toNat 48,[],[],false,0,fun sg=>by simp,?_,?_,fun c hc=>by simp at hc,fun _=>rfl,tail_nil,⟨k.toNat,?_,by simp;omega⟩,by simp;omega⟩
   .intro h;exact h0 (List.append_eq_nil_iff.1 h).1
   .intro c hc
    rcases gF.1 hc with h|h
    .exact hd c h
    .exact z48 _ c h
   .rw[n9,tZ,znum]
  .rw[ag c2]
   by_cases c3:0<=k+(d.length:Int)-1
   .rw[aj c3]
    refine⟨d.take (k+(d.length:Int)).toNat,d.drop (k+(d.length:Int)).toNat,[],true,0,fun sg=>by simp,?_,fun c hc=>hd c (kU hc),fun c hc=>hd c (zF hc),(fun h=>absurd h (by decide)),tail_nil,⟨0,?_,?_⟩,?_⟩
    .intro h
     have h2:(d.take (k+(d.length:Int)).toNat).length=0:=by rw[h];rfl
     rw[dj]at h2;omega
    .rw[nX,jT,fI]
    .rw[mS];omega
    .simp only[ck,dj,ez,mS];omega
   .rw[ag c3]
    refine⟨[48],List.replicate (-(k+(d.length:Int))).toNat 48++d,[],true,0,fun sg=>by simp,by simp,?_,?_,(fun h=>absurd h (by decide)),tail_nil,⟨0,?_,?_⟩,?_⟩
    .intro c hc;obtain rfl:=Ab.1 hc;exact⟨by decide,by decide⟩
    .intro c hc
     rcases gF.1 hc with h|h
     .exact z48 _ c h
     .exact hd c h
    .rw[<-px,tZ,tZ,show aM 0 [48]=0 from rfl,znum,iq,jT,fI]
    .rw[ck,E8];omega
    .simp only[ez,ck,E8];omega
theorem Rx (l:List UInt8) (c:UInt8):l=trimRightB l c++List.replicate (l.length-(trimRightB l c).length) c:=by
 have h:=wy (p:=(· ==c)) (l:=l.reverse)
 have e:l=(l.reverse.dropWhile (· ==c)).reverse++(l.reverse.takeWhile (· ==c)).reverse:=by
  rw[<-List.reverse_append,h,List.reverse_reverse]
 have e2:(l.reverse.takeWhile (· ==c)).reverse=List.replicate (l.length-(trimRightB l c).length) c:=by
  rw[List.eq_replicate_iff];constructor
  .have :=congrArg List.length e
   rw[ck]at this;unfold trimRightB;omega
  .intro b hb
   rw[Ad]at hb;have :=og hb
   simpa using this
 conv=>lhs;rw[e,e2]
 rfl
theorem ZF (n a:Nat):aM a (List.replicate n (48:UInt8))=a*10^n:=by
 induction n generalizing a with
 |zero=>show a=a*10^0;rw[jT,fI]
 |succ n ih=>
  rw[se]
  show aM (a*10+((48:UInt8).toNat-48)) (List.replicate n 48)=_
  rw[ih,show(48:UInt8).toNat-48=0 from rfl,kW,bH,aF,aW 10]
theorem GU (m N K:Nat) (k:Int) (j:Nat) (h:K=N*10^j):rat m (dM K (k-j)) (fE (k-j))=rat m (dM N k) (fE k)/\jg (dM K (k-j)) (fE (k-j))=jg (dM N k) (fE k):=by
 have e:dM K (k-j)*fE k=dM N k*fE (k-j):=by
  unfold dM fE;rw[h]
  have :10^j*10^(k-(j:Int)).toNat*10^(-k).toNat=10^k.toNat*10^(-(k-(j:Int))).toNat:=by
   rw[<-aB,<-aB,<-aB];congr 1;omega
  calc N*10^j*10^(k-(j:Int)).toNat*10^(-k).toNat=N*(10^j*10^(k-(j:Int)).toNat*10^(-k).toNat):=by ac_rfl
   _=_:=by rw[this];ac_rfl
 exact⟨VO m (tF _) (tF _) e,XA (tF _) (tF _) e⟩
theorem L9 {x:Int}(x0:0<=x) (x1:x<=18446744073709551615) (hx:1<=ay x):nU (kC x) (dB x) (4*aP x+2) (bW x (fu x)) (bw x) (Df x)=true/\1<=kC x/\kC x<=10^17:=by
 obtain⟨a1,a2,a3,a4⟩:=Cz x0 x1 hx;obtain⟨t1,t2⟩:=yp x0 x1 hx (fu x) a2;have hst:gw x (fu x)=(ma x (fu x) || lQ x (fu x)):=rfl;rw[a1]at hst;have hp:10^(fu x)<=10^17:=aG (by omega) a3;have hp1:=fN (n:=fu x-1) (show 0<10 by omega);refine⟨?_,by unfold kC;split <;> omega,by unfold kC;split <;> omega⟩;unfold kC;cases hC:iK x (fu x)
 .rw[ag (by decide)]
  show ma x (fu x)=true
  cases hfa:ma x (fu x)
  .exfalso
   unfold iK at hC;rw[hfa,ag (by simp)]at hC;rw[hfa,hC]at hst;exact absurd hst (by decide)
  .rfl
 .rw[aj rfl]
  show lQ x (fu x)=true
  unfold iK at hC;split at hC
  .rename_i h;exact h.2
  .exact hC
theorem xP {x:Int}(x0:0<=x) (x1:x<=18446744073709551615) (hx:1<=ay x):
  (∀c∈dx x,cF c)/\dx x≠[]/\(dx x).length<=18/\ -460<=gi x/\gi x<=460/\(∃j:Nat,kC x=aM 0 (dx x)*10^j/\bW x (fu x)=gi x-j):=by
 obtain⟨f1,f2,f3⟩:=L9 x0 x1 hx;obtain⟨a1,a2,a3,a4⟩:=Cz x0 x1 hx;have hlg:=yC (wU x0 x1 hx).1;have hs:=Rx (iC x) 48;have hlen:(dx x).length<=(iC x).length:=rC _ _
 have hsl:(iC x).length<=18:=by
  have h1:=qR f3;have h2:(decDigits (10^17)).length=18:=by decide+kernel
  unfold iC;omega
 have hsub:∀c∈dx x,c∈iC x:=fun c hc=>by rw[hs];exact Ol _ hc
 have hK:bW x (fu x)=dK (cK x)+1-(fu x:Int):=rfl;have hX:gi x=bW x (fu x)+((iC x).length:Int)-((dx x).length:Int):=rfl;refine⟨fun c hc=>oW _ c (hsub c hc),?_,by omega,by omega,by omega,(iC x).length-(dx x).length,?_,by omega⟩
 .intro h
  have h1:iC x=List.replicate ((iC x).length-(trimRightB (iC x) 48).length) 48:=by
   conv=>lhs;rw[hs]
   rw[show trimRightB (iC x) 48=[] from h];rfl
  obtain⟨c,l,e1,e2⟩:=Dl (kC x) (by omega);have h2:c∈iC x:=by unfold iC;rw[e1];exact mT ..
  rw[h1]at h2;exact e2 (uf h2)
 .have h1:aM 0 (iC x)=kC x:=uV _
  rw[<-h1]
  conv=>lhs;rw[hs]
  rw[tZ,ZF];rfl
theorem ZZ {x:Int}(x0:0<=x) (x1:x<=18446744073709551615) (hv:dG x=true) (hx:1<=ay x):rat 2 (dM (aM 0 (dx x)) (gi x)) (fE (gi x))=(ay x).toNat:=by
 obtain⟨f1,-,-⟩:=L9 x0 x1 hx;obtain⟨-,-,-,-,-,j,hj,hk⟩:=xP x0 x1 hx;have h:=(ON x0 x1 hv hx (kC x) (bW x (fu x))).1 f1;rw[hk]at h;rw[<-(GU 2 (aM 0 (dx x)) (kC x) (gi x) j hj).1];exact h
theorem ab2 {x:Int}(x0:0<=x) (x1:x<=18446744073709551615) (hn:ak x≠5):kj (jo x) 0=0/\fX (jo x) 0=x/\(jo x).length<=1000:=by
 have hk:aD 0=true:=by decide
 have hab:=gV x;have hfx:=Uz x0 x1;unfold jo;rw[ag hn];by_cases h4:ak x=4
 .rw[aj h4]
  have ha:ay x=9218868437227405312:=by
   unfold ak at h4;repeat' split at h4
   all_goals omega
  unfold gW;by_cases hs:9223372036854775808<=x
  .rw[aj hs]
   have e:([45]++[105,110,102]:List UInt8)=oY:=rfl;rw[e];refine⟨by unfold kj;rw[aj hk,aj (Or.inr (Or.inl rfl))],?_,by decide⟩;unfold fX;rw[aj hk,ag (by decide),aj rfl];unfold ay at ha;omega
  .rw[ag hs]
   have e:([]++[105,110,102]:List UInt8)=pa:=rfl;rw[e];refine⟨by unfold kj;rw[aj hk,aj (Or.inl rfl)],?_,by decide⟩;unfold fX;rw[aj hk,aj rfl];unfold ay at ha;omega
 .rw[ag h4]
  by_cases h1:ak x=1
  .rw[aj h1]
   have ha:ay x=0:=by
    unfold ak at h1;repeat' split at h1
    all_goals omega
   have e:gW x++[48]=fs (decide (9223372036854775808<=x)) [48] [] [] false:=by
    unfold fs;rw[yV];rfl
   rw[e];have hlen:(fs (decide (9223372036854775808<=x)) [48] [] [] false).length<=1000:=by unfold fs;split <;> simp
   obtain⟨g1,g2,-⟩:=Km (decide (9223372036854775808<=x)) [48] [] [] false (by simp) (fun c hc=>by obtain rfl:=Ab.1 hc;exact⟨by decide,by decide⟩) (fun c hc=>by simp at hc) (fun _=>rfl) tail_nil hlen 0 hk;refine⟨g1,?_,hlen⟩;rw[g2];have hz:dM (aM 0 ([48]++[])) (0-((([]:List UInt8).length:Nat):Int))=0:=rfl;rw[hz,(vC _ _).1];rw[ha]at hfx;exact hfx
  .rw[ag h1]
   have hv:dG x=true:=by
    unfold dG;rw[da];unfold ak at h1 h4 hn;repeat' split at h1
    all_goals omega
   have hx:1<=ay x:=by
    unfold ak at h1;split at h1
    .exact absurd rfl h1
    .omega
   obtain⟨t1,t2,t3,t4,t5,-⟩:=xP x0 x1 hx;obtain⟨W,P,E,p,q,b1,b2,b3,b4,b5,b6,⟨j,b7,b8⟩,b9⟩:=ag2 (dx x) (gi x) t1 t2 (by omega) (by omega) (by omega)
   have e:gW x++oD (dx x) (gi x)=fs (decide (9223372036854775808<=x)) W P E p:=by
    rw[yV,b1];rfl
   have hlen:(fs (decide (9223372036854775808<=x)) W P E p).length<=1000:=by
    rw[<-e,ck,yV];split <;> simp <;> omega
   rw[e];obtain⟨g1,g2,-⟩:=Km (decide (9223372036854775808<=x)) W P E p b2 b3 b4 b5 b6 hlen 0 hk;refine⟨g1,?_,hlen⟩;have hkd:∀b:Bool,kd b 0=2:=fun b=>by cases b <;> rfl
   rw[g2,hkd,b8,(GU 2 (aM 0 (dx x)) (aM 0 (W++P)) (gi x) j b7).1,ZZ x0 x1 hv hx];exact hfx
open Go.RowKit Nt Fm Fl
def nJ (b:Bool):List UInt8:=if b=true then [45] else []
theorem YK (x:Int) (sg:Bool) (hsg:(x/9223372036854775808==1)=sg) (w:World) (CL:Hid (∀w':World,Calls prog 8 #[.int .u64 x] w' fun e w2=>e=.returned (.int .i64 5)/\w'=w2)):
  Calls prog 163 #[.int .u64 x] w fun e w'=>e=.returned (.string ⟨#[110,97,110]⟩)/\Below w.heap.size w w':=by
 go_enter func163,ntmps163;go_wp2_with (go_at_call 8;refine(CL.out _).mono ?_;rintro e w1 ⟨rfl,rfl⟩)
 all_goals first
  |(go_ret;exact⟨rfl,Below.refl _ _⟩;done)
  |(exfalso;simp_all;done)
  |trace_state
theorem PJ (x:Int) (sg:Bool) (hsg:(x/9223372036854775808==1)=sg) (w:World) (CL:Hid (∀w':World,Calls prog 8 #[.int .u64 x] w' fun e w2=>e=.returned (.int .i64 4)/\w'=w2)):
  Calls prog 163 #[.int .u64 x] w fun e w'=>e=.returned (.string ⟨(nJ sg++[105,110,102]).toArray⟩)/\Below w.heap.size w w':=by
 cases sg
 all_goals
  go_enter func163,ntmps163;go_wp2_with (go_at_call 8;refine(CL.out _).mono ?_;rintro e w1 ⟨rfl,rfl⟩)
  all_goals first
   |(go_ret;exact⟨rfl,Below.refl _ _⟩;done)
   |(exfalso;simp_all;done)
   |trace_state
theorem ae3 (x:Int) (sg:Bool) (hsg:(x/9223372036854775808==1)=sg) (w:World) (CL:Hid (∀w':World,Calls prog 8 #[.int .u64 x] w' fun e w2=>e=.returned (.int .i64 1)/\w'=w2)):
  Calls prog 163 #[.int .u64 x] w fun e w'=>e=.returned (.string ⟨(nJ sg++[48]).toArray⟩)/\Below w.heap.size w w':=by
 cases sg
 all_goals
  go_enter func163,ntmps163;go_wp2_with (go_at_call 8;refine(CL.out _).mono ?_;rintro e w1 ⟨rfl,rfl⟩)
  all_goals first
   |(go_ret;exact⟨rfl,Below.refl _ _⟩;done)
   |(exfalso;simp_all;done)
   |trace_state
theorem YX {d l:List UInt8}{D P:ByteArray}{n:Nat}(hD:D=⟨d.toArray⟩) (hP:P=⟨l.toArray⟩) (hn:n=d.length) (s:List UInt8):(⟨s.toArray⟩:ByteArray)++D.extract 0 1++(⟨#[46]⟩++D.extract 1 n)++⟨#[101]⟩++P=⟨(s++(d.take 1++((46::d.drop 1)++101::l))).toArray⟩:=by
 subst hD hP hn;apply eK;simp [ir];exact dI (by simp)
theorem RQ {d l:List UInt8}{D P:ByteArray}{n:Nat}(hD:D=⟨d.toArray⟩) (hP:P=⟨l.toArray⟩) (hn:n=d.length) (s:List UInt8):(⟨s.toArray⟩:ByteArray)++D.extract 0 1++⟨#[101]⟩++P=⟨(s++(d.take 1++([]++101::l))).toArray⟩:=by
 subst hD hP hn;apply eK;simp [ir]
theorem Vn (x c k er:Int) (b1:(c==1)=false) (b4:(c==4)=false) (b5:(c==5)=false) (b5':(c !=5)=true) (sg:Bool) (hsg:(x/9223372036854775808==1)=sg) (w:World) (CL:Hid (∀w':World,Calls prog 8 #[.int .u64 x] w' fun e w2=>e=.returned (.int .i64 c)/\w'=w2))
  (D:ByteArray) (n:Nat) (zD:D.size=n) (hd0:1<=n) (hdl:n<=30) (HT:Hid (aQ w)) (H10:Hid (b_ w))
  (DG:Hid (∀w':World,aQ w'->b_ w'->Calls prog 214 #[.int .u64 x] w' fun e w2=>e=.returned (.tuple #[.string D,.int .i64 k,.int .i64 er])/\Below w'.heap.size w' w2))
  (k0: -500<=k) (k1:k<=500) (p:Int) (hp:k+(n:Int)-1=p) (G T R:ByteArray) (hG:G=⟨(nJ sg).toArray⟩) (zT:T.size<=100)
  (hR:((p< -5\/¬p< -5/\20<p)/\(∀w':World,b_ w'->Calls prog 85 #[.int .i64 p] w' fun e w2=>e=.returned (.string T)/\Below w'.heap.size w' w2)/\((1:Int)<(n:Int)/\R=G++D.extract 0 1++(⟨#[46]⟩++D.extract 1 n)++⟨#[101]⟩++T\/¬(1:Int)<(n:Int)/\R=G++D.extract 0 1++⟨#[101]⟩++T))\/
   (¬p< -5/\¬20<p/\(∃z:Int,(∀X (w':World),X=z->Calls prog 26 #[.string ⟨#[48]⟩,.int .i64 X] w' fun e w2=>e=.returned (.string T)/\Below w'.heap.size w' w2)/\((0<=k/\z=k/\R=G++D++T)\/(¬0<=k/\¬0<=p/\z= -p-1/\R=G++⟨#[48,46]⟩++T++D))))\/
   (¬p< -5/\¬20<p/\¬0<=k/\0<=p/\∃q:Nat,p+1=(q:Int)/\q<=n/\R=G++D.extract 0 q++⟨#[46]⟩++D.extract q n)):
  Calls prog 163 #[.int .u64 x] w fun e w'=>e=.returned (.string R)/\Below w.heap.size w w':=by
 have B:Hid (Below w.heap.size w w):=hid br0;subst hG;rcases hR with⟨h|⟨h0,h⟩,hP,⟨h1n,rfl⟩|⟨h1n,rfl⟩⟩|⟨h0,h,z,hP,⟨hk,rfl,rfl⟩|⟨hk,hpp,rfl,rfl⟩⟩|⟨h0,h,hk,hpp,q,hq,hqn,rfl⟩ <;> cases sg
 all_goals
  try have PW:=hid hP
  try clear hP
  go_enter func163,ntmps163
  go_wp2_with (first
   |(go_at_call 8;refine(CL.out _).mono ?_;rintro e w1 ⟨rfl,rfl⟩)
   |(go_at_call 214;refine(DG.out _ HT.out H10.out).mono ?_;rintro e w2 ⟨rfl,hb⟩;replace H10:=hid (H10.out.below hb);replace B:=bt0 B hb;clear hb)
   |(first|(go_at_call 85;refine(PW.out _ H10.out).mono ?_)|(go_at_call 26;refine(PW.out _ _ (by omega)).mono ?_)
     rintro e w3 ⟨rfl,hb⟩;replace B:=bt0 B hb;clear hb))
  all_goals first
   |(go_ret;exact⟨rfl,B.out⟩;done)
   |(go_quiet (fail)
     replace B:=hid (dh (n:=nq) B.out);go_wp2
     all_goals first
      |(go_ret;exact⟨rfl,B.out⟩;done)
      |(exfalso;simp_all;done))
   |(exfalso;simp_all;done)
theorem vI {a b:ByteArray}(h:a=b) (x:Int) (w:World) (H:Calls prog 163 #[.int .u64 x] w fun e w'=>e=.returned (.string a)/\Below w.heap.size w w'):
  Calls prog 163 #[.int .u64 x] w fun e w'=>e=.returned (.string b)/\Below w.heap.size w w':=by rw[<-h];exact H
theorem Tq {d l:List UInt8}{D P:ByteArray}(hD:D=⟨d.toArray⟩) (hP:P=⟨l.toArray⟩) (s:List UInt8):(⟨s.toArray⟩:ByteArray)++D++P=⟨(s++(d++l)).toArray⟩:=by
 subst hD hP;apply eK;simp
theorem Rz {d:List UInt8}{D:ByteArray}{n q:Nat}(hD:D=⟨d.toArray⟩) (hn:n=d.length) (s:List UInt8):(⟨s.toArray⟩:ByteArray)++D.extract 0 q++⟨#[46]⟩++D.extract q n=⟨(s++(d.take q++46::d.drop q)).toArray⟩:=by
 subst hD hn;apply eK;simp [ir];exact dI (by simp)
theorem Rl {d l:List UInt8}{D P:ByteArray}(hD:D=⟨d.toArray⟩) (hP:P=⟨l.toArray⟩) (s:List UInt8):(⟨s.toArray⟩:ByteArray)++⟨#[48,46]⟩++P++D=⟨(s++(48::46::(l++d))).toArray⟩:=by
 subst hD hP;apply eK;simp
theorem Wa (x c:Int) (hc1:c≠1) (hc4:c≠4) (hc5:c≠5) (sg:Bool) (hsg:(x/9223372036854775808==1)=sg) (w:World) (CL:Hid (∀w':World,Calls prog 8 #[.int .u64 x] w' fun e w2=>e=.returned (.int .i64 c)/\w'=w2))
  (d:List UInt8) (k er:Int) (D:ByteArray) (hD:D=⟨d.toArray⟩) (hd0:1<=d.length) (hdl:d.length<=30) (k0: -500<=k) (k1:k<=500) (HT:Hid (aQ w)) (H10:Hid (b_ w))
  (DG:Hid (∀w':World,aQ w'->b_ w'->Calls prog 214 #[.int .u64 x] w' fun e w2=>e=.returned (.tuple #[.string D,.int .i64 k,.int .i64 er])/\Below w'.heap.size w' w2)):
  Calls prog 163 #[.int .u64 x] w fun e w'=>e=.returned (.string ⟨(nJ sg++oD d k).toArray⟩)/\Below w.heap.size w w':=by
 have b1:(c==1)=false:=by rw[aH];exact hc1
 have b4:(c==4)=false:=by rw[aH];exact hc4
 have b5:(c==5)=false:=by rw[aH];exact hc5
 have b5':(c !=5)=true:=by rw[lZ];exact hc5
 obtain⟨n,hn⟩:∃n,n=d.length:=⟨_,rfl⟩;have zD:D.size=n:=by rw[hD,hn];rfl
 obtain⟨p,hp⟩:∃p,k+(n:Int)-1=p:=⟨_,rfl⟩;rw[<-hn]at hd0 hdl;unfold oD;rw[<-hn,hp];have W:=fun T R zT hR=>Vn x c k er b1 b4 b5 b5' sg hsg w CL D n zD hd0 hdl HT H10 DG k0 k1 p hp _ T R rfl zT hR
 by_cases c1:p< -5\/20<p
 .rw[aj c1]
  have PW:=fun w' (h:b_ w')=>Gt p w' (by omega) (by omega) h
  have zP:(⟨(fh p).toArray⟩:ByteArray).size<=100:=by
   show(fh p).toArray.size<=100
   have h2:=qR (show p.natAbs<=9999 by omega);have h3:(decDigits 9999).length=4:=by decide+kernel
   unfold fh;rw[Ov,ez,ck];split <;> simp <;> omega
  have hc:p< -5\/¬p< -5/\20<p:=by omega
  by_cases h1n:1<n
  .rw[aj h1n]
   exact vI (YX hD rfl hn (nJ sg)) x w (W _ _ zP (Or.inl ⟨hc,PW,Or.inl ⟨by omega,rfl⟩⟩))
  .rw[ag h1n]
   exact vI (RQ hD rfl hn (nJ sg)) x w (W _ _ zP (Or.inl ⟨hc,PW,Or.inr ⟨by omega,rfl⟩⟩))
 .rw[ag c1]
  have zR:∀z:Nat,z<=100->(⟨(List.replicate z (48:UInt8)).toArray⟩:ByteArray).size<=100:=by
   intro z hz;show(List.replicate z (48:UInt8)).toArray.size<=100;simp;omega
  by_cases hk:0<=k
  .rw[aj hk]
   exact vI (Tq hD rfl (nJ sg)) x w (W _ _ (zR _ (by omega)) (Or.inr (Or.inl ⟨by omega,by omega,k,fun X w' h=>tj k.toNat X (by omega) (by omega) w',Or.inl ⟨hk,rfl,rfl⟩⟩)))
  .rw[ag hk]
   by_cases hpp:0<=p
   .rw[aj hpp]
    exact vI (Rz hD hn (nJ sg)) x w (W ⟨#[]⟩ _ (by decide) (Or.inr (Or.inr ⟨by omega,by omega,hk,hpp,(k+(n:Int)).toNat,by omega,by omega,rfl⟩)))
   .rw[ag hpp]
    exact vI (Rl hD rfl (nJ sg)) x w (W _ _ (zR _ (by omega)) (Or.inr (Or.inl ⟨by omega,by omega,-p-1,fun X w' h=>tj (-(k+(n:Int))).toNat X (by omega) (by omega) w',Or.inr ⟨hk,hpp,rfl,rfl⟩⟩)))
theorem MX (x:Int) (x0:0<=x) (x1:x<=18446744073709551615) (w:World) (hT:aQ w) (hT10:b_ w):
  Calls prog 163 #[.int .u64 x] w fun e w'=>e=.returned (.string ⟨(jo x).toArray⟩)/\Below w.heap.size w w':=by
 have CL:=hid (fun w'=>fB x x0 x1 w')
 have hsg:(x/9223372036854775808==1)=decide (9223372036854775808<=x):=by
  rw[uj,dV,da];omega
 have hsS:gW x=nJ (decide (9223372036854775808<=x)):=yV x;unfold jo;by_cases h5:ak x=5
 .rw[aj h5]
  rw[h5]at CL;exact YK x _ hsg w CL
 .rw[ag h5,hsS]
  by_cases h4:ak x=4
  .rw[aj h4]
   rw[h4]at CL;exact PJ x _ hsg w CL
  .rw[ag h4]
   by_cases h1:ak x=1
   .rw[aj h1]
    rw[h1]at CL;exact ae3 x _ hsg w CL
   .rw[ag h1]
    have hab:=gV x
    have hv:dG x=true:=by
     unfold dG;rw[da];unfold ak at h1 h4 h5;repeat' split at h1
     all_goals omega
    have hx:1<=ay x:=by
     unfold ak at h1;split at h1
     .exact absurd rfl h1
     .omega
    obtain⟨t1,t2,t3,t4,t5,-⟩:=xP x0 x1 hx
    have hl1:1<=(dx x).length:=by
     cases h:dx x with
     |nil=>exact absurd h t2
     |cons a b=>simp
    have DG:=hid (fun w' h1 h2=>Wu x x0 x1 hv hx w' h1 h2);unfold AA at DG;exact Wa x (ak x) h1 h4 h5 _ hsg w CL (dx x) (gi x) 0 _ rfl hl1 (by omega) (by omega) (by omega) (hid hT) (hid hT10) DG
