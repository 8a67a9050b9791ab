import Derived.Test.YtofdjfdnckmmmaaGreatDoorAl
import Derived.Test.YtofdjfdnckmmmaaGreatDoorPsc
set_option linter.all false
set_option maxHeartbeats 16000000
set_option maxRecDepth 100000
open Go.Proofs.Tryz
open Go.Lib (hid)
namespace Go.Proofs.YtofdjfdnckmmmaaGreatDoor
open Go.RowKit Nt Fm Fl
theorem KL (neg:Bool) (w:World):Calls prog 195 #[.bool neg] w fun e w'=>e=.returned (.int .u64 (if neg then 9223372036854775808 else 0))/\w=w':=by
 cases neg
 all_goals
  go_enter func195,ntmps195;go_wp2;go_ret;exact⟨rfl,rfl⟩
def LU (w:World) (v:Value) (l:List Int):Prop:=
 (∀d∈l,0<=d/\d<=18446744073709551615)/\∃(ao:Option Addr) (cap:Nat),v=.slice ao l.length cap/\l.length<=cap/\cap<=maxLen/\
  (l.length<=0\/∃b off,ao=some ⟨b,off,none⟩/\b<w.heap.size/\∀i,i<l.length->w.cell? ⟨b,off+i,none⟩=some (.int .u64 (l.getD i 0)))
theorem LU.below {w w':World}{v:Value}{l:List Int}(h:LU w v l) (hb:Below w.heap.size w w'):LU w' v l:=by
 obtain⟨h1,ao,cap,h2,h3,h4,h5⟩:=h;refine⟨h1,ao,cap,h2,h3,h4,?_⟩;rcases h5 with h5|⟨b,off,h5,h6,h7⟩
 .exact Or.inl h5
 .exact Or.inr ⟨b,off,h5,aX h6 hb.size,fun i hi=>(hb.cell (p:=⟨b,off+i,none⟩) h6).trans (h7 i hi)⟩
def Acc (w:World) (b:Nat) (d:D) (wr:World):Prop:= ∃a n c,ax wr b 68 (.bool d.neg) (.slice a n c) (.int .i64 d.e)/\NV wr (.slice a n c) d.m/\Below w.heap.size w wr
theorem Yr (x:Int):ak x=1\/ak x=2\/ak x=3\/ak x=4\/ak x=5:=by
 unfold ak;split <;> (try split) <;> (try split) <;> (try split) <;> omega
theorem Sk {st:St}{x:Int}(h:ak x=5):jc st x=⟨st.inf,st.clash,true,st.ng,st.ps,st.s⟩:=by unfold jc;rw[aj h]
theorem XX {st:St}{x:Int}(h:ak x=4):jc st x=⟨x,st.clash || (decide (st.inf≠0) && decide (st.inf≠x)),st.nan,st.ng,st.ps,st.s⟩:=by unfold jc;rw[ag (by omega),aj h]
theorem ZH {st:St}{x:Int}(h:ak x=1) (hx:x=0):jc st x=⟨st.inf,st.clash,st.nan,st.ng,st.ps+1,st.s⟩:=by unfold jc;rw[ag (by omega),ag (by omega),aj h,aj hx]
theorem XJ {st:St}{x:Int}(h:ak x=1) (hx:x≠0):jc st x=⟨st.inf,st.clash,st.nan,st.ng+1,st.ps,st.s⟩:=by unfold jc;rw[ag (by omega),ag (by omega),aj h,ag hx]
theorem Kl {st:St}{x:Int}(h:ak x=2\/ak x=3):jc st x=⟨st.inf,st.clash,st.nan,st.ng,st.ps,plus st.s (ai x)⟩:=by unfold jc;rw[ag (by omega),ag (by omega),ag (by omega)]
theorem GG (v:Value) (l:List Int) (mode:Int) (w:World) (hT:aQ w) (hv:LU w v l) (hl:l.length<=1000) (m0:0<=mode) (m1:mode<=4):
  Calls prog 167 #[v,.int .i64 mode] w fun e w'=>e=.returned (.tuple #[.int .u64 (eZ l mode),.bool (fZ l)])/\Below w.heap.size w w':=by
 obtain⟨hu,ao,cap,rfl,hcap,hmx,hc⟩:=hv;unfold maxLen at hmx;have hsml:=NJ l hu;have hinf:=wN l hu;have hstep:=Cr l;have HSML:=hid hsml;have HINF:=hid hinf;have HSTEP:=hid hstep;have HU:=hid hu;have HC:=hid hc;have HT:=hid hT;clear hsml hinf hstep hu hc hT;go_enter func167,ntmps167;go_wp2
 go_loopw [6,7,8,9,10,16] (fun fi fc fn fg fp i wr=>∃(k:Nat) (st:St),k<=l.length/\i=.int .i64 k/\fi=.int .u64 st.inf/\fc=.bool st.clash/\fn=.bool st.nan/\fg=.int .i64 st.ng/\fp=.int .i64 st.ps/\Hid (st=dJ (l.take k))/\Hid (Acc w w.heap.size st.s wr))
  (fun _ _ _ _ _ i _=>l.length-(intOf i).toNat)
 case atStart=>exact⟨0,yK,d_ _,rfl,rfl,rfl,rfl,rfl,rfl,hid (by simp [dJ]),hid ⟨none,0,0,ax.new w _ _ _ _,NV.nil _,br0.alloc le0 _⟩⟩
 case round=>
  obtain⟨k,st,hk,rfl,rfl,rfl,rfl,rfl,rfl,HST,HAC⟩:=hrel;have hb1:=HINF.out k hk;rw[<-HST.out]at hb1;obtain⟨i0,i1,i2,i3⟩:=hb1;have hs1:=HSML.out k hk;rw[<-HST.out]at hs1;have HS1:=hid hs1;clear hs1;obtain⟨inf,clash,nan,ng,ps,s⟩:=st;simp only at *;by_cases hlt:k<l.length
  .obtain⟨x,hx⟩:∃x,x=l.getD k 0:=⟨_,rfl⟩
   have hst2:=HSTEP.out k hlt;rw[<-HST.out,<-hx]at hst2
   have hxm:0<=x/\x<=18446744073709551615:=by
    have e:l.getD k 0=l[k]:=by simp [List.getD,hlt]
    rw[hx,e];exact HU.out _ (zG hlt)
   obtain⟨x0,x1⟩:=hxm;obtain⟨A,N,C,hbox,hnv,hbel⟩:=HAC.out
   have hcx:∃b off,ao=some ⟨b,off,none⟩/\wr.cell? ⟨b,off+k,none⟩=some (.int .u64 x):=by
    rcases HC.out with h|⟨b,off,h1,h2,h3⟩
    .omega
    .exact⟨b,off,h1,by rw[hx];exact(hbel.cell (p:=⟨b,off+k,none⟩) h2).trans (h3 k hlt)⟩
   obtain⟨b,off,rfl,hcx⟩:=hcx;have HBX:=hid hbox;have HNV:=hid hnv;have HBL:=hid hbel;have ST2:=hid hst2;clear hbox hnv hbel hst2 hx;have kb:(k:Int)<(l.length:Int):=by omega
   have hcls:=Yr x;have hclass:=fun w'=>fB x x0 x1 w'
   generalize hK:ak x=K at *;have HK:=hid hK;have HCL:=hid hclass;clear hK hclass;rcases hcls with rfl|rfl|rfl|rfl|rfl
   .by_cases hz:x=0
    .have e:=ZH (st:=⟨inf,clash,nan,ng,ps,s⟩) HK.out hz
     have E:=hid (ST2.out.trans e);have hzb:(x==0)=true:=by rw[dV];exact hz
     clear e hz;go_wp2_with (go_at_call 8;refine(HCL.out _).mono ?_;rintro e w' ⟨rfl,rfl⟩)
     go_roundw
     case rel=>exact⟨k+1,⟨inf,clash,nan,ng,ps+1,s⟩,by omega,by go_num,rfl,rfl,rfl,rfl,by go_num,hid E.out.symm,HAC⟩
     case measure=>simp [intOf];omega
    .have e:=XJ (st:=⟨inf,clash,nan,ng,ps,s⟩) HK.out hz
     have E:=hid (ST2.out.trans e);have hzb:(x==0)=false:=by rw[aH];exact hz
     clear e hz;go_wp2_with (go_at_call 8;refine(HCL.out _).mono ?_;rintro e w' ⟨rfl,rfl⟩)
     go_roundw
     case rel=>exact⟨k+1,⟨inf,clash,nan,ng+1,ps,s⟩,by omega,by go_num,rfl,rfl,rfl,by go_num,rfl,hid E.out.symm,HAC⟩
     case measure=>simp [intOf];omega
   .have e:=Kl (st:=⟨inf,clash,nan,ng,ps,s⟩) (x:=x) (by have :=HK.out;omega)
    have E:=hid (ST2.out.trans e);obtain⟨⟨q,hq,hm⟩,e0,e1⟩:=HS1.out.bds (by omega);obtain⟨f1,f2,f3,f4,-⟩:=dR x x0 x1;have hpl:=fun vo w' h0 h1 h2=>pW (.agg #[.bool s.neg,.slice A N C,.int .i64 s.e]) vo s (ai x) (q+53) w' h0 h1 h2 (l_ hm (by omega)) (l_ f2 (by omega)) (by omega) (by omega) (by omega) (by omega) (by omega)
    have hval:=fun w' h=>ia x x0 x1 w' h
    simp only at E;generalize plus s (ai x)=S2 at *;generalize ai x=vx at *;have HPL:=hid hpl;have HVA:=hid hval;have B0:=hid HBL.out.drew;obtain⟨q0,q1,q2,g0,g1,g2⟩:=HBX.out.cells;clear e hm hpl hval f1 f2 f3 f4 e0 e1;go_wp2_with (go_at_call 8;refine(HCL.out _).mono ?_;rintro e w' ⟨rfl,rfl⟩)
    go_region_with (first
     |(go_at_call 79;refine(HVA.out _ (HT.out.below B0.out)).mono ?_;rintro r w2 ⟨v2,rfl,⟨s2,rfl,hv⟩,hb⟩;obtain⟨a2,n2,c2,rfl⟩:=hv.shape;have HV2:=hid hv;have B2:=bt0 B0 hb;have X2:=hid (HBX.out.drew.below hb);have NV2:=hid (HNV.out.drew.below hb);obtain⟨q0,q1,q2,g0,g1,g2⟩:=X2.out.cells;clear hv hb)
     |(go_at_call 194;refine(HPL.out _ _ (HT.out.below B2.out) ⟨_,rfl,NV2.out⟩ ⟨_,rfl,HV2.out⟩).mono ?_;rintro r w3 ⟨v3,rfl,⟨s3,rfl,hv⟩,hb⟩;obtain⟨a3,n3,c3,rfl⟩:=hv.shape;have HV3:=hid hv;have B3:=bt0 B2 hb;have X3:=hid (X2.out.below hb);obtain⟨p0,p1,p2,h0',h1',h2'⟩:=X3.out.cells;clear hv hb))
    all_goals
     go_wp2;go_roundw
     case rel=>exact⟨k+1,⟨inf,clash,nan,ng,ps,S2⟩,by omega,by go_num,rfl,rfl,rfl,rfl,rfl,hid E.out.symm,hid ⟨a3,n3,c3,X3.out.set3 _ _ _,HV3.out.setD X3.out,cJ B3.out le0 _ _ _⟩⟩
     case measure=>simp [intOf];omega
   .have e:=Kl (st:=⟨inf,clash,nan,ng,ps,s⟩) (x:=x) (by have :=HK.out;omega)
    have E:=hid (ST2.out.trans e);obtain⟨⟨q,hq,hm⟩,e0,e1⟩:=HS1.out.bds (by omega);obtain⟨f1,f2,f3,f4,-⟩:=dR x x0 x1;have hpl:=fun vo w' h0 h1 h2=>pW (.agg #[.bool s.neg,.slice A N C,.int .i64 s.e]) vo s (ai x) (q+53) w' h0 h1 h2 (l_ hm (by omega)) (l_ f2 (by omega)) (by omega) (by omega) (by omega) (by omega) (by omega)
    have hval:=fun w' h=>ia x x0 x1 w' h
    simp only at E;generalize plus s (ai x)=S2 at *;generalize ai x=vx at *;have HPL:=hid hpl;have HVA:=hid hval;have B0:=hid HBL.out.drew;obtain⟨q0,q1,q2,g0,g1,g2⟩:=HBX.out.cells;clear e hm hpl hval f1 f2 f3 f4 e0 e1;go_wp2_with (go_at_call 8;refine(HCL.out _).mono ?_;rintro e w' ⟨rfl,rfl⟩)
    go_region_with (first
     |(go_at_call 79;refine(HVA.out _ (HT.out.below B0.out)).mono ?_;rintro r w2 ⟨v2,rfl,⟨s2,rfl,hv⟩,hb⟩;obtain⟨a2,n2,c2,rfl⟩:=hv.shape;have HV2:=hid hv;have B2:=bt0 B0 hb;have X2:=hid (HBX.out.drew.below hb);have NV2:=hid (HNV.out.drew.below hb);obtain⟨q0,q1,q2,g0,g1,g2⟩:=X2.out.cells;clear hv hb)
     |(go_at_call 194;refine(HPL.out _ _ (HT.out.below B2.out) ⟨_,rfl,NV2.out⟩ ⟨_,rfl,HV2.out⟩).mono ?_;rintro r w3 ⟨v3,rfl,⟨s3,rfl,hv⟩,hb⟩;obtain⟨a3,n3,c3,rfl⟩:=hv.shape;have HV3:=hid hv;have B3:=bt0 B2 hb;have X3:=hid (X2.out.below hb);obtain⟨p0,p1,p2,h0',h1',h2'⟩:=X3.out.cells;clear hv hb))
    all_goals
     go_wp2;go_roundw
     case rel=>exact⟨k+1,⟨inf,clash,nan,ng,ps,S2⟩,by omega,by go_num,rfl,rfl,rfl,rfl,rfl,hid E.out.symm,hid ⟨a3,n3,c3,X3.out.set3 _ _ _,HV3.out.setD X3.out,cJ B3.out le0 _ _ _⟩⟩
     case measure=>simp [intOf];omega
   .have e:=XX (st:=⟨inf,clash,nan,ng,ps,s⟩) HK.out
    have E:=hid (ST2.out.trans e);clear e
    have hcase:(clash=true/\(clash || (decide (inf≠0) && decide (inf≠x)))=true)\/(clash=false/\(inf !=0)=false/\(clash || (decide (inf≠0) && decide (inf≠x)))=false)\/
      (clash=false/\(inf !=0)=true/\(inf !=x)=false/\(clash || (decide (inf≠0) && decide (inf≠x)))=false)\/(clash=false/\(inf !=0)=true/\(inf !=x)=true/\(clash || (decide (inf≠0) && decide (inf≠x)))=true):=by
     cases clash <;> by_cases h1:inf=0 <;> by_cases h2:inf=x <;> simp [h1,h2] <;> exact Decidable.em _
    simp only at E;generalize (clash || (decide (inf≠0) && decide (inf≠x)))=cl at *;rcases hcase with⟨rfl,rfl⟩|⟨rfl,h1,rfl⟩|⟨rfl,h1,h2,rfl⟩|⟨rfl,h1,h2,rfl⟩
    all_goals
     go_wp2_with (go_at_call 8;refine(HCL.out _).mono ?_;rintro e w' ⟨rfl,rfl⟩)
     go_roundw
     case rel=>exact⟨k+1,⟨x,_,nan,ng,ps,s⟩,by omega,by go_num,rfl,rfl,rfl,rfl,rfl,hid E.out.symm,HAC⟩
     case measure=>simp [intOf];omega
   .have e:=Sk (st:=⟨inf,clash,nan,ng,ps,s⟩) HK.out
    have E:=hid (ST2.out.trans e);clear e;go_wp2_with (go_at_call 8;refine(HCL.out _).mono ?_;rintro e w' ⟨rfl,rfl⟩)
    go_roundw
    case rel=>exact⟨k+1,⟨inf,clash,true,ng,ps,s⟩,by omega,by go_num,rfl,rfl,rfl,rfl,rfl,hid E.out.symm,HAC⟩
    case measure=>simp [intOf];omega
  .have hke:k=l.length:=by omega
   have hst:(⟨inf,clash,nan,ng,ps,s⟩:St)=dJ l:=by have :=HST.out;rw[hke,lX]at this;exact this
   obtain⟨A,N,C,hbox,hnv,hbel⟩:=HAC.out;obtain⟨⟨q,hq,hm⟩,e0,e1⟩:=HS1.out.bds (by omega);obtain⟨A',N',C',hsl,l1,l2,lz⟩:=fD hnv;obtain⟨rfl,rfl,rfl⟩:A=A'/\N=N'/\C=C':=by simpa using hsl
   have hzz:s.m=0->s.e<=1000:=fun hz=>by
    rcases HS1.out.1 with h|h
    .rw[h];decide
    .omega
   have hnum:=fun w' h=>kS (.agg #[.bool s.neg,.slice A N C,.int .i64 s.e]) s q mode w' h hm (by omega) (by omega) (by omega) hzz m0 m1
   have hcase:(nan=true/\eZ l mode=9221120237041090560/\fZ l=false)\/(nan=false/\clash=true/\eZ l mode=9221120237041090560/\fZ l=false)\/
     (nan=false/\clash=false/\(inf !=0)=true/\eZ l mode=inf/\fZ l=false)\/
     (nan=false/\clash=false/\(inf !=0)=false/\1<=N/\eZ l mode=aE s mode/\fZ l=aU s)\/
     (nan=false/\clash=false/\(inf !=0)=false/\N=0/\((ps:Int)==(l.length:Int))=true/\eZ l mode=0/\fZ l=false)\/
     (nan=false/\clash=false/\(inf !=0)=false/\N=0/\((ps:Int)==(l.length:Int))=false/\((ng:Int)==(l.length:Int))=true/\eZ l mode=9223372036854775808/\fZ l=false)\/
     (nan=false/\clash=false/\(inf !=0)=false/\N=0/\((ps:Int)==(l.length:Int))=false/\((ng:Int)==(l.length:Int))=false/\eZ l mode=(if(mode==2)=true then 9223372036854775808 else 0)/\fZ l=false):=by
    unfold eZ fZ;rw[<-hst];simp only;cases nan
    .cases clash
     .by_cases hi:inf=0
      .rcases lz with⟨z1,z2⟩|⟨z1,z2⟩
       .by_cases hp:ps=l.length
        .right;right;right;right;left;simp [hi,z1,z2,hp]
        .by_cases hg:ng=l.length
         .right;right;right;right;right;left
          simp only[hi,z1,z2,hp,hg];simp;omega
         .right;right;right;right;right;right
          simp only[hi,z1,z2,hp,hg];simp;omega
       .right;right;right;left;simp [hi,z1,z2]
      .right;right;left;simp [hi]
     .right;left;simp
    .left;simp
   have HNUM:=hid hnum;have HNV:=hid hnv;have HBL:=hid hbel;obtain⟨q0,q1,q2,g0,g1,g2⟩:=hbox.cells;clear hst hnum hnv hbel hbox hm hke hsl lz HST HAC hzz;generalize aE s mode=nR at *;generalize aU s=nC at *;rcases hcase with⟨rfl,hV,hCC⟩|⟨rfl,rfl,hV,hCC⟩|⟨rfl,rfl,hi,hV,hCC⟩|⟨rfl,rfl,hi,hN,hV,hCC⟩|⟨rfl,rfl,hi,rfl,hp,hV,hCC⟩|⟨rfl,rfl,hi,rfl,hp,hg,hV,hCC⟩|⟨rfl,rfl,hi,rfl,hp,hg,hV,hCC⟩
   all_goals
    have HV:=hid hV;have HCC:=hid hCC;clear hV hCC
   .go_wp2
    go_ret2;exact⟨by rw[HV.out,HCC.out];rfl,HBL.out⟩
   .go_wp2
    go_ret2;exact⟨by rw[HV.out,HCC.out];rfl,HBL.out⟩
   .go_wp2
    go_ret2;exact⟨by rw[HV.out,HCC.out];rfl,HBL.out⟩
   .go_wp2_with fail
    refine(HNUM.out _ ⟨_,rfl,HNV.out⟩).mono ?_;rintro r w2 ⟨rfl,hb⟩;have B2:=bt0 HBL hb;clear hb;go_wp2;go_ret2;exact⟨by rw[HV.out,HCC.out];rfl,B2.out⟩
   .go_wp2
    go_ret2;exact⟨by rw[HV.out,HCC.out];rfl,HBL.out⟩
   .go_wp2
    go_ret2;exact⟨by rw[HV.out,HCC.out];rfl,HBL.out⟩
   .cases hm2:(mode==2)
    all_goals
     have HM2:=hid hm2;go_wp2_with (go_at_call 195;refine(KL _ _).mono ?_;rintro e w' ⟨rfl,rfl⟩)
     go_ret2;exact⟨by rw[HV.out,HCC.out,HM2.out];rfl,HBL.out⟩
def dv (mode:Int):Int:=if aD mode then 0 else 1
def kL (x y mode:Int):Int:=if aD mode then eZ [x,y] mode else 0
def nV (x y mode:Int):Bool:=if aD mode then fZ [x,y] else false
theorem OI (w:World) (x y:Int) (T:TypeId) (x0:0<=x) (x1:x<=18446744073709551615) (y0:0<=y) (y1:y<=18446744073709551615):LU (w.alloc (.cells #[.int .u64 x,.int .u64 y] T)) (.slice (some ⟨w.heap.size,0,none⟩) 2 2) [x,y]:=by
 refine⟨?_,some ⟨w.heap.size,0,none⟩,2,rfl,ae 2,by unfold maxLen;omega,Or.inr ⟨w.heap.size,0,rfl,by simp,?_⟩⟩
 .intro d hd
  simp at hd;rcases hd with rfl|rfl
  .exact⟨x0,x1⟩
  .exact⟨y0,y1⟩
 .intro i hi
  match i,hi with
  | 0,_=>simp [go_sem]
  | 1,_=>simp [go_sem]
theorem sY (x y mode:Int) (x0:0<=x) (x1:x<=18446744073709551615) (y0:0<=y) (y1:y<=18446744073709551615) (w:World) (hT:aQ w):
  Calls prog 145 #[.int .u64 x,.int .u64 y,.int .i64 mode] w fun e w'=>e=.returned (.tuple #[.int .u64 (kL x y mode),.bool (nV x y mode),.int .i64 (dv mode)])/\Below w.heap.size w w':=by
 cases hk:aD mode
 .have e1:kL x y mode=0:=by unfold kL;rw[hk];rfl
  have e2:nV x y mode=false:=by unfold nV;rw[hk];rfl
  have e3:dv mode=1:=by unfold dv;rw[hk];rfl
  rw[e1,e2,e3];clear e1 e2 e3 hT;go_enter func145,ntmps145;go_wp2_with (go_at_call 28;refine(dF _ _).mono ?_;rintro e w' ⟨rfl,rfl⟩)
  go_ret3;exact⟨rfl,Below.refl _ _⟩
 .have e1:kL x y mode=eZ [x,y] mode:=by unfold kL;rw[hk];rfl
  have e2:nV x y mode=fZ [x,y]:=by unfold nV;rw[hk];rfl
  have e3:dv mode=0:=by unfold dv;rw[hk];rfl
  have hm:0<=mode/\mode<=4:=by unfold aD at hk;simpa using hk
  rw[e1,e2,e3];have hall:=fun v w' h0 h1=>GG v [x,y] mode w' h0 h1 (by simp) hm.1 hm.2
  have hlu:=fun w T=>OI w x y T x0 x1 y0 y1
  generalize eZ [x,y] mode=V at *;generalize fZ [x,y]=C at *;have HALL:=hid hall;have HLU:=hid hlu;have HT:=hid hT;clear e1 e2 e3 hT hall hlu hm;go_enter func145,ntmps145;go_wp2_with (go_at_call 28;refine(dF _ _).mono ?_;rintro e w' ⟨rfl,rfl⟩)
  refine(HALL.out _ _ (HT.out.alloc _) (HLU.out _ _)).mono ?_;rintro r w1 ⟨rfl,hb⟩;have B1:=hid (af ((Below.refl w.heap.size w).alloc le0 _) le0 hb);clear hb;go_wp2;go_ret3;exact⟨rfl,B1.out⟩
theorem CO {x:Int}(x0:0<=x) (x1:x<=18446744073709551615):0<=kg x/\kg x<=18446744073709551615:=by unfold kg;split <;> omega
theorem Zx (x y mode:Int) (x0:0<=x) (x1:x<=18446744073709551615) (y0:0<=y) (y1:y<=18446744073709551615) (w:World) (hT:aQ w):
  Calls prog 146 #[.int .u64 x,.int .u64 y,.int .i64 mode] w fun e w'=>e=.returned (.tuple #[.int .u64 (kL x (kg y) mode),.bool (nV x (kg y) mode),.int .i64 (dv mode)])/\Below w.heap.size w w':=by
 have hn:=CO y0 y1;have hadd:=fun w' h=>sY x (kg y) mode x0 x1 hn.1 hn.2 w' h
 generalize kL x (kg y) mode=V at *;generalize nV x (kg y) mode=C at *;generalize dv mode=E at *;have HADD:=hid hadd;have HT:=hid hT;clear hadd hT hn;go_enter func146,ntmps146;go_wp2_with (go_at_call 160;refine(Fy _ (by omega) (by omega) _).mono ?_;rintro e w' ⟨rfl,rfl⟩)
 refine(HADD.out _ HT.out).mono ?_;rintro r w1 ⟨rfl,hb⟩;have B1:=hid hb;clear hb;go_wp2;go_ret3;exact⟨rfl,B1.out⟩
theorem Ga (l:List Int) (h:∀x∈l,0<=x/\x<=18446744073709551615) (mode:Int):0<=eZ l mode/\eZ l mode<=18446744073709551615:=by
 have hi:=wN l h l.length le0;rw[lX]at hi;unfold eZ;split;·omega
 split;·omega
 split
 .have :=nB (kd (dJ l).s.neg mode) (dJ l).s.m (dJ l).s.e
  have hMR:MR=9218868437227405312:=rfl;unfold aE;split <;> omega
 split;·omega
 split;·omega
 split <;> omega
theorem QM {x:Int}(h:ay x=9218868437227405312):ak x=4:=by
 unfold ak;rw[ag (by omega),ag (by omega),ag (by omega),aj h]
theorem YV {x:Int}(h:9218868437227405312<ay x):ak x=5:=by
 unfold ak;rw[ag (by omega),ag (by omega),ag (by omega),ag (by omega)]
def Er (x:Int):Int:=if di x then -((aw (ay x).toNat:Nat):Int) else((aw (ay x).toNat:Nat):Int)
theorem UA {x:Int}(x0:0<=x) (x1:x<=18446744073709551615) (hv:ay x<9218868437227405312):(ai x).vl 1074=Er x:=by
 have :=C_ x x0 x1 hv 0
 simpa [Er] using this
def cX (x y:Int):Int:=if di x=di y then 0 else 9223372036854775808
def gA (x y:Int):Bool:=decide (ak x=5) || (decide (ak y=5) || (decide (ak x=4) || decide (ak y=4)))
def gm (x y:Int):Int:=if ak x=5\/ak y=5\/(ak x=4/\ak y=1)\/(ak x=1/\ak y=4) then 9221120237041090560 else if ak x=4\/ak y=4 then 9218868437227405312+cX x y else 0
def dq (x y:Int):D:=times (ai x) (ai y)
def qA (x y mode:Int):Int:=if gA x y=true then gm x y else if(dq x y).m=0 then cX x y else aE (dq x y) mode
def q9 (x y:Int):Bool:=if gA x y=true then false else if(dq x y).m=0 then false else aU (dq x y)
def pM (x y mode:Int):Int:=if aD mode=true then qA x y mode else 0
def uM (x y mode:Int):Bool:=if aD mode=true then q9 x y else false
def eN (x y z:Int):D:=plus (dq x y) (ai z)
def lh (x y z mode:Int):Int:=
 if ak z=5\/(gA x y=true/\gm x y=9221120237041090560) then 9221120237041090560 else if gA x y=true then eZ [gm x y,z] mode else if ak z=4 then z
 else if(eN x y z).m≠0 then aE (eN x y z) mode else if(dq x y).m=0 then eZ [cX x y,z] mode else if mode=2 then 9223372036854775808 else 0
def mf (x y z:Int):Bool:=
 if ak z=5\/(gA x y=true/\gm x y=9221120237041090560) then false else if gA x y=true then fZ [gm x y,z] else if ak z=4 then false
 else if(eN x y z).m≠0 then aU (eN x y z) else if(dq x y).m=0 then fZ [cX x y,z] else false
def qv (x y z mode:Int):Int:=if aD mode=true then lh x y z mode else 0
def vO (x y z mode:Int):Bool:=if aD mode=true then mf x y z else false
theorem ri (x y:Int):0<=cX x y/\cX x y<=9223372036854775808:=by unfold cX;split <;> omega
theorem Qn (x y:Int):(dq x y).Nf:=SW _ _
theorem qQ (d:D) (mode:Int):0<=aE d mode/\aE d mode<=18446744073709551615:=by
 have :=nB (kd d.neg mode) d.m d.e;have hMR:MR=9218868437227405312:=rfl;unfold aE;split <;> omega
theorem Dm (x y:Int):0<=gm x y/\gm x y<=18446744073709551615:=by
 have :=ri x y;unfold gm;split;·omega
 split <;> omega
theorem QY (x y mode:Int):0<=pM x y mode/\pM x y mode<=18446744073709551615:=by
 have a:=ri x y;have b:=Dm x y;have c:=qQ (dq x y) mode;unfold pM qA;split
 .split;·omega
  split <;> omega
 .omega
theorem UG (x y z mode:Int) (z0:0<=z) (z1:z<=18446744073709551615):0<=qv x y z mode/\qv x y z mode<=18446744073709551615:=by
 have a:=ri x y;have b:=Dm x y;have c:=qQ (eN x y z) mode;have d:=Ga [gm x y,z] (by simp;omega) mode;have e:=Ga [cX x y,z] (by simp;omega) mode;unfold qv lh;split
 .split;·omega
  split;·omega
  split;·omega
  split;·omega
  split;·omega
  split <;> omega
 .omega
theorem UY {x:Int}(h:ay x=0):ak x=1:=by unfold ak;rw[aj h]
def iZ (x y:Int):D:=d' ((ai x).neg !=(ai y).neg) (ai x).m (ai y).m ((ai x).e-(ai y).e)
def tN (x y:Int):Bool:=decide (ak x=5) || (decide (ak y=5) || (decide (ak x=4) || (decide (ak y=4) || (decide (ak x=1) || decide (ak y=1)))))
def xS (x y:Int):Int:=
 if ak x=5\/ak y=5\/(ak x=4/\ak y=4)\/(ak x=1/\ak y=1) then 9221120237041090560 else if ak x=4\/ak y=1 then 9218868437227405312+cX x y else cX x y
def qV (x y mode:Int):Int:=if tN x y=true then xS x y else aE (iZ x y) mode
def tD (x y:Int):Bool:=if tN x y=true then false else aU (iZ x y)
def pO (x y mode:Int):Int:=if aD mode=true then qV x y mode else 0
def uG (x y mode:Int):Bool:=if aD mode=true then tD x y else false
def iW (x:Int):D:=w_ (bF ((ai x).m*2^rk (ai x).e)) (ai x).m (ai x).e
def tq (x:Int):Bool:=decide (ak x=5) || ((di x) || (decide (ak x=1) || decide (ak x=4)))
def GM (x:Int):Int:=if ak x=5\/(di x=true/\ak x≠1) then 9221120237041090560 else x
def ry (x mode:Int):Int:=if tq x=true then GM x else aE (iW x) mode
def tI (x:Int):Bool:=if tq x=true then false else aU (iW x)
def pG (x mode:Int):Int:=if aD mode=true then ry x mode else 0
def uF (x mode:Int):Bool:=if aD mode=true then tI x else false
theorem Su {x y mode:Int}(hk:aD mode=false):pO x y mode=0/\uG x y mode=false/\dv mode=1:=by unfold pO uG dv;rw[hk];exact⟨rfl,rfl,rfl⟩
theorem UC {x y mode:Int}(hk:aD mode=true):pO x y mode=qV x y mode/\uG x y mode=tD x y/\dv mode=0:=by unfold pO uG dv;rw[hk];exact⟨rfl,rfl,rfl⟩
theorem PK {x mode:Int}(hk:aD mode=false):pG x mode=0/\uF x mode=false/\dv mode=1:=by unfold pG uF dv;rw[hk];exact⟨rfl,rfl,rfl⟩
theorem RI {x mode:Int}(hk:aD mode=true):pG x mode=ry x mode/\uF x mode=tI x/\dv mode=0:=by unfold pG uF dv;rw[hk];exact⟨rfl,rfl,rfl⟩
theorem Xt (x y:Int):0<=xS x y/\xS x y<=18446744073709551615:=by
 have :=ri x y;unfold xS;split;·omega
 split <;> omega
theorem S5 (x y mode:Int):0<=pO x y mode/\pO x y mode<=18446744073709551615:=by
 have b:=Xt x y;have c:=qQ (iZ x y) mode;unfold pO qV;split
 .split <;> omega
 .omega
theorem Xc (x mode:Int) (x0:0<=x) (x1:x<=18446744073709551615):0<=pG x mode/\pG x mode<=18446744073709551615:=by
 have c:=qQ (iW x) mode;unfold pG ry;split
 .split
  .unfold GM;split <;> omega
  .omega
 .omega
theorem ab3 {x:Int}(x0:0<=x) (x1:x<=18446744073709551615) (hx:ay x<9218868437227405312) (h:(ai x).m=0):ay x=0:=by
 have :=UA x0 x1 hx;rw[yu h]at this
 have e:aw (ay x).toNat=aw 0:=by
  rw[kv];unfold Er at this;split at this <;> omega
 have :=BG e;have :=gV x;omega
theorem TX {x:Int}(h5:ak x≠5) (h4:ak x≠4) (h1:ak x≠1):ay x<9218868437227405312/\ay x≠0:=by
 refine⟨?_,fun h=>h1 (UY h)⟩;apply gP;intro k;by_cases e:ay x=9218868437227405312
 .exact h4 (QM e)
 .exact h5 (YV (by omega))
theorem zq {x:Int}(x0:0<=x) (x1:x<=18446744073709551615) (h5:ak x≠5) (h4:ak x≠4) (h1:ak x≠1):(ai x).m≠0:=fun h=>by
 obtain⟨a,b⟩:=TX h5 h4 h1;exact b (ab3 x0 x1 a h)
theorem ag8 {x y:Int}(h:¬tN x y=true):ak x≠5/\ak y≠5/\ak x≠4/\ak y≠4/\ak x≠1/\ak y≠1:=by
 unfold tN at h;simp only[jR,da]at h;omega
theorem Sb {x:Int}(h:¬tq x=true):ak x≠5/\di x=false/\ak x≠1/\ak x≠4:=by
 unfold tq at h;simp only[jR,da]at h;refine⟨by omega,?_,by omega,by omega⟩;cases hf:di x
 .rfl
 .exact absurd (Or.inr (Or.inl hf)) h
theorem ab0 {a b:Nat}(ha:a<2^64) (hb:b<2^64):(a^^^b) &&& 9223372036854775808=if(9223372036854775808<=a↔9223372036854775808<=b) then 0 else 9223372036854775808:=by
 have t:∀n:Nat,n<2^64->n.testBit 63=decide (9223372036854775808<=n):=by
  intro n hn;rw[Nat.testBit_eq_decide_div_mod_eq];by_cases h:9223372036854775808<=n
  .rw[fR h,fR];omega
  .rw[e_ h,e_];omega
 have e:(a^^^b) &&& 9223372036854775808=if(a^^^b).testBit 63 then 9223372036854775808 else 0:=by
  apply EW;intro i;rw[Nat.testBit_and,show(9223372036854775808:Nat)=2^63 by decide,zM];by_cases hi:63=i
  .subst hi;cases h:(a^^^b).testBit 63
   .simp
   .rw[aj rfl,zM];simp
  .cases h:(a^^^b).testBit 63
   .simp [hi]
   .rw[aj rfl,zM];simp [hi]
 rw[e,EY,t a ha,t b hb];by_cases h1:9223372036854775808<=a <;> by_cases h2:9223372036854775808<=b <;> simp [h1,h2]
theorem Cs {x y:Int}(x0:0<=x) (x1:x<=18446744073709551615) (y0:0<=y) (y1:y<=18446744073709551615):bits .and .u64 (bits .xor .u64 x y) 9223372036854775808=cX x y:=by
 obtain⟨a,rfl⟩:=gH x0;obtain⟨b,rfl⟩:=gH y0;have ha:a<2^64:=by omega
 have hb:b<2^64:=by omega
 rw[u64_xor_nat a b (by omega) (by omega)];have hx:a^^^b<2^64:=Nat.xor_lt_two_pow ha hb;have h:=u64_and_nat (a^^^b) 9223372036854775808 (by omega) (by decide);rw[show((9223372036854775808:Nat):Int)=9223372036854775808 from rfl]at h;rw[h,ab0 ha hb];unfold cX di;by_cases h1:9223372036854775808<=a <;> by_cases h2:9223372036854775808<=b
 .rw[aj (by omega),aj (by rw[fR (by omega),fR (by omega)])];rfl
 .rw[ag (by omega),ag (by rw[fR (by omega),e_ (by omega)];decide)];rfl
 .rw[ag (by omega),ag (by rw[e_ (by omega),fR (by omega)];decide)];rfl
 .rw[aj (by omega),aj (by rw[e_ (by omega),e_ (by omega)])];rfl
theorem vF (x y:Int) (x0:0<=x) (x1:x<=18446744073709551615) (y0:0<=y) (y1:y<=18446744073709551615) (w:World):
  Calls prog 193 #[.int .u64 x,.int .u64 y] w fun e w'=>e=.returned (.int .u64 (cX x y))/\w=w':=by
 have e1:=Cs x0 x1 y0 y1;go_enter func193,ntmps193;go_wp2;go_ret;exact⟨rfl,rfl⟩
def G1 (a b s:Int):Int:=if a=5\/b=5\/(a=4/\b=1)\/(a=1/\b=4) then 9221120237041090560 else if a=4\/b=4 then 9218868437227405312+s else 0
def Nu (a b:Int):Bool:=decide (a=5) || (decide (b=5) || (decide (a=4) || decide (b=4)))
theorem Pv {a b:Int}{c d:Bool}(h:a=b) (k:c=d):Ending.returned (.tuple #[.int .u64 a,.bool c])=.returned (.tuple #[.int .u64 b,.bool d]):=by rw[h,k]
theorem NG (x y:Int):bits .or .u64 9218868437227405312 (cX x y)=9218868437227405312+cX x y:=by
 unfold cX;split <;> decide+kernel
theorem Dp (x y:Int) (x0:0<=x) (x1:x<=18446744073709551615) (y0:0<=y) (y1:y<=18446744073709551615) (w:World):
  Calls prog 191 #[.int .u64 x,.int .u64 y] w fun e w'=>e=.returned (.tuple #[.int .u64 (gm x y),.bool (gA x y)])/\w=w':=by
 have e1:gm x y=G1 (ak x) (ak y) (cX x y):=rfl;have e2:gA x y=Nu (ak x) (ak y):=rfl;rw[e1,e2];have h3:=NG x y;have CX:=hid (fun w'=>fB x x0 x1 w');have CY:=hid (fun w'=>fB y y0 y1 w');have SG:=hid (fun w'=>vF x y x0 x1 y0 y1 w');clear e1 e2;generalize cX x y=s at *;generalize ak x=a at *;generalize ak y=b at *;go_enter func191,ntmps191
 go_wp2_with (first
  |(go_at_call 8;first|((with_reducible refine(CX.out _).mono ?_);rintro e w' ⟨rfl,rfl⟩)|((with_reducible refine(CY.out _).mono ?_);rintro e w' ⟨rfl,rfl⟩))
  |(go_at_call 193;(with_reducible refine(SG.out _).mono ?_);rintro e w' ⟨rfl,rfl⟩))
 all_goals
  go_ret2;refine⟨Pv ?_ ?_,rfl⟩
 all_goals (clear CX CY SG;try simp only[dV,aH,nZ]at *)
 all_goals first
  |(unfold G1;first|rw[aj (by omega)]|rw[ag (by omega),aj (by omega)]|rw[ag (by omega),ag (by omega)])
  |(unfold Nu;simp <;> omega)
theorem Al (x y:Int) (x0:0<=x) (x1:x<=18446744073709551615) (y0:0<=y) (y1:y<=18446744073709551615) (w:World) (hT:aQ w):
  Calls prog 192 #[.int .u64 x,.int .u64 y] w (iR w (dq x y)):=by
 obtain⟨f1,f2,f3,f4,-⟩:=dR x x0 x1;obtain⟨g1,g2,g3,g4,-⟩:=dR y y0 y1;have hx:=fun w' h=>ia x x0 x1 w' h
 have hy:=fun w' h=>ia y y0 y1 w' h
 have hp:=fun v1 v2 w' h0 h1 h2=>PM v1 v2 (ai x) (ai y) 53 w' h0 h1 h2 f2 g2 (by omega) (by omega) (by omega) (by omega) (by omega)
 unfold dq;generalize times (ai x) (ai y)=P at *;generalize ai x=vx at *;generalize ai y=vy at *;have HX:=hid hx;have HY:=hid hy;have HP:=hid hp;have HT:=hid hT;clear hx hy hp hT f1 f2 f3 f4 g1 g2 g3 g4;go_enter func192,ntmps192;go_wp2_with fail
 refine(HX.out _ (HT.out.alloc _)).mono ?_;rintro r w1 ⟨v1,rfl,⟨s1,rfl,h1⟩,hb⟩;obtain⟨a1,n1,c1,rfl⟩:=h1.shape;have B1:Hid (Below w.heap.size w w1):=hid (af ((Below.refl w.heap.size w).alloc le0 _) le0 hb);have Z1:=hid ((ax.new w _ _ _ _).below hb);have V1:=hid h1;clear h1 hb;go_wp2_with fail
 refine(HY.out _ (HT.out.below B1.out)).mono ?_;rintro r w2 ⟨v2,rfl,⟨s2,rfl,h2⟩,hb⟩;obtain⟨a2,n2,c2,rfl⟩:=h2.shape;have B2:Hid (Below w.heap.size w w2):=bt0 B1 hb;have Z2:=hid (Z1.out.below hb);have V2:=hid h2;have V1':=hid (V1.out.below hb);clear h2 hb;go_wp2_with fail
 refine(HP.out _ _ _ (HT.out.below B2.out) ⟨_,rfl,V1'.out⟩ ⟨_,rfl,V2.out⟩).mono ?_;rintro r w3 ⟨v3,rfl,⟨s3,rfl,h3⟩,hb⟩;obtain⟨a3,n3,c3,rfl⟩:=h3.shape;have B3:Hid (Below w.heap.size w w3):=bt0 B2 hb;have Z3:=hid (Z2.out.below hb);have V3:=hid h3;obtain⟨s0,s1,s2,t0,t1,t2⟩:=Z3.out.cells;clear h3 hb;go_wp2;refine bodyPost_ret (v:= .agg #[.bool P.neg,.slice a3 n3 c3,.int .i64 P.e]) (by simp [results,Tryz.results192,go_sem,s0,s1,s2]) rfl ?_;exact⟨_,rfl,⟨_,rfl,V3.out.setD Z3.out⟩,cJ B3.out le0 _ _ _⟩
theorem wX (x y:Int) (x0:0<=x) (x1:x<=18446744073709551615) (y0:0<=y) (y1:y<=18446744073709551615):(dq x y).m<2^106/\ -3000<=(dq x y).e/\(dq x y).e<=3000:=by
 obtain⟨f1,f2,f3,f4,-⟩:=dR x x0 x1;obtain⟨g1,g2,g3,g4,-⟩:=dR y y0 y1;have h:dq x y=norm ((ai x).neg !=(ai y).neg) ((ai x).m*(ai y).m) ((ai x).e+(ai y).e):=(JH _ _).symm
 have hlt:(ai x).m*(ai y).m<2^106:=by
  rw[show(106:Nat)=53+53 from rfl,aB];exact Fu f2 g2
 obtain⟨b1,b2⟩:=oT ((ai x).neg !=(ai y).neg) ((ai x).e+(ai y).e) hlt;rw[h];refine⟨by omega,?_⟩;rcases b2 with b2|b2
 .rw[b2];exact⟨by decide,by decide⟩
 .omega
theorem WG {x y mode:Int}(hk:aD mode=false):pM x y mode=0/\uM x y mode=false/\dv mode=1:=by unfold pM uM dv;rw[hk];exact⟨rfl,rfl,rfl⟩
theorem WL {x y mode:Int}(hk:aD mode=true):pM x y mode=qA x y mode/\uM x y mode=q9 x y/\dv mode=0:=by unfold pM uM dv;rw[hk];exact⟨rfl,rfl,rfl⟩
theorem Tl (x y mode:Int) (x0:0<=x) (x1:x<=18446744073709551615) (y0:0<=y) (y1:y<=18446744073709551615) (w:World) (hT:aQ w):
  Calls prog 147 #[.int .u64 x,.int .u64 y,.int .i64 mode] w fun e w'=>e=.returned (.tuple #[.int .u64 (pM x y mode),.bool (uM x y mode),.int .i64 (dv mode)])/\Below w.heap.size w w':=by
 cases hk:aD mode
 .obtain⟨e1,e2,e3⟩:= @WG x y mode hk
  rw[e1,e2,e3];clear e1 e2 e3 hT;go_enter func147,ntmps147;go_wp2_with (go_at_call 28;refine(dF _ _).mono ?_;rintro e w' ⟨rfl,rfl⟩)
  go_ret3;exact⟨rfl,Below.refl _ _⟩
 .obtain⟨e1,e2,e3⟩:= @WL x y mode hk
  rw[e1,e2,e3];clear e1 e2 e3;have hm:0<=mode/\mode<=4:=by unfold aD at hk;simpa using hk
  have hsp:=fun w'=>Dp x y x0 x1 y0 y1 w'
  have hex:=fun w' h=>Al x y x0 x1 y0 y1 w' h
  have hsg:=fun w'=>vF x y x0 x1 y0 y1 w'
  obtain⟨p1,p2,p3⟩:=wX x y x0 x1 y0 y1;have hz:=vX (Qn x y);have hnum:=fun v w' h=>kS v (dq x y) 106 mode w' h p1 (by omega) (by omega) (by omega) hz hm.1 hm.2
  have hcase:(gA x y=true/\qA x y mode=gm x y/\q9 x y=false)\/(gA x y=false/\(dq x y).m=0/\qA x y mode=cX x y/\q9 x y=false)\/
    (gA x y=false/\(dq x y).m≠0/\qA x y mode=aE (dq x y) mode/\q9 x y=aU (dq x y)):=by
   unfold qA q9;cases gA x y
   .by_cases h:(dq x y).m=0 <;> simp [h]
   .simp
  generalize qA x y mode=V at *;generalize q9 x y=C at *;generalize gm x y=sv at *;generalize gA x y=sb at *;generalize cX x y=sg at *;generalize aE (dq x y) mode=nR at *;generalize aU (dq x y)=nC at *;generalize dq x y=P at *;have HSP:=hid hsp;have HEX:=hid hex;have HSG:=hid hsg;have HNUM:=hid hnum;have HT:=hid hT;have HK:Hid (aD mode=true):=hid hk;clear hsp hex hsg hnum hT hm p1 p2 p3 hz;rcases hcase with⟨rfl,rfl,rfl⟩|⟨rfl,hm,rfl,rfl⟩|⟨rfl,hm,rfl,rfl⟩
  .go_enter func147,ntmps147
   go_wp2_with (first|(go_at_call 28;refine(dF _ _).mono ?_;rintro e w' ⟨rfl,rfl⟩)|(go_at_call 191;(with_reducible refine(HSP.out _).mono ?_);rintro e w' ⟨rfl,rfl⟩))
   go_ret3;exact⟨rfl,Below.refl _ _⟩
  all_goals
   have HM:=hid hm;clear hm;go_enter func147,ntmps147;go_wp2_with (first|(go_at_call 28;refine(dF _ _).mono ?_;rintro e w' ⟨rfl,rfl⟩)|(go_at_call 191;(with_reducible refine(HSP.out _).mono ?_);rintro e w' ⟨rfl,rfl⟩))
   refine(HEX.out _ HT.out).mono ?_;rintro r w1 ⟨v1,rfl,⟨s1,rfl,h1⟩,hb⟩;obtain⟨a1,n1,c1,rfl,l1,l2,lz⟩:=fD h1;have B1:=hid hb;have V1:=hid h1;have X1:=hid (ax.new w1 (.bool P.neg) (.slice a1 n1 c1) (.int .i64 P.e) 68);clear h1 hb
  .have hn:n1=0:=by have :=HM.out;omega
   subst hn;clear lz;go_wp2_with (go_at_call 193;(with_reducible refine(HSG.out _).mono ?_);rintro e w' ⟨rfl,rfl⟩)
   go_ret3;exact⟨rfl,B1.out.alloc B1.out.size _⟩
  .have hn:1<=n1:=by have :=HM.out;omega
   clear lz;obtain⟨q0,q1,q2,g0,g1,g2⟩:=X1.out.cells;go_wp2_with fail
   refine(HNUM.out _ _ ⟨_,rfl,V1.out.alloc _⟩).mono ?_;rintro r w2 ⟨rfl,hb⟩;have B2:=hid (af (B1.out.alloc B1.out.size _) le0 hb);clear hb;go_wp2;go_ret3;exact⟨rfl,B2.out⟩
def nL (x mode:Int):Int:=if ak x=5 then 9221120237041090560 else if ak x=4 then x else ay (aE (eG (ai x) 0 mode) 0)+cX x 0
def rU (x:Int):Bool:=if ak x=5 then false else if ak x=4 then false else mulC (ai x) 0
def qf (x mode:Int):Int:=if aD mode=true then nL x mode else 0
def uX (x mode:Int):Bool:=if aD mode=true then rU x else false
theorem Qp {x mode:Int}(hk:aD mode=false):qf x mode=0/\uX x mode=false/\dv mode=1:=by unfold qf uX dv;rw[hk];exact⟨rfl,rfl,rfl⟩
theorem Ry {x mode:Int}(hk:aD mode=true):qf x mode=nL x mode/\uX x mode=rU x/\dv mode=0:=by unfold qf uX dv;rw[hk];exact⟨rfl,rfl,rfl⟩
theorem UM {x:Int}(x0:0<=x) (x1:x<=18446744073709551615):bits .and .u64 x 9223372036854775808=cX x 0:=by
 have h:=Cs x0 x1 (show(0:Int)<=0 by decide) (show(0:Int)<=18446744073709551615 by decide)
 have e:bits .xor .u64 x 0=x:=by
  obtain⟨a,rfl⟩:=gH x0;have :=u64_xor_nat a 0 (by omega) (by decide);rw[show((0:Nat):Int)=0 from rfl]at this;rw[this,Nat.xor_zero]
 rw[e]at h;exact h
theorem UH {o:Int}(x:Int) (h0:0<=o) (h1:o<=9223372036854775807):bits .or .u64 o (cX x 0)=o+cX x 0:=by
 unfold cX;split
 .rw[uZ o h0 (by omega),Int.add_zero]
 .rw[yP o h0 (by omega)]
theorem Td {d:D}{k:Nat}(mode:Int) (hm:d.m<2^k) (e0: -2000<=d.e) (e1:d.e<=2000):(eG d 0 mode).m<2^(k+1)/\ -2000<=(eG d 0 mode).e/\(eG d 0 mode).e<=2001+k:=by
 unfold eG;split
 .obtain⟨b1,b2⟩:=oT d.neg d.e hm
  refine⟨by rw[bH];omega,?_⟩;rcases b2 with b2|b2
  .rw[b2];exact⟨by decide,by show(0:Int)<=_;omega⟩
  .omega
 .have h:=Es (neg:=d.neg) (mode:=mode) hm (show 0<0-d.e by omega)
  obtain⟨b1,b2⟩:=oT d.neg 0 h;refine⟨by omega,?_⟩;rcases b2 with b2|b2
  .rw[b2];exact⟨by decide,by show(0:Int)<=_;omega⟩
  .omega
theorem Uk (d:D) (pl mode:Int):(eG d pl mode).Nf:=by unfold eG;split <;> exact iT _ _ _
theorem Uw (x mode:Int) (x0:0<=x) (x1:x<=18446744073709551615) (m0': -9223372036854775808<=mode) (m1':mode<=9223372036854775807) (w:World) (hT:aQ w):
  Calls prog 155 #[.int .u64 x,.int .i64 mode] w fun e w'=>e=.returned (.tuple #[.int .u64 (qf x mode),.bool (uX x mode),.int .i64 (dv mode)])/\Below w.heap.size w w':=by
 cases hk:aD mode
 .obtain⟨e1,e2,e3⟩:= @Qp x mode hk
  rw[e1,e2,e3];clear e1 e2 e3 hT;go_enter func155,ntmps155;go_wp2_with (go_at_call 28;refine(dF _ _).mono ?_;rintro e w' ⟨rfl,rfl⟩)
  go_ret3;exact⟨rfl,Below.refl _ _⟩
 .obtain⟨e1,e2,e3⟩:= @Ry x mode hk
  rw[e1,e2,e3];clear e1 e2 e3;have hm:0<=mode/\mode<=4:=by unfold aD at hk;simpa using hk
  have hcl:=fun w'=>fB x x0 x1 w'
  obtain⟨v1,v2,v3,v4,-⟩:=dR x x0 x1;have hval:=fun w' h=>ia x x0 x1 w' h
  have hmul:=fun v w' h h2=>LK v (ai x) 53 0 mode w' h h2 v2 (by omega) (by omega) (by omega) (by omega) (by omega) hm.1 hm.2
  obtain⟨b1,b2,b3⟩:=Td mode v2 (by omega) (by omega);have hz:=vX (Uk (ai x) 0 mode);have hnum:=fun v w' h=>kS v (eG (ai x) 0 mode) 54 0 w' h b1 (by omega) (by omega) (by omega) hz (by decide) (by decide)
  have nb:=qQ (eG (ai x) 0 mode) 0;have hab:=fun w'=>pN (aE (eG (ai x) 0 mode) 0) nb.1 nb.2 w'
  have fb:=gV (aE (eG (ai x) 0 mode) 0);have hand:=UM x0 x1;have hor:=UH x fb.1 fb.2
  have hcase:((ak x==5)=true/\nL x mode=9221120237041090560/\rU x=false)\/((ak x==5)=false/\(ak x==4)=true/\nL x mode=x/\rU x=false)\/
    ((ak x==5)=false/\(ak x==4)=false/\nL x mode=ay (aE (eG (ai x) 0 mode) 0)+cX x 0/\rU x=mulC (ai x) 0):=by
   unfold nL rU;by_cases k5:ak x=5
   .left;simp [k5]
   .by_cases k4:ak x=4
    .right;left;simp [k4]
    .right;right;simp [k5,k4]
  clear nb fb hm v1 v2 v3 v4 b1 b2 b3 hz;generalize nL x mode=V at *;generalize rU x=C at *;generalize ay (aE (eG (ai x) 0 mode) 0)=ab at *;generalize aE (eG (ai x) 0 mode) 0=nR at *;generalize aU (eG (ai x) 0 mode)=nC at *;generalize cX x 0=sg at *;generalize mulC (ai x) 0=mC at *;generalize eG (ai x) 0 mode=R at *;generalize ai x=vx at *;generalize ak x=cx at *;have HCL:=hid hcl;have HVAL:=hid hval;have HMUL:=hid hmul;have HNUM:=hid hnum;have HAB:=hid hab;have HT:=hid hT;have HK:Hid (aD mode=true):=hid hk;clear hcl hval hmul hnum hab hT;rcases hcase with⟨k5,rfl,rfl⟩|⟨k5,k4,rfl,rfl⟩|⟨k5,k4,rfl,rfl⟩
  .go_enter func155,ntmps155
   go_wp2_with (first|(go_at_call 28;refine(dF _ _).mono ?_;rintro e w' ⟨rfl,rfl⟩)|(go_at_call 8;(with_reducible refine(HCL.out _).mono ?_);rintro e w' ⟨rfl,rfl⟩))
   go_ret3;exact⟨rfl,Below.refl _ _⟩
  .go_enter func155,ntmps155
   go_wp2_with (first|(go_at_call 28;refine(dF _ _).mono ?_;rintro e w' ⟨rfl,rfl⟩)|(go_at_call 8;(with_reducible refine(HCL.out _).mono ?_);rintro e w' ⟨rfl,rfl⟩))
   go_ret3;exact⟨rfl,Below.refl _ _⟩
  .go_enter func155,ntmps155
   go_wp2_with (first|(go_at_call 28;refine(dF _ _).mono ?_;rintro e w' ⟨rfl,rfl⟩)|(go_at_call 8;(with_reducible refine(HCL.out _).mono ?_);rintro e w' ⟨rfl,rfl⟩))
   refine(HVAL.out _ HT.out).mono ?_;rintro r w2 ⟨v2,rfl,⟨s2,rfl,hv⟩,hb⟩;obtain⟨a2,n2,c2,rfl⟩:=hv.shape;have VO2:=hid hv;have R2:Hid (Below w.heap.size w w2):=hid hb;clear hv hb;go_wp2_with fail
   refine(HMUL.out _ _ (HT.out.below R2.out) ⟨_,rfl,VO2.out⟩).mono ?_;rintro r w3 ⟨a3,n3,c3,rfl,hv,hb⟩;have XW:=hid (ax.new w3 (.bool R.neg) (.slice a3 n3 c3) (.int .i64 R.e) 68);have NW:=hid (hv.alloc (.cells #[.bool R.neg,.slice a3 n3 c3,.int .i64 R.e] 68));have R3:Hid (Below w.heap.size w w3):=bt0 R2 hb;have BW:Hid (Below w.heap.size w _):=hid (R3.out.alloc R3.out.size (.cells #[.bool R.neg,.slice a3 n3 c3,.int .i64 R.e] 68));obtain⟨q0,q1,q2,f0,f1,f2⟩:=XW.out.cells;clear hv hb;go_wp2_with fail
   refine(HNUM.out _ _ ⟨_,rfl,NW.out⟩).mono ?_;rintro r w4 ⟨rfl,hb⟩;have B4:Hid (Below w.heap.size w w4):=bt0 BW hb;have X4:=hid (XW.out.below hb);clear hb;go_wp2_with (go_at_call 25;(with_reducible refine(HAB.out _).mono ?_);rintro e w' ⟨rfl,rfl⟩)
   go_ret3;exact⟨rfl,B4.out⟩
def kE (n:Nat) (mode:Int):Int:=if aD mode=true then(if 200<n then 2 else 0) else 1
def mH (l:List Int) (mode:Int):Int:=if kE l.length mode=0 then eZ l mode else 0
def pY (l:List Int) (mode:Int):Bool:=if kE l.length mode=0 then fZ l else false
theorem ac9 (v:Value) (l:List Int) (mode:Int) (w:World) (hT:aQ w) (hv:LU w v l):
  Calls prog 120 #[v,.int .i64 mode] w fun e w'=>e=.returned (.tuple #[.int .u64 (mH l mode),.bool (pY l mode),.int .i64 (kE l.length mode)])/\Below w.heap.size w w':=by
 have hv':=hv;obtain⟨-,ao,cap,rfl,hcap,hmx,-⟩:=hv;unfold maxLen at hmx;cases hk:aD mode
 .have e3:kE l.length mode=1:=by unfold kE;rw[hk];rfl
  have e1:mH l mode=0:=by unfold mH;rw[e3];rfl
  have e2:pY l mode=false:=by unfold pY;rw[e3];rfl
  rw[e1,e2,e3];clear e1 e2 e3 hT hv';go_enter func120,ntmps120;go_wp2_with (go_at_call 28;refine(dF _ _).mono ?_;rintro e w' ⟨rfl,rfl⟩)
  go_ret3;exact⟨rfl,Below.refl _ _⟩
 .have hm:0<=mode/\mode<=4:=by unfold aD at hk;simpa using hk
  by_cases hlen:200<l.length
  .have e3:kE l.length mode=2:=by unfold kE;rw[hk,aj rfl,aj hlen]
   have e1:mH l mode=0:=by unfold mH;rw[e3];rfl
   have e2:pY l mode=false:=by unfold pY;rw[e3];rfl
   rw[e1,e2,e3];clear e1 e2 e3 hT hv' hm;have HK:Hid (aD mode=true):=hid hk;have hl2:(200:Int)<(l.length:Int):=by omega
   go_enter func120,ntmps120;go_wp2_with (go_at_call 28;refine(dF _ _).mono ?_;rintro e w' ⟨rfl,rfl⟩)
   go_ret3;exact⟨rfl,Below.refl _ _⟩
  .have e3:kE l.length mode=0:=by unfold kE;rw[hk,aj rfl,ag hlen]
   have e1:mH l mode=eZ l mode:=by unfold mH;rw[e3];rfl
   have e2:pY l mode=fZ l:=by unfold pY;rw[e3];rfl
   rw[e1,e2,e3];clear e1 e2 e3;have hall:=fun w' h0 h1=>GG (.slice ao l.length cap) l mode w' h0 h1 (by omega) hm.1 hm.2
   generalize eZ l mode=V at *;generalize fZ l=C at *;have HALL:=hid hall;have HLU:=hid hv';have HT:=hid hT;have HK:Hid (aD mode=true):=hid hk;have hl2:(l.length:Int)<=200:=by omega
   clear hT hall hm hv';go_enter func120,ntmps120;go_wp2_with (go_at_call 28;refine(dF _ _).mono ?_;rintro e w' ⟨rfl,rfl⟩)
   refine(HALL.out _ HT.out HLU.out).mono ?_;rintro r w1 ⟨rfl,hb⟩;have B1:=hid hb;clear hb;go_wp2;go_ret3;exact⟨rfl,B1.out⟩
theorem Tf {x y z mode:Int}(hk:aD mode=false):qv x y z mode=0/\vO x y z mode=false/\dv mode=1:=by unfold qv vO dv;rw[hk];exact⟨rfl,rfl,rfl⟩
theorem J5 {x y z mode:Int}(hk:aD mode=true):qv x y z mode=lh x y z mode/\vO x y z mode=mf x y z/\dv mode=0:=by unfold qv vO dv;rw[hk];exact⟨rfl,rfl,rfl⟩
theorem wJ {x y mode:Int}(hk:aD mode=true):kL x y mode=eZ [x,y] mode/\nV x y mode=fZ [x,y]:=by
 unfold kL nV;rw[hk];exact⟨rfl,rfl⟩
theorem Lx (x y z:Int) (x0:0<=x) (x1:x<=18446744073709551615) (y0:0<=y) (y1:y<=18446744073709551615) (z0:0<=z) (z1:z<=18446744073709551615):
  ∃q,q<=10000/\(eN x y z).m<2^q/\ -4000<=(eN x y z).e/\(eN x y z).e<=14000:=by
 obtain⟨p1,p2,p3⟩:=wX x y x0 x1 y0 y1;obtain⟨f1,f2,f3,f4,-⟩:=dR z z0 z1;unfold eN;generalize dq x y=P at *;generalize ai z=V at *;obtain⟨T,hT⟩:∃T:Nat,T=3000:=⟨_,rfl⟩;have e1:0<=P.e+(T:Int):=by omega
 have e2:0<=V.e+(T:Int):=by omega
 have hv:=qt P V T e1 e2;have he:=uW e1 e2;have hn:=mw P V
 have hb:((plus P V).vl T).natAbs<2^(T+6108):=by
  rw[hv]
  have a:(P.vl T).natAbs<2^(T+6107):=by
   rw[nI,show T+6107=106+(T+6001) by omega,aB];exact aX (cS p1 (az _)) (cZ _ (aG (by decide) (by omega)))
  have b:(V.vl T).natAbs<2^(T+6107):=by
   rw[nI,show T+6107=53+(T+6054) by omega,aB];exact aX (cS f2 (az _)) (cZ _ (aG (by decide) (by omega)))
  have c:2^(T+6108)=2*2^(T+6107):=by rw[show T+6108=(T+6107)+1 by omega,bH,aW]
  rw[c];generalize 2^(T+6107)=Z at *;omega
 rw[nI]at hb;generalize plus P V=S at *;refine⟨T+6108,by omega,?_,by omega,?_⟩
 .have :=az (S.e+(T:Int)).toNat
  exact de (ug _ this) hb
 .by_cases hz:S.m=0
  .rcases hn with h|h
   .rw[h];decide
   .omega
  .have :2^(S.e+(T:Int)).toNat<=S.m*2^(S.e+(T:Int)).toNat:=Fk _ (by omega)
   have :=(lW (by decide:1<2)).1 (de this hb);omega
def xr (b:Bool):Int:=if b=true then 9223372036854775808 else 0
theorem ab9 (neg:Bool) (w:World):Calls prog 195 #[.bool neg] w fun e w'=>e=.returned (.int .u64 (xr neg))/\w=w':=KL neg w
theorem Dt (x y z mode:Int) (x0:0<=x) (x1:x<=18446744073709551615) (y0:0<=y) (y1:y<=18446744073709551615) (z0:0<=z) (z1:z<=18446744073709551615) (hk:aD mode=true) (k5:(ak z==5)=false) (k4:(ak z==4)=false) (hsb:gA x y=false) (R:Int) (C:Bool) (h:((eN x y z).m≠0/\R=aE (eN x y z) mode/\C=aU (eN x y z))\/((eN x y z).m=0/\(dq x y).m=0/\R=eZ [cX x y,z] mode/\C=fZ [cX x y,z])\/((eN x y z).m=0/\(dq x y).m≠0/\R=xr (mode==2)/\C=false)) (w:World) (hT:aQ w):
  Calls prog 149 #[.int .u64 x,.int .u64 y,.int .u64 z,.int .i64 mode] w fun e w'=>e=.returned (.tuple #[.int .u64 R,.bool C,.int .i64 0])/\Below w.heap.size w w':=by
 have e3:dv mode=0:=(@J5 x y z mode hk).2.2;have hm:0<=mode/\mode<=4:=by unfold aD at hk;simpa using hk
 have gb:=ri x y;have hsp:=fun w'=>Dp x y x0 x1 y0 y1 w'
 rw[hsb]at hsp;have hex:=fun w' h=>Al x y x0 x1 y0 y1 w' h
 have hsg:=fun w'=>vF x y x0 x1 y0 y1 w'
 have hcl:=fun w'=>fB z z0 z1 w'
 have hval:=fun w' h=>ia z z0 z1 w' h
 have had2:=fun w' h=>sY (cX x y) z mode gb.1 (by omega) z0 z1 w' h
 rw[e3,(wJ hk).1,(wJ hk).2]at had2;obtain⟨p1,p2,p3⟩:=wX x y x0 x1 y0 y1;obtain⟨f1,f2,f3,f4,-⟩:=dR z z0 z1;have hpl:=fun v1 v2 w' h0 h1 h2=>pW v1 v2 (dq x y) (ai z) 106 w' h0 h1 h2 p1 (l_ f2 (by omega)) (by omega) (by omega) (by omega) (by omega) (by omega)
 obtain⟨q,hq,s1,s2,s3⟩:=Lx x y z x0 x1 y0 y1 z0 z1;have hz:=vX (mw (dq x y) (ai z));have hnum:=fun v w' h=>kS v (eN x y z) q mode w' h s1 (by omega) (by omega) (by omega) hz hm.1 hm.2
 have hfs:eN x y z=plus (dq x y) (ai z):=rfl;rw[<-hfs]at hpl;clear hfs e3 gb p1 p2 p3 f1 f2 f3 f4 s1 s2 s3 hz hq hm hsb;generalize eZ [cX x y,z] mode=A2 at *;generalize fZ [cX x y,z]=C2 at *;generalize gm x y=sv at *;generalize cX x y=sg at *;generalize aE (eN x y z) mode=nR at *;generalize aU (eN x y z)=nC at *;generalize eN x y z=S at *;generalize dq x y=P at *;generalize ai z=vz at *;generalize ak z=cz at *;have HSP:=hid hsp;have HEX:=hid hex;have HSG:=hid hsg;have HNUM:=hid hnum;have HCL:=hid hcl;have HVAL:=hid hval;have HA2:=hid had2;have HPL:=hid hpl;have HT:=hid hT;have HK:Hid (aD mode=true):=hid hk;clear hsp hex hsg hnum hcl hval had2 hpl hT;have HW:=hid h;clear h;go_enter func149,ntmps149;go_wp2_with (first|(go_at_call 28;refine(dF _ _).mono ?_;rintro e w' ⟨rfl,rfl⟩)|(go_at_call 191;(with_reducible refine(HSP.out _).mono ?_);rintro e w' ⟨rfl,rfl⟩)|(go_at_call 8;(with_reducible refine(HCL.out _).mono ?_);rintro e w' ⟨rfl,rfl⟩))
 refine(HEX.out _ HT.out).mono ?_;rintro r w1 ⟨v1,rfl,⟨s1,rfl,h1⟩,hb⟩;obtain⟨a1,n1,c1,rfl,l1,l2,lz⟩:=fD h1;have LZ:=hid lz;have V1:=hid h1;have B1:Hid (Below w.heap.size w w1):=hid hb;clear h1 hb lz;go_wp2_with fail
 obtain⟨V,hV⟩:∃V,V=w1.alloc (.cells #[.bool P.neg,.slice a1 n1 c1,.int .i64 P.e] 68):=⟨_,rfl⟩;have BV:=hid (B1.out.alloc B1.out.size (.cells #[.bool P.neg,.slice a1 n1 c1,.int .i64 P.e] 68));have XV:=hid (ax.new w1 (.bool P.neg) (.slice a1 n1 c1) (.int .i64 P.e) 68);have VV:=hid (V1.out.alloc (.cells #[.bool P.neg,.slice a1 n1 c1,.int .i64 P.e] 68));rw[<-hV]at BV XV VV ⊢;have hXlt:=XV.out.lt;clear hV;obtain⟨q0,q1,q2,f0,f1,f2⟩:=XV.out.cells
 go_region_with (first
  |(go_at_call 79;refine(HVAL.out _ (HT.out.below (by have :=BV.out;have :=BV.out.size;go_grown))).mono ?_;rintro r w2 ⟨v2,rfl,⟨s2,rfl,hv⟩,hb⟩;obtain⟨a2,n2,c2,rfl⟩:=hv.shape;have VO2:=hid hv;have R2:=hid (show Below V.heap.size V w2 from af (by go_grown) le0 hb)
    try have Z2:=hid (ax.below (ax.drew (ax.new V (.bool false) (.slice none 0 0) (.int .i64 0) 68)) hb)
    have R2s:V.heap.size<=w2.heap.size:=R2.out.size;have X2:=XV.out.below R2.out;have X2l:=X2.lt;obtain⟨q0,q1,q2,f0,f1,f2⟩:=X2.cells;clear hv hb X2)
  |(go_at_call 194;refine(HPL.out _ _ _ (HT.out.below (by have hBB:=BV.out.trans (R2.out.mono BV.out.size);have :=hBB.size;go_grown)) ⟨_,rfl,(VV.out.below (by have :=R2.out;go_grown))⟩ ⟨_,rfl,(VO2.out.below (by go_grown))⟩).mono ?_;rintro r w3 ⟨v3,rfl,⟨s3,rfl,hv⟩,hb⟩;obtain⟨a3,n3,c3,rfl,m1,m2,mz⟩:=fD hv;have VZ3:=hid hv;have MZ:=hid mz;have R3:=hid (show Below V.heap.size V w3 from af (by have :=R2.out;go_grown) le0 hb)
    first
     |(have Z3:=hid (ax.below (ax.new w2 (.bool false) (.slice none 0 0) (.int .i64 0) 68) hb)
       have Z3l:=Z3.out.lt;obtain⟨p0,p1,p2,g0,g1,g2⟩:=Z3.out.cells)
     |(have Z3:=hid (ax.below Z2.out hb)
       have Z3l:=Z3.out.lt;obtain⟨p0,p1,p2,g0,g1,g2⟩:=Z3.out.cells)
     |skip
    clear hv hb mz))
 all_goals
  have R3s:V.heap.size<=w3.heap.size:=R3.out.size;have X3:=hid (XV.out.below R3.out);obtain⟨y0,y1,y2,y3,y4,y5⟩:=X3.out.cells;have hXl:=X3.out.lt;have B3:=hid (BV.out.trans (R3.out.mono BV.out.size));rcases HW.out with⟨h1,rfl,rfl⟩|⟨h1,h2,rfl,rfl⟩|⟨h1,h2,rfl,rfl⟩
  .have hn3:1<=n3:=by have :=MZ.out;omega
   go_wp2_with fail
   first
    |((with_reducible refine(HNUM.out _ (w3.alloc _) ?_).mono ?_)
      .exact⟨_,rfl,VZ3.out.alloc _⟩
      rintro r w4 ⟨rfl,hb⟩;have B4:Hid (Below w.heap.size w w4):=hid (af (B3.out.alloc B3.out.size _) le0 hb))
    |((with_reducible refine(HNUM.out _ (((w3.setCell _ _).setCell _ _).setCell _ _) ?_).mono ?_)
      .exact⟨_,rfl,VZ3.out.setD Z3.out⟩
      rintro r w4 ⟨rfl,hb⟩;have B4:Hid (Below w.heap.size w w4):=hid (af (cJ B3.out (by have :=BV.out.size;omega) _ _ _) le0 hb))
   clear hb;go_wp2;go_ret3;exact⟨rfl,B4.out⟩
  .have hn3:n3=0:=by have :=MZ.out;omega
   have hn1:n1=0:=by have :=LZ.out;omega
   subst hn3;subst hn1;go_wp2_with (go_at_call 193;(with_reducible refine(HSG.out _).mono ?_);rintro e w' ⟨rfl,rfl⟩)
   first
    |((with_reducible refine(HA2.out (w3.alloc _) ?_).mono ?_)
      .exact HT.out.below (B3.out.alloc B3.out.size _)
      rintro r w4 ⟨rfl,hb⟩;have B4:Hid (Below w.heap.size w w4):=hid (af (B3.out.alloc B3.out.size _) le0 hb))
    |((with_reducible refine(HA2.out (((w3.setCell _ _).setCell _ _).setCell _ _) ?_).mono ?_)
      .exact HT.out.below (cJ B3.out (by have :=BV.out.size;omega) _ _ _)
      rintro r w4 ⟨rfl,hb⟩;have B4:Hid (Below w.heap.size w w4):=hid (af (cJ B3.out (by have :=BV.out.size;omega) _ _ _) le0 hb))
   clear hb;go_wp2;go_ret3;exact⟨rfl,B4.out⟩
  .have hn3:n3=0:=by have :=MZ.out;omega
   have hn1:1<=n1:=by have :=LZ.out;omega
   have hn1b:((n1:Int)==0)=false:=by rw[aH];omega
   subst hn3;go_wp2_with (go_at_call 195;refine(ab9 _ _).mono ?_;rintro e w' ⟨rfl,rfl⟩)
   go_ret3
   first
    |exact⟨rfl,B3.out.alloc B3.out.size _⟩
    |exact⟨rfl,cJ B3.out (by have :=BV.out.size;omega) _ _ _⟩
theorem PD (x y z mode:Int) (x0:0<=x) (x1:x<=18446744073709551615) (y0:0<=y) (y1:y<=18446744073709551615) (z0:0<=z) (z1:z<=18446744073709551615) (w:World) (hT:aQ w):
  Calls prog 149 #[.int .u64 x,.int .u64 y,.int .u64 z,.int .i64 mode] w fun e w'=>e=.returned (.tuple #[.int .u64 (qv x y z mode),.bool (vO x y z mode),.int .i64 (dv mode)])/\Below w.heap.size w w':=by
 cases hk:aD mode
 .obtain⟨e1,e2,e3⟩:= @Tf x y z mode hk
  rw[e1,e2,e3];clear e1 e2 e3 hT;go_enter func149,ntmps149;go_wp2_with (go_at_call 28;refine(dF _ _).mono ?_;rintro e w' ⟨rfl,rfl⟩)
  go_ret3;exact⟨rfl,Below.refl _ _⟩
 .obtain⟨e1,e2,e3⟩:= @J5 x y z mode hk
  rw[e1,e2,e3];clear e1 e2;have hm:0<=mode/\mode<=4:=by unfold aD at hk;simpa using hk
  have sb:=Dm x y;have gb:=ri x y;have hsp:=fun w'=>Dp x y x0 x1 y0 y1 w'
  have hex:=fun w' h=>Al x y x0 x1 y0 y1 w' h
  have hsg:=fun w'=>vF x y x0 x1 y0 y1 w'
  have hcl:=fun w'=>fB z z0 z1 w'
  have hval:=fun w' h=>ia z z0 z1 w' h
  have had1:=fun w' h=>sY (gm x y) z mode sb.1 sb.2 z0 z1 w' h
  have had2:=fun w' h=>sY (cX x y) z mode gb.1 (by omega) z0 z1 w' h
  rw[e3]at had1 had2;rw[(wJ hk).1,(wJ hk).2]at had1 had2;obtain⟨p1,p2,p3⟩:=wX x y x0 x1 y0 y1;obtain⟨f1,f2,f3,f4,-⟩:=dR z z0 z1;have hpl:=fun v1 v2 w' h0 h1 h2=>pW v1 v2 (dq x y) (ai z) 106 w' h0 h1 h2 p1 (l_ f2 (by omega)) (by omega) (by omega) (by omega) (by omega) (by omega)
  obtain⟨q,hq,s1,s2,s3⟩:=Lx x y z x0 x1 y0 y1 z0 z1;have hz:=vX (mw (dq x y) (ai z));have hnum:=fun v w' h=>kS v (eN x y z) q mode w' h s1 (by omega) (by omega) (by omega) hz hm.1 hm.2
  have hfs:eN x y z=plus (dq x y) (ai z):=rfl;rw[<-hfs]at hpl
  have hcase:((ak z==5)=true/\lh x y z mode=9221120237041090560/\mf x y z=false)\/
    ((ak z==5)=false/\gA x y=true/\(gm x y==9221120237041090560)=true/\lh x y z mode=9221120237041090560/\mf x y z=false)\/
    ((ak z==5)=false/\gA x y=true/\(gm x y==9221120237041090560)=false/\lh x y z mode=eZ [gm x y,z] mode/\mf x y z=fZ [gm x y,z])\/
    ((ak z==5)=false/\gA x y=false/\(ak z==4)=true/\lh x y z mode=z/\mf x y z=false)\/
    ((ak z==5)=false/\gA x y=false/\(ak z==4)=false/\(eN x y z).m≠0/\lh x y z mode=aE (eN x y z) mode/\mf x y z=aU (eN x y z))\/
    ((ak z==5)=false/\gA x y=false/\(ak z==4)=false/\(eN x y z).m=0/\(dq x y).m=0/\lh x y z mode=eZ [cX x y,z] mode/\mf x y z=fZ [cX x y,z])\/
    ((ak z==5)=false/\gA x y=false/\(ak z==4)=false/\(eN x y z).m=0/\(dq x y).m≠0/\lh x y z mode=xr (mode==2)/\mf x y z=false):=by
   unfold lh mf;by_cases k5:ak z=5
   .left;simp [k5]
   .right
    cases hsb:gA x y
    .right;right
     by_cases k4:ak z=4
     .left;simp [k4]
     .right
      by_cases h1:(eN x y z).m=0
      .right
       by_cases h2:(dq x y).m=0
       .left;simp [k5,k4,h1,h2]
       .right;simp [k5,k4,h1,h2,xr]
      .left;simp [k5,k4,h1]
    .by_cases hv:gm x y=9221120237041090560
     .left;simp [k5,hv]
     .right;left;simp [k5,hv]
  have P1:=fun h5 h4 hs h1=>Dt x y z mode x0 x1 y0 y1 z0 z1 hk h5 h4 hs _ _ (Or.inl ⟨h1,rfl,rfl⟩) w hT
  have P2:=fun h5 h4 hs h1 h2=>Dt x y z mode x0 x1 y0 y1 z0 z1 hk h5 h4 hs _ _ (Or.inr (Or.inl ⟨h1,h2,rfl,rfl⟩)) w hT
  have P3:=fun h5 h4 hs h1 h2=>Dt x y z mode x0 x1 y0 y1 z0 z1 hk h5 h4 hs _ _ (Or.inr (Or.inr ⟨h1,h2,rfl,rfl⟩)) w hT
  rcases hcase with hcase|hcase|hcase|hcase|⟨k5,hsb,k4,h1,hV,hC⟩|⟨k5,hsb,k4,h1,h2,hV,hC⟩|⟨k5,hsb,k4,h1,h2,hV,hC⟩
  rotate_left 4
  .rw[hV,hC];exact P1 k5 k4 hsb h1
  .rw[hV,hC];exact P2 k5 k4 hsb h1 h2
  .rw[hV,hC];exact P3 k5 k4 hsb h1 h2
  all_goals clear P1 P2 P3
  all_goals
   clear hfs e3 sb gb p1 p2 p3 f1 f2 f3 f4 s1 s2 s3 hz hq hm;generalize lh x y z mode=V at *;generalize mf x y z=C at *;generalize eZ [gm x y,z] mode=A1 at *;generalize fZ [gm x y,z]=C1 at *;generalize eZ [cX x y,z] mode=A2 at *;generalize fZ [cX x y,z]=C2 at *;generalize gm x y=sv at *;generalize gA x y=sb at *;generalize cX x y=sg at *;generalize aE (eN x y z) mode=nR at *;generalize aU (eN x y z)=nC at *;generalize eN x y z=S at *;generalize dq x y=P at *;generalize ai z=vz at *;generalize ak z=cz at *;have HSP:=hid hsp;have HEX:=hid hex;have HSG:=hid hsg;have HNUM:=hid hnum;have HCL:=hid hcl;have HVAL:=hid hval;have HA1:=hid had1;have HA2:=hid had2;have HPL:=hid hpl;have HT:=hid hT;have HK:Hid (aD mode=true):=hid hk;clear hsp hex hsg hnum hcl hval had1 had2 hpl hT
  .obtain⟨k5,rfl,rfl⟩:=hcase
   cases sb
   all_goals
    go_enter func149,ntmps149;go_wp2_with (first|(go_at_call 28;refine(dF _ _).mono ?_;rintro e w' ⟨rfl,rfl⟩)|(go_at_call 191;(with_reducible refine(HSP.out _).mono ?_);rintro e w' ⟨rfl,rfl⟩)|(go_at_call 8;(with_reducible refine(HCL.out _).mono ?_);rintro e w' ⟨rfl,rfl⟩))
    go_ret3;exact⟨rfl,Below.refl _ _⟩
  .obtain⟨k5,rfl,hv,rfl,rfl⟩:=hcase
   go_enter func149,ntmps149;go_wp2_with (first|(go_at_call 28;refine(dF _ _).mono ?_;rintro e w' ⟨rfl,rfl⟩)|(go_at_call 191;(with_reducible refine(HSP.out _).mono ?_);rintro e w' ⟨rfl,rfl⟩)|(go_at_call 8;(with_reducible refine(HCL.out _).mono ?_);rintro e w' ⟨rfl,rfl⟩))
   go_ret3;exact⟨rfl,Below.refl _ _⟩
  .obtain⟨k5,rfl,hv,rfl,rfl⟩:=hcase
   go_enter func149,ntmps149;go_wp2_with (first|(go_at_call 28;refine(dF _ _).mono ?_;rintro e w' ⟨rfl,rfl⟩)|(go_at_call 191;(with_reducible refine(HSP.out _).mono ?_);rintro e w' ⟨rfl,rfl⟩)|(go_at_call 8;(with_reducible refine(HCL.out _).mono ?_);rintro e w' ⟨rfl,rfl⟩))
   refine(HA1.out _ HT.out).mono ?_;rintro r w1 ⟨rfl,hb⟩;have B1:=hid hb;clear hb;go_wp2;go_ret3;exact⟨rfl,B1.out⟩
  .obtain⟨k5,rfl,k4,rfl,rfl⟩:=hcase
   go_enter func149,ntmps149;go_wp2_with (first|(go_at_call 28;refine(dF _ _).mono ?_;rintro e w' ⟨rfl,rfl⟩)|(go_at_call 191;(with_reducible refine(HSP.out _).mono ?_);rintro e w' ⟨rfl,rfl⟩)|(go_at_call 8;(with_reducible refine(HCL.out _).mono ?_);rintro e w' ⟨rfl,rfl⟩))
   go_ret3;exact⟨rfl,Below.refl _ _⟩
