import Derived.Test.YtofdjfdnckmmmaaGreatDoorRo
import Derived.Test.YtofdjfdnckmmmaaGreatDoorDo
set_option linter.all false
set_option maxHeartbeats 8000000
set_option maxRecDepth 100000
open Go.Proofs.Tryz
open Go.Lib (hid decDigits)
namespace Go.Proofs.YtofdjfdnckmmmaaGreatDoor
open Go.RowKit Nt Fm Fl
theorem ZP (p:Int) (w:World) (h0: -100000<=p) (h1:p<=100000) (hT:b_ w):
  Calls prog 73 #[.int .i64 p] w fun e w'=>e=.returned (.string ⟨(Lib.itoa p).toArray⟩)/\Below w.heap.size w w':=by
 have h:=Any.strconv_Itoa Tryz.laysItoa p (by omega) (by omega) w hT;rw[I5]at h;refine h.mono ?_;rintro e w' ⟨rfl,k,os,rfl⟩;exact⟨rfl,below_grown w k os⟩
theorem Bc (p:Int) (h:p.natAbs<100000):(Lib.itoa p).length<=6:=by
 have h1:=nt 5 p.natAbs (by omega) (by omega);unfold Lib.itoa;split
 .rename_i hp
  simp only[ez];omega
 .rename_i hp
  have :(decDigits p.natAbs).length<=6:=by omega
  first|omega|(rw[show p.toNat=p.natAbs by omega];omega)
theorem V0 (a:Nat) (h:a<4294967296):bits .and .u32 (a:Int) 15=((a%16:Nat):Int):=by
 have h1:=bits_and_u32_nat a 15 h (by decide);rw[show((15:Nat):Int)=15 from rfl]at h1;rw[h1,show(15:Nat)=2^4-1 by decide,zN]
theorem IW (b:UInt8) (hb:b.toNat<128):Utf8.encode (wrap32 ((b.toNat:Nat):Int))=⟨#[b]⟩:=by
 have e:wrap32 ((b.toNat:Nat):Int)=(b.toNat:Int):=by unfold wrap32;omega
 rw[e];have v:Utf8.valid (b.toNat:Int)=true:=by simp [Utf8.valid];omega
 simp [Utf8.encode,v,hb]
theorem ac3 (n:Nat) (h:n<16):∀h:n<(⟨#[48,49,50,51,52,53,54,55,56,57,97,98,99,100,101,102]⟩:ByteArray).size,(⟨#[48,49,50,51,52,53,54,55,56,57,97,98,99,100,101,102]⟩:ByteArray)[n]'h=kK n/\(kK n).toNat<128:=by
 have :n=0\/n=1\/n=2\/n=3\/n=4\/n=5\/n=6\/n=7\/n=8\/n=9\/n=10\/n=11\/n=12\/n=13\/n=14\/n=15:=by omega
 rcases this with rfl|rfl|rfl|rfl|rfl|rfl|rfl|rfl|rfl|rfl|rfl|rfl|rfl|rfl|rfl|rfl
 .intro _;exact⟨rfl,by decide⟩
 .intro _;exact⟨rfl,by decide⟩
 .intro _;exact⟨rfl,by decide⟩
 .intro _;exact⟨rfl,by decide⟩
 .intro _;exact⟨rfl,by decide⟩
 .intro _;exact⟨rfl,by decide⟩
 .intro _;exact⟨rfl,by decide⟩
 .intro _;exact⟨rfl,by decide⟩
 .intro _;exact⟨rfl,by decide⟩
 .intro _;exact⟨rfl,by decide⟩
 .intro _;exact⟨rfl,by decide⟩
 .intro _;exact⟨rfl,by decide⟩
 .intro _;exact⟨rfl,by decide⟩
 .intro _;exact⟨rfl,by decide⟩
 .intro _;exact⟨rfl,by decide⟩
 .intro _;exact⟨rfl,by decide⟩
theorem IK (n:Nat) (hn:n<16):∀h:n<(⟨#[48,49,50,51,52,53,54,55,56,57,97,98,99,100,101,102]⟩:ByteArray).size,Utf8.encode (wrap32 (((⟨#[48,49,50,51,52,53,54,55,56,57,97,98,99,100,101,102]⟩:ByteArray)[n]'h).toNat:Int))=⟨#[kK n]⟩:=by
 intro h;obtain⟨e1,e2⟩:=ac3 n hn h;rw[e1,IW _ e2]
theorem PH (x:Int) (x0:0<=x) (x1:x<=18446744073709551615) (v:Value) (d:D) (places:Nat) (w:World) (hd:DV w v d) (hm:d.m<2^200) (e0: -3000<=d.e) (e1:d.e<=3000) (hp:places<=100) (hbl:aC d.m<=4*places+1) (hT10:b_ w) (hz:d.m≠0):
  Calls prog 87 #[.int .u64 x,v,.int .i64 (places:Int)] w fun e w'=>e=.returned (.string ⟨(fG x d places).toArray⟩)/\Below w.heap.size w w':=by
 obtain⟨s,rfl,hs⟩:=hd;obtain⟨sa,sn,sc,rfl,hl1,hl2,hz'⟩:=fD hs;unfold fG;rw[ag hz]
 have hn:1<=sn:=by
  rcases hz' with⟨h,-⟩|⟨-,h⟩
  .exact absurd h hz
  .exact h
 have hnz:((sn:Int)==0)=false:=by rw[aH];omega
 have LN:=hid (fun w' (h:NV w' (.slice sa sn sc) d.m)=>lx _ d.m 200 w' h hm (by omega));obtain⟨L,hL⟩:∃L,L=aC d.m:=⟨_,rfl⟩;have hL1:1<=L:=by rw[hL];unfold aC;rw[ag hz];omega
 have hL2:L<=200:=by rw[hL];exact nF hm
 obtain⟨sh,hsh⟩:∃sh,sh=4*places-(aC d.m-1):=⟨_,rfl⟩;have LF:=hid (fun X w' (h:NV w' (.slice sa sn sc) d.m) (hX:X=(sh:Int))=>f_ _ d.m sh 200 X w' h hX hm (by omega) (by omega));obtain⟨M,hM⟩:∃M,M=d.m*2^sh:=⟨_,rfl⟩;rw[<-hsh,<-hM];rw[<-hM]at LF;rw[<-hL]at LN;have hpp:cO d=(L:Int)+d.e-1:=by unfold cO;rw[hL]
 obtain⟨p,hpq⟩:∃p,p=cO d:=⟨_,rfl⟩;rw[<-hpq]at hpp;rw[<-hpq];have IT:=hid (fun w' h=>ZP p w' (by omega) (by omega) h);have hil:=Bc p (by omega);have hsh2:(sh:Int)=d.e-p+4*(places:Int):=by omega
 have hMlt:M≠0:=by rw[hM];exact Nat.ne_of_gt (fm (Nat.pos_of_ne_zero hz) (az _))
 have HS:=hid hs;have XC:Hid (ax (w.alloc (.cells #[.bool d.neg,.slice sa sn sc,.int .i64 d.e] 68)) w.heap.size 68 (.bool d.neg) (.slice sa sn sc) (.int .i64 d.e)):=hid (ax.new w (.bool d.neg) (.slice sa sn sc) (.int .i64 d.e) 68);have B0:Hid (Below w.heap.size w (w.alloc (.cells #[.bool d.neg,.slice sa sn sc,.int .i64 d.e] 68))):=hid (br0.alloc le0 _);have H0:=hid (HS.out.alloc (.cells #[.bool d.neg,.slice sa sn sc,.int .i64 d.e] 68));have T0:=hid (hT10.below (br0.alloc le0 (.cells #[.bool d.neg,.slice sa sn sc,.int .i64 d.e] 68)));have hp2:d.e-p+4*(places:Int)=(sh:Int):=by omega
 have hwL:IntKind.i64.wrap ((L:Int)+d.e)=(L:Int)+d.e:=IntWalk.i64_in _ (by omega);have hwp:IntKind.i64.wrap ((L:Int)+d.e-1)=p:=by rw[IntWalk.i64_in _ (by omega)];omega
 obtain⟨IS,hIS⟩:∃IS:ByteArray,IS=⟨(Lib.itoa p).toArray⟩:=⟨_,rfl⟩;rw[<-hIS]at IT
 have zI:IS.size<=6:=by
  have :IS.size=(Lib.itoa p).length:=by rw[hIS];rfl
  omega
 have HIS:=hid hIS;have hpb: -4000<=p/\p<=4000:=by omega
 obtain⟨RS,hRS⟩:∃RS:ByteArray,RS=⟨(fq x++([49]++(if 0<places then [46] else [])++ef M places++il p)).toArray⟩:=⟨_,rfl⟩;rw[<-hRS]
 have hsg:(9223372036854775808<=x/\(x/9223372036854775808==1)=true/\Hid (fq x=[45,48,120]))\/(¬9223372036854775808<=x/\(x/9223372036854775808==1)=false/\Hid (fq x=[48,120])):=by
  by_cases h:9223372036854775808<=x
  .exact Or.inl ⟨h,by rw[dV];omega,hid (by unfold fq;rw[aj h])⟩
  .exact Or.inr ⟨h,by rw[aH];omega,hid (by unfold fq;rw[ag h])⟩
 have HR:=hid hRS;clear hRS hL hsh hM hpq hpp hsh2 hbl hm hs hT10 hz hil hIS hz';by_cases hp0:0<places
 .have hp0i:(0:Int)<(places:Int):=by omega
  have HP0:=hid hp0;rcases hsg with⟨hs0,hh,HPX⟩|⟨hs0,hh,HPX⟩
  all_goals
   go_enter func87,ntmps87;go_wp2_with fail
   obtain⟨V,hV⟩:∃V,V=w.alloc (.cells #[.bool d.neg,.slice sa sn sc,.int .i64 d.e] 68):=⟨_,rfl⟩;rw[<-hV]at XC B0 H0 T0;rw[<-hV];clear hV;replace XC:=hid XC.out.drew;replace B0:=hid B0.out.drew;replace H0:=hid H0.out.drew;replace T0:Hid (b_ V.drew):=hid (T0.out.below br0.drew);obtain⟨p0,p1,p2,-,-,-⟩:=XC.out.cells
   go_region_held3 (fun w'=>w'.cell? ⟨w.heap.size,1,none⟩=some (.slice sa sn sc)/\w'.cell? ⟨w.heap.size,2,none⟩=some (.int .i64 d.e))
    (first
     |exact⟨p1,p2⟩
     |(go_keep;done))
    (first
     |(go_at_call 59;refine(LN.out _ H0.out).mono ?_;rintro e w' ⟨rfl,rfl⟩))
   try simp only[hwL,hwp]
   clear hwp hwL;go_wp2_with fail
   try rw[hp2]
   refine(LF.out _ _ H0.out (by omega)).mono ?_;rintro r w2 ⟨v2,rfl,hv,hb⟩;have B2:=bt0 B0 hb;have T2:=hid (T0.out.below hb);obtain⟨l,k1,k2,⟨k3,ao,cap,rfl,k5,k6,k7⟩⟩:=hv
   have hl0:0<l.length:=by
    rcases fl l.length with h|h
    .rw[gp.1 h]at k2;exact absurd k2.symm hMlt
    .exact h
   obtain⟨bm,om,rfl,kb,kc⟩:∃b off,ao=some ⟨b,off,none⟩/\b<w2.heap.size/\∀i,i<l.length->w2.cell? ⟨b,off+i,none⟩=some (.int .u32 ((l.getD i 0:Nat):Int)):=by
    rcases k7 with h|⟨b,off,h1,h2,h3⟩
    .omega
    .exact⟨b,off,h1,h2,h3⟩
   have NIB:Hid (∀k,M/16^k%16=(l.getD (k/8) 0)/2^(4*(k%8))%16):=hid (fun k=>by rw[<-k2];exact J9 k3 k);have HKC:=hid kc;have HK3:=hid k3;unfold maxLen at k6;clear hb p0 p1 p2 k2 kc k3 k1 k7 hMlt XC H0 B0 T0;go_wp2_with fail
   go_loopw [7,10] (fun ov iv wr=>wr=w2/\∃(k:Nat) (iz:Int) (O:ByteArray),k<=places/\iz<=(k:Int)-1/\(k:Int)-1<=iz/\iv=.int .i64 iz/\ov=.string O/\O.size+k<=5+places/\Hid (∃o:List UInt8,O=⟨o.toArray⟩/\o++ef M k=fq x++[49,46]++ef M places)) (fun _ iv _=>(intOf iv+1).toNat)
   case atStart=>exact⟨rfl,places,(places:Int)-1,_,ae _,by omega,by omega,rfl,rfl,by first|(show 5+_<=_;omega)|(show 4+_<=_;omega)|(show 3+_<=_;omega),hid ⟨fq x++[49,46],by rw[HPX.out];rfl,rfl⟩⟩
   case round=>
    obtain⟨rfl,k,iz,O,hk,hi1,hi2,rfl,rfl,hO,HO⟩:=hrel;by_cases hk0:k=0
    .obtain rfl:iz= -1:=by omega
     subst hk0;clear hi1 hi2 hk
     have HF:Hid (∀es:List UInt8,RS=⟨(fq x++([49,46]++ef M places++il p)).toArray⟩/\O++⟨es.toArray⟩=⟨(fq x++[49,46]++ef M places++es).toArray⟩):=hid (fun es=>by
      obtain⟨o,a1,a2⟩:=HO.out;simp only[ef,n9]at a2;refine⟨by rw[HR.out,aj HP0.out];rfl,?_⟩;rw[a1,a2,ByteArray.mk_append_mk];try simp [ef])
     by_cases hpp:0<=p
     .have HPP:Hid (il p=[112,43]++Lib.itoa p):=hid (by unfold il;rw[aj hpp])
      go_wp2_with (go_at_call 73;refine(IT.out _ T2.out).mono ?_;rintro e w3 ⟨rfl,hb3⟩;have B3:=bt0 B2 hb3;clear hb3)
      go_ret;refine⟨?_,B3.out⟩;refine congrArg (fun z=>Ending.returned (Value.string z)) ?_;rw[(HF.out []).1,(HF.out [112,43]).2,HIS.out,HPP.out,ByteArray.mk_append_mk];simp
     .have HPP:Hid (il p=[112]++Lib.itoa p):=hid (by unfold il;rw[ag hpp])
      go_wp2_with (go_at_call 73;refine(IT.out _ T2.out).mono ?_;rintro e w3 ⟨rfl,hb3⟩;have B3:=bt0 B2 hb3;clear hb3)
      go_ret;refine⟨?_,B3.out⟩;refine congrArg (fun z=>Ending.returned (Value.string z)) ?_;rw[(HF.out []).1,(HF.out [112]).2,HIS.out,HPP.out,ByteArray.mk_append_mk];simp
    .obtain⟨j,rfl⟩:∃j,k=j+1:=⟨k-1,by omega⟩
     obtain rfl:iz=(j:Int):=by omega
     have hnib:=NIB.out j;by_cases hlt:j/8<l.length
     .have hc:=HKC.out (j/8) hlt
      have hlti:(j:Int)/8<(l.length:Int):=by omega
      obtain⟨X,hX⟩:∃X,X=l.getD (j/8) 0:=⟨_,rfl⟩;have hX1:X<4294967296:=by rw[hX];exact HK3.out.getD (j/8)
      rw[<-hX]at hc hnib;obtain⟨nb,hnb⟩:∃nb,nb=X/2^(4*(j%8))%16:=⟨_,rfl⟩;rw[<-hnb]at hnib;have hnb16:nb<16:=by rw[hnb];exact ew _ (by omega)
      have e1:bits BinOp.and IntKind.u32 ((X:Int)/2^(4*(j%8))) 15=(nb:Int):=by
       have h1:=V0 (X/2^(4*(j%8))) (de (iG _ _) hX1);rw[hnb,<-h1];congr 1
      have hch:=IK nb hnb16;obtain⟨C,hC⟩:∃C:ByteArray,C=⟨#[kK nb]⟩:=⟨_,rfl⟩;rw[<-hC]at hch;have hCz:C.size=1:=by rw[hC];rfl
      have HC:=hid hC;have HNIB:=hid hnib;clear hX hnb hC hnib;go_wp2;go_roundw
      case rel=>exact⟨by first|rfl|trivial,j,(j:Int)-1,O++C,by omega,by omega,by omega,by go_num,rfl,by rw[qL];omega,hid (by
       obtain⟨o,a1,a2⟩:=HO.out;refine⟨o++[kK nb],by rw[a1,HC.out,ByteArray.mk_append_mk],?_⟩;rw[<-a2,ef,HNIB.out];simp)⟩
      case measure=>simp [intOf] <;> omega
     .have hlti:¬(j:Int)/8<(l.length:Int):=by omega
      have hg0:l.getD (j/8) 0=0:=by
       simp [List.getD,kV (mP hlt)]
      rw[hg0,Nat.zero_div,Nat.zero_mod]at hnib;have hch:=IK 0 (by omega);obtain⟨C,hC⟩:∃C:ByteArray,C=⟨#[kK 0]⟩:=⟨_,rfl⟩;rw[<-hC]at hch;have hch0:Utf8.encode (wrap32 48)=C:=by rw[hC];exact IW 48 (by decide)
      have hch1:Utf8.encode 48=C:=by rw[<-hch0,show wrap32 48=48 by unfold wrap32;omega]
      have e1:bits BinOp.and IntKind.u32 0 15=0:=by decide
      have hCz:C.size=1:=by rw[hC];rfl
      have HC:=hid hC;have HNIB:=hid hnib;clear hC hnib hg0;go_wp2;go_roundw
      case rel=>exact⟨by first|rfl|trivial,j,(j:Int)-1,O++C,by omega,by omega,by omega,by go_num,rfl,by rw[qL];omega,hid (by
       obtain⟨o,a1,a2⟩:=HO.out;refine⟨o++[kK 0],by rw[a1,HC.out,ByteArray.mk_append_mk],?_⟩;rw[<-a2,ef,HNIB.out];simp)⟩
      case measure=>simp [intOf] <;> omega
 .obtain rfl:places=0:=by omega
  have HP0:=hid hp0;have hzz:((0:Nat):Int)=0:=rfl;rw[hzz]at hp2;rw[hzz];clear hp0 hzz;rcases hsg with⟨hs0,hh,HPX⟩|⟨hs0,hh,HPX⟩
  all_goals
   go_enter func87,ntmps87;go_wp2_with fail
   obtain⟨V,hV⟩:∃V,V=w.alloc (.cells #[.bool d.neg,.slice sa sn sc,.int .i64 d.e] 68):=⟨_,rfl⟩;rw[<-hV]at XC B0 H0 T0;rw[<-hV];clear hV;replace XC:=hid XC.out.drew;replace B0:=hid B0.out.drew;replace H0:=hid H0.out.drew;replace T0:Hid (b_ V.drew):=hid (T0.out.below br0.drew);obtain⟨p0,p1,p2,-,-,-⟩:=XC.out.cells
   go_region_held3 (fun w'=>w'.cell? ⟨w.heap.size,1,none⟩=some (.slice sa sn sc)/\w'.cell? ⟨w.heap.size,2,none⟩=some (.int .i64 d.e))
    (first
     |exact⟨p1,p2⟩
     |(go_keep;done))
    (first
     |(go_at_call 59;refine(LN.out _ H0.out).mono ?_;rintro e w' ⟨rfl,rfl⟩))
   try simp only[hwL,hwp]
   clear hwp hwL;go_wp2_with fail
   try rw[hp2]
   refine(LF.out _ _ H0.out (by omega)).mono ?_;rintro r w2 ⟨v2,rfl,hv,hb⟩;have B2:=bt0 B0 hb;have T2:=hid (T0.out.below hb);obtain⟨l,k1,k2,⟨k3,ao,cap,rfl,k5,k6,k7⟩⟩:=hv
   have hl0:0<l.length:=by
    rcases fl l.length with h|h
    .rw[gp.1 h]at k2;exact absurd k2.symm hMlt
    .exact h
   obtain⟨bm,om,rfl,kb,kc⟩:∃b off,ao=some ⟨b,off,none⟩/\b<w2.heap.size/\∀i,i<l.length->w2.cell? ⟨b,off+i,none⟩=some (.int .u32 ((l.getD i 0:Nat):Int)):=by
    rcases k7 with h|⟨b,off,h1,h2,h3⟩
    .omega
    .exact⟨b,off,h1,h2,h3⟩
   have NIB:Hid (∀k,M/16^k%16=(l.getD (k/8) 0)/2^(4*(k%8))%16):=hid (fun k=>by rw[<-k2];exact J9 k3 k);have HKC:=hid kc;have HK3:=hid k3;unfold maxLen at k6;clear hb p0 p1 p2 k2 kc k3 k1 k7 hMlt XC H0 B0 T0;go_wp2_with fail
   go_loopw [7,10] (fun ov iv wr=>wr=w2/\∃(k:Nat) (iz:Int) (O:ByteArray),k<=0/\iz<=(k:Int)-1/\(k:Int)-1<=iz/\iv=.int .i64 iz/\ov=.string O/\O.size+k<=5+0/\Hid (∃o:List UInt8,O=⟨o.toArray⟩/\o++ef M k=fq x++[49]++ef M 0)) (fun _ iv _=>(intOf iv+1).toNat)
   case atStart=>exact⟨rfl,0,-1,_,ae _,by omega,by omega,rfl,rfl,by first|(show 5+_<=_;omega)|(show 4+_<=_;omega)|(show 3+_<=_;omega),hid ⟨fq x++[49],by rw[HPX.out];rfl,rfl⟩⟩
   case round=>
    obtain⟨rfl,k,iz,O,hk,hi1,hi2,rfl,rfl,hO,HO⟩:=hrel;obtain rfl:k=0:=by omega
    obtain rfl:iz= -1:=by omega
    clear hi1 hi2 hk
    have HF:Hid (∀es:List UInt8,RS=⟨(fq x++([49]++ef M 0++il p)).toArray⟩/\O++⟨es.toArray⟩=⟨(fq x++[49]++ef M 0++es).toArray⟩):=hid (fun es=>by
     obtain⟨o,a1,a2⟩:=HO.out;simp only[ef,n9]at a2;refine⟨by rw[HR.out,ag HP0.out];rfl,?_⟩;rw[a1,a2,ByteArray.mk_append_mk];try simp [ef])
    by_cases hpp:0<=p
    .have HPP:Hid (il p=[112,43]++Lib.itoa p):=hid (by unfold il;rw[aj hpp])
     go_wp2_with (go_at_call 73;refine(IT.out _ T2.out).mono ?_;rintro e w3 ⟨rfl,hb3⟩;have B3:=bt0 B2 hb3;clear hb3)
     go_ret;refine⟨?_,B3.out⟩;refine congrArg (fun z=>Ending.returned (Value.string z)) ?_;rw[(HF.out []).1,(HF.out [112,43]).2,HIS.out,HPP.out,ByteArray.mk_append_mk];simp
    .have HPP:Hid (il p=[112]++Lib.itoa p):=hid (by unfold il;rw[ag hpp])
     go_wp2_with (go_at_call 73;refine(IT.out _ T2.out).mono ?_;rintro e w3 ⟨rfl,hb3⟩;have B3:=bt0 B2 hb3;clear hb3)
     go_ret;refine⟨?_,B3.out⟩;refine congrArg (fun z=>Ending.returned (Value.string z)) ?_;rw[(HF.out []).1,(HF.out [112]).2,HIS.out,HPP.out,ByteArray.mk_append_mk];simp
theorem Hb (x:Int) (x0:0<=x) (x1:x<=18446744073709551615) (v:Value) (d:D) (places:Nat) (w:World) (hd:DV w v d) (hm:d.m<2^200) (e0: -3000<=d.e) (e1:d.e<=3000) (hp:places<=100) (hbl:aC d.m<=4*places+1) (hT10:b_ w):
  Calls prog 87 #[.int .u64 x,v,.int .i64 (places:Int)] w fun e w'=>e=.returned (.string ⟨(fG x d places).toArray⟩)/\Below w.heap.size w w':=by
 by_cases hz0:d.m=0
 .obtain⟨s,rfl,hs⟩:=hd
  obtain⟨sa,sn,sc,rfl,hl1,hl2,hz'⟩:=fD hs
  obtain rfl:sn=0:=by
   rcases hz' with⟨-,h⟩|⟨h,-⟩
   .exact h
   .exact absurd hz0 h
  unfold fG;rw[aj hz0];obtain⟨RS,hRS⟩:∃RS:ByteArray,RS=⟨(fq x++([48]++(if 0<places then [46]++List.replicate places 48 else [])++[112,43,48])).toArray⟩:=⟨_,rfl⟩;rw[<-hRS]
  have hsg:(9223372036854775808<=x/\(x/9223372036854775808==1)=true/\Hid (fq x=[45,48,120]))\/(¬9223372036854775808<=x/\(x/9223372036854775808==1)=false/\Hid (fq x=[48,120])):=by
   by_cases h:9223372036854775808<=x
   .exact Or.inl ⟨h,by rw[dV];omega,hid (by unfold fq;rw[aj h])⟩
   .exact Or.inr ⟨h,by rw[aH];omega,hid (by unfold fq;rw[ag h])⟩
  have HR:=hid hRS;have RP:=hid (fun X w' (h:X=((places:Nat):Int))=>tj places X h (by omega) w');obtain⟨Z,hZ⟩:∃Z:ByteArray,Z=⟨(List.replicate places (48:UInt8)).toArray⟩:=⟨_,rfl⟩;rw[<-hZ]at RP
  have zZ:Z.size<=100:=by
   have :Z.size=places:=by rw[hZ];simp [ByteArray.size]
   omega
  have HZ:=hid hZ;have B0:Hid (Below w.heap.size w (w.alloc (.cells #[.bool d.neg,.slice sa 0 sc,.int .i64 d.e] 68))):=hid (br0.alloc le0 _);clear hRS hm hs hz' hbl hT10 hZ hz0;by_cases hp0:0<places
  .have hp0i:(0:Int)<(places:Int):=by omega
   have HP0:=hid hp0;clear hp0;rcases hsg with⟨hs0,hh,HPX⟩|⟨hs0,hh,HPX⟩
   all_goals
    go_enter func87,ntmps87;go_wp2_with (go_at_call 26;refine(RP.out _ _ rfl).mono ?_;rintro e w3 ⟨rfl,hb3⟩;have B3:=bt0 B0 hb3;clear hb3)
    go_ret;refine⟨congrArg (fun z=>Ending.returned (Value.string z)) ?_,B3.out⟩;rw[HR.out,aj HP0.out,HPX.out,HZ.out];apply eK;simp [lY]
  .have hp0i:¬(0:Int)<(places:Int):=by omega
   have HP0:=hid hp0;clear hp0;rcases hsg with⟨hs0,hh,HPX⟩|⟨hs0,hh,HPX⟩
   all_goals
    go_enter func87,ntmps87;go_wp2;go_ret;refine⟨congrArg (fun z=>Ending.returned (Value.string z)) ?_,B0.out⟩;rw[HR.out,ag HP0.out,HPX.out];rfl
 .exact PH x x0 x1 v d places w hd hm e0 e1 hp hbl hT10 hz0
theorem Sp {P:Program}{md:Region.Mode}{ops:Array Oper}{Q:Exit->Act->World->Prop}{S:World->Prop}(A:Act) (W:World) (L:Array Bool) (fuel:Nat) {fuel0:Nat}{L0:Array Bool}{a0:Act}{w0:World}
  (hF:wpAnyH P md ops Q S fuel L A W) (main:wpAnyH P md ops Q S fuel L A W->wpAnyH P md ops Q S fuel0 L0 a0 w0):wpAnyH P md ops Q S fuel0 L0 a0 w0:=main hF
theorem Rm {n k:Nat} :aC n<=k↔n<2^k:=⟨fun h=>aX (tV n) (aG (by omega) h),nF⟩
def rK (x:Int) (places:Nat) (mode:Int):D:=eG (ai x) (cO (ai x)-4*(places:Int)) mode
def qy (x:Int) (places:Nat):Bool:=mulC (ai x) (cO (ai x)-4*(places:Int))
theorem tU (neg:Bool) (m:Nat) (e:Int):(norm neg m e).m<=m:=by
 unfold norm;split
 .exact d_ _
 .exact iG _ _
theorem Vd (neg:Bool) (k:Nat) (e:Int):(norm neg (2^k) e).m=1:=by
 unfold norm;have hp:=az k;rw[ag (by omega)];obtain⟨q,h1,h2⟩:=oR (show 2^k≠0 by omega);generalize ctz (2^k)=c at *
 show 2^k/2^c=1
 rcases ju c k with h|h|h
 .obtain⟨j,rfl⟩:∃j,k=c+(j+1):=⟨k-c-1,by omega⟩
  rw[aB,aW]at h1;have :=pD (az c) h1;rw[bH]at this;omega
 .subst h;exact Nat.div_self hp
 .obtain⟨j,rfl⟩:∃j,c=k+(j+1):=⟨c-k-1,by omega⟩
  rw[aB,bH]at h1;have h3:q*(2^j*2)*2^k=1*2^k:=by rw[fP,aF,aW (2^j*2)];exact h1.symm
  have :=pD hp h3;rw[<-aF]at this;omega
theorem Lh {d:D}(places:Nat) (mode:Int):aC (eG d (cO d-4*(places:Int)) mode).m<=4*places+1:=by
 rw[Rm];have hb:d.m<2^aC d.m:=tV d.m;unfold eG cO;by_cases h:(aC d.m:Int)+d.e-1-4*(places:Int)<=d.e\/d.m=0
 .rw[aj h]
  refine de (tU _ _ _) ?_;rcases h with h|h
  .exact aX hb (aG (by omega) (by omega))
  .rw[h];exact az _
 .rw[ag h]
  obtain⟨k,hk⟩:∃k:Nat,(aC d.m:Int)+d.e-1-4*(places:Int)-d.e=(k:Int):=⟨((aC d.m:Int)+d.e-1-4*(places:Int)-d.e).toNat,by omega⟩;have hk0:0<k:=by omega
  rw[hk]
  have hq:d.m/2^k<2^(4*places+1):=by
   rw[lU (az _),<-aB];exact aX hb (aG (by omega) (by omega))
  have hc:fL d.neg d.m (k:Int) mode<=2^(4*places+1):=by
   unfold fL;rw[ag (by omega),gf];split
   .omega
   .split <;> omega
  rcases Nat.lt_or_eq_of_le hc with h1|h1
  .exact de (tU _ _ _) h1
  .rw[h1,Vd,bH]
   have :=az (4*places);omega
def oE (x places mode:Int):Int:=if dG x=true then(if(0<=mode/\mode<=4)/\0<=places/\places<=30 then 0 else 1) else 4
def qz (x places mode:Int):List UInt8:=if oE x places mode=0 then fG x (rK x places.toNat mode) places.toNat else []
def Li (x places mode:Int):Bool:=decide (oE x places mode=0) && qy x places.toNat
theorem Tn (x places mode:Int):(dG x=false/\oE x places mode=4)\/(dG x=true/\¬((0<=mode/\mode<=4)/\0<=places/\places<=30)/\oE x places mode=1)\/(dG x=true/\((0<=mode/\mode<=4)/\0<=places/\places<=30)/\oE x places mode=0):=by
 unfold oE;cases dG x
 .left;simp
 .right
  by_cases h:(0<=mode/\mode<=4)/\0<=places/\places<=30
  .right;exact⟨rfl,h,by rw[aj rfl,aj h]⟩
  .left;exact⟨rfl,h,by rw[aj rfl,ag h]⟩
theorem Gv {d:D}{k:Nat}(hm:d.m<2^k) (pl mode:Int) (e0: -2500<=d.e) (e1:d.e<=2500) (p0: -2500<=pl) (p1:pl<=2500):(eG d pl mode).m<2^(k+1)/\ -2500<=(eG d pl mode).e/\(eG d pl mode).e<=2500+(k+1):=by
 unfold eG;by_cases h:pl<=d.e\/d.m=0
 .rw[aj h]
  obtain⟨b1,b2⟩:=oT d.neg d.e hm;refine⟨de b1 (aX hm (aG (by omega) (by omega))),?_,?_⟩
  .rcases b2 with b2|b2
   .rw[b2];show(-2500:Int)<=0;omega
   .omega
  .rcases b2 with b2|b2
   .rw[b2];show(0:Int)<=_;omega
   .omega
 .rw[ag h]
  have hc:=Es (neg:=d.neg) (mode:=mode) hm (show 0<pl-d.e by omega);obtain⟨b1,b2⟩:=oT d.neg pl hc;refine⟨de b1 hc,?_,?_⟩
  .rcases b2 with b2|b2
   .rw[b2];show(-2500:Int)<=0;omega
   .omega
  .rcases b2 with b2|b2
   .rw[b2];show(0:Int)<=_;omega
   .omega
theorem Uo (x places mode:Int) (x0:0<=x) (x1:x<=18446744073709551615) (w:World) (hT:aQ w) (hT10:b_ w):
  Calls prog 52 #[.int .u64 x,.int .i64 places,.int .i64 mode] w (tS w (qz x places mode) (Li x places mode) (oE x places mode)):=by
 have HV:=hid (fun w'=>sI x x0 x1 w');have KN:=hid (fun w'=>dF mode w');unfold qz Li;rcases Tn x places mode with⟨h1,hE⟩|⟨h1,h2,hE⟩|⟨h1,h2,hE⟩
 .rw[h1]at HV
  rw[hE,ag (by decide),show(decide ((4:Int)=0) && qy x places.toNat)=false by rfl];clear hE h1 hT hT10;go_enter func52,ntmps52;go_wp2_with (go_at_call 27;refine(HV.out _).mono ?_;rintro e w1 ⟨rfl,rfl⟩)
  go_ret3;exact⟨rfl,Below.refl _ _⟩
 .rw[h1]at HV
  rw[hE,ag (by decide),show(decide ((1:Int)=0) && qy x places.toNat)=false by rfl];clear hE h1 hT hT10;by_cases hk:0<=mode/\mode<=4
  .have hkb:aD mode=true:=by unfold aD;rw[da];exact hk
   rw[hkb]at KN;by_cases hp:places<0
   .clear h2 hk hkb
    go_enter func52,ntmps52
    go_wp2_with (first
     |(go_at_call 27;refine(HV.out _).mono ?_;rintro e w1 ⟨rfl,rfl⟩)
     |(go_at_call 28;refine(KN.out _).mono ?_;rintro e w1 ⟨rfl,rfl⟩))
    go_ret3;exact⟨rfl,Below.refl _ _⟩
   .have hp2:30<places:=by
     rcases jQ 30 places with h|h
     .exact h
     .exact absurd ⟨hk,by omega,h⟩ h2
    clear h2 hk hkb;go_enter func52,ntmps52
    go_wp2_with (first
     |(go_at_call 27;refine(HV.out _).mono ?_;rintro e w1 ⟨rfl,rfl⟩)
     |(go_at_call 28;refine(KN.out _).mono ?_;rintro e w1 ⟨rfl,rfl⟩))
    go_ret3;exact⟨rfl,Below.refl _ _⟩
  .have hkb:aD mode=false:=by unfold aD;rw[jx];exact hk
   rw[hkb]at KN;clear h2 hk hkb;go_enter func52,ntmps52
   go_wp2_with (first
    |(go_at_call 27;refine(HV.out _).mono ?_;rintro e w1 ⟨rfl,rfl⟩)
    |(go_at_call 28;refine(KN.out _).mono ?_;rintro e w1 ⟨rfl,rfl⟩))
   go_ret3;exact⟨rfl,Below.refl _ _⟩
 .obtain⟨⟨m0,m1⟩,p0,p1⟩:=h2
  have hkb:aD mode=true:=by unfold aD;rw[da];exact⟨m0,m1⟩
  rw[h1]at HV;rw[hkb]at KN;rw[hE,aj rfl,show(decide ((0:Int)=0) && qy x places.toNat)=qy x places.toNat by rfl];clear hE h1 hkb;obtain⟨p,rfl⟩:=gH p0;rw[gf];obtain⟨f1,f2,f3,f4,f5⟩:=dR x x0 x1;have hbl:aC (ai x).m<=53:=nF f2;have VL:=hid (fun w' h=>ia x x0 x1 w' h);have LN:=hid (fun va w' (h:NV w' va (ai x).m)=>lx va _ 53 w' h f2 (by omega));obtain⟨pl,hpl⟩:∃pl,pl=cO (ai x)-4*(p:Int):=⟨_,rfl⟩;have hplb: -2500<=pl/\pl<=2500:=by rw[hpl];unfold cO;omega
  have ML:=hid (fun v w' (h:DV w' v (ai x)) hT=>LK v (ai x) 53 pl mode w' hT h f2 (by omega) (by omega) (by omega) (by omega) (by omega) m0 m1);have hfit:=Lh (d:=ai x) p mode;obtain⟨g1,g2,g3⟩:=Gv f2 pl mode (by omega) (by omega) hplb.1 hplb.2;have hR:rK x p mode=eG (ai x) pl mode:=by unfold rK;rw[hpl]
  have hC:qy x p=mulC (ai x) pl:=by unfold qy;rw[hpl]
  rw[<-hpl]at hfit;rw[<-hR]at ML hfit g1 g2 g3;rw[<-hC]at ML;have WR:=hid (fun v w' (h:DV w' v (rK x p mode)) h2=>Hb x x0 x1 v (rK x p mode) p w' h (aX g1 (aG (by omega) (by omega))) (by omega) (by omega) (by omega) hfit h2);have hplw:(aC (ai x).m:Int)+(ai x).e-1-4*(p:Int)=pl:=by rw[hpl];unfold cO;rfl
  generalize rK x p mode=R at *;generalize qy x p=C at *;obtain⟨RS,hRS⟩:∃RS:ByteArray,RS=⟨(fG x R p).toArray⟩:=⟨_,rfl⟩;unfold tS;rw[<-hRS];rw[<-hRS]at WR;generalize ai x=d at *;generalize aC d.m=L at *;have hw1:IntKind.i64.wrap ((L:Int)+d.e)=(L:Int)+d.e:=IntWalk.i64_in _ (by omega);have hw2:IntKind.i64.wrap ((L:Int)+d.e-1)=(L:Int)+d.e-1:=IntWalk.i64_in _ (by omega);have hw3:IntKind.i64.wrap ((L:Int)+d.e-1-4*(p:Int))=pl:=by rw[IntWalk.i64_in _ (by omega)];exact hplw
  have hw4:IntKind.i64.wrap (4*(p:Int))=4*(p:Int):=IntWalk.i64_in _ (by omega);have H1:=hid hT;have H2:=hid hT10;clear hT hT10 hRS hpl hplb hfit f1 f2 f3 f4 f5 g1 g2 g3 hR hC hbl hplw;go_enter func52,ntmps52
  go_wp2_with (first
   |(go_at_call 27;refine(HV.out _).mono ?_;rintro e w1 ⟨rfl,rfl⟩)
   |(go_at_call 28;refine(KN.out _).mono ?_;rintro e w1 ⟨rfl,rfl⟩)
   |(go_at_call 79;refine(VL.out _ H1.out).mono ?_;rintro e w1 ⟨v1,rfl,hd1,hb1⟩;obtain⟨s1,rfl,hs1⟩:=hd1;obtain⟨a1,n1,c1,rfl⟩:=hs1.shape;have D1:=hid hs1;have B1:=hid hb1;have B0s:=hid hb1.size;have T1:=hid (H2.out.below hb1);have U1:=hid (H1.out.below hb1);clear hs1 hb1))
  obtain⟨V,hV⟩:∃V,V=w1.alloc (.cells #[.bool d.neg,.slice a1 n1 c1,.int .i64 d.e] 68):=⟨_,rfl⟩;have XC:Hid (ax V w1.heap.size 68 (.bool d.neg) (.slice a1 n1 c1) (.int .i64 d.e)):=hid (by rw[hV];exact ax.new w1 (.bool d.neg) (.slice a1 n1 c1) (.int .i64 d.e) 68);replace B1:Hid (Below w.heap.size w V):=hid (by rw[hV];exact B1.out.alloc B1.out.size _);replace D1:Hid (NV V (.slice a1 n1 c1) d.m):=hid (by rw[hV];exact D1.out.alloc _);replace T1:Hid (b_ V):=hid (by rw[hV];exact T1.out.below (br0.alloc le0 _));replace U1:Hid (aQ V):=hid (by rw[hV];exact U1.out.alloc _)
  have hbs:w.heap.size<=w1.heap.size:=by
   have h1:=B1.out.size;have h2:V.heap.size=w1.heap.size+1:=by rw[hV];simp
   have h3:=XC.out.lt;have h4:=B0s.out;omega
  obtain⟨bk,hbk⟩:∃bk,bk=w1.heap.size:=⟨_,rfl⟩;rw[<-hV];rw[<-hbk]at XC hbs;rw[<-hbk];clear hV hbk;replace XC:=hid XC.out.drew;replace B1:=hid B1.out.drew;replace D1:=hid D1.out.drew;replace T1:Hid (b_ V.drew):=hid (T1.out.below br0.drew);replace U1:=hid U1.out.drew;obtain⟨p0',p1',p2',q0,q1,q2⟩:=XC.out.cells;refine wp_region_held_drew (S:=fun _=>True) (by kernel_rfl) trivial (fun hHeld=>?_);refine' Sp _ _ _ _ ?F ?main
  case main=>
   intro hF
   repeat' first
    |(have hG:=hK;clear hG;go_simp;first|(refine hK.out _ _ trivial (fun hHeld=>?_))|(refine(LN.out _ _ D1.out).mono ?_;rintro e w' ⟨rfl,rfl⟩;refine hK.out _ _ trivial (fun hHeld=>?_));clear hK K;try simp only[Act.put,bj,bB,bg])
    |with_reducible exact AllReadyH.nil
    |refine AllReadyH.cons (o:=_) rfl (fun K hK=>?_) ?_
    |(refine wpAnyH_take (i:=1) (oi:=_) (v:=?_) rfl (by decide+kernel) (by decide+kernel) (by decide+kernel) (fun _ _ _ h=>h) (Or.inl ⟨by rfl,?_⟩) (by assumption) ?_;rotate_left;focus (intro w hSw;go_simp;all_goals with_reducible rfl);try simp only[Act.put,bj,bB,bg])
    |(refine wpAnyH_take (i:=4) (oi:=_) (v:=?_) rfl (by decide+kernel) (by decide+kernel) (by decide+kernel) (fun _ _ _ h=>h) (Or.inl ⟨by rfl,?_⟩) (by assumption) ?_;rotate_left;focus (intro w hSw;go_simp;all_goals with_reducible rfl);try simp only[Act.put,bj,bB,bg])
    |(refine wpAnyH_take (i:=6) (oi:=_) (v:=?_) rfl (by decide+kernel) (by decide+kernel) (by decide+kernel) (fun _ _ _ h=>h) (Or.inl ⟨by rfl,?_⟩) (by assumption) ?_;rotate_left;focus (intro w hSw;go_simp;all_goals with_reducible rfl);try simp only[Act.put,bj,bB,bg])
    |(refine wpAnyH_take (i:=7) (oi:=_) (v:=?_) rfl (by decide+kernel) (by decide+kernel) (by decide+kernel) (fun _ _ _ h=>h) (Or.inl ⟨by rfl,?_⟩) (by assumption) ?_;rotate_left;focus (intro w hSw;go_simp;all_goals with_reducible rfl);try simp only[Act.put,bj,bB,bg])
    |(refine wpAnyH_take (i:=8) (oi:=_) (v:=?_) rfl (by decide+kernel) (by decide+kernel) (by decide+kernel) (fun _ _ _ h=>h) (Or.inl ⟨by rfl,?_⟩) (by assumption) ?_;rotate_left;focus (intro w hSw;go_simp;all_goals with_reducible rfl);try simp only[Act.put,bj,bB,bg])
    |(refine wpAnyH_take (i:=9) (oi:=_) (v:=?_) rfl (by decide+kernel) (by decide+kernel) (by decide+kernel) (fun _ _ _ h=>h) (Or.inl ⟨by rfl,?_⟩) (by assumption) ?_;rotate_left;focus (intro w hSw;go_simp;all_goals with_reducible rfl);try simp only[Act.put,bj,bB,bg])
    |(refine wpAnyH_take (i:=10) (oi:=_) (v:=?_) rfl (by decide+kernel) (by decide+kernel) (by decide+kernel) (fun _ _ _ h=>h) (Or.inl ⟨by rfl,?_⟩) (by assumption) ?_;rotate_left;focus (intro w hSw;go_simp;all_goals with_reducible rfl);try simp only[Act.put,bj,bB,bg])
    |(refine wpAnyH_take (i:=11) (oi:=_) (v:=?_) rfl (by decide+kernel) (by decide+kernel) (by decide+kernel) (fun _ _ _ h=>h) (Or.inl ⟨by rfl,?_⟩) (by assumption) ?_;rotate_left;focus (intro w hSw;go_simp;all_goals with_reducible rfl);try simp only[Act.put,bj,bB,bg])
    |refine wpAnyH_ready (rs:=[0]) (by decide+kernel) (by simp) ?_
    |refine wpAnyH_ready (rs:=[0,2]) (by decide+kernel) (by simp) ?_
    |refine wpAnyH_ready (rs:=[0,2,5]) (by decide+kernel) (by simp) ?_
    |refine wpAnyH_ready (rs:=[0,3]) (by decide+kernel) (by simp) ?_
    |refine wpAnyH_ready (rs:=[0,3,5]) (by decide+kernel) (by simp) ?_
    |refine wpAnyH_ready (rs:=[0,5]) (by decide+kernel) (by simp) ?_
    |refine wpAnyH_ready (rs:=[2]) (by decide+kernel) (by simp) ?_
    |refine wpAnyH_ready (rs:=[2,5]) (by decide+kernel) (by simp) ?_
    |refine wpAnyH_ready (rs:=[3]) (by decide+kernel) (by simp) ?_
    |refine wpAnyH_ready (rs:=[3,5]) (by decide+kernel) (by simp) ?_
    |refine wpAnyH_ready (rs:=[5]) (by decide+kernel) (by simp) ?_
    |exact hF
  case F=>
  refine wpAnyH_ready (rs:=[12]) (by kernel_rfl) (by simp) ?_;refine AllReadyH.cons (o:=_) rfl (fun K hK=>?_) AllReadyH.nil;go_simp;refine(ML.out _ _ ⟨_,rfl,D1.out⟩ U1.out).mono ?_;rintro r w3 ⟨a3,n3,c3,rfl,hv,hb⟩;replace XC:=hid (XC.out.below hb);replace B1:=bt0 B1 hb;have N3:=hid hv;clear hv hb p0' p1' p2' q0 q1 q2;obtain⟨p0',p1',p2',q0,q1,q2⟩:=XC.out.cells;refine hK.out _ _ trivial (fun hHeld=>?_);clear hK K;try simp only[Act.put,bj,bB,bg]
  refine wpAnyH_take (i:=13) (oi:=_) (v:=?_) rfl (by kernel_rfl) (by kernel_rfl) (by kernel_rfl) (fun _ _ _ h=>h) (Or.inl ⟨by rfl,?_⟩) (by assumption) ?_;rotate_left
  .intro w hSw;go_simp;all_goals with_reducible rfl
  try simp only[Act.put,bj,bB,bg]
  refine wpAnyH_take (i:=14) (oi:=_) (v:=?_) rfl (by kernel_rfl) (by kernel_rfl) (by kernel_rfl) (fun _ _ _ h=>h) (Or.inl ⟨by rfl,?_⟩) (by assumption) ?_;rotate_left
  .intro w hSw;go_simp;all_goals with_reducible rfl
  try simp only[Act.put,bj,bB,bg]
  refine wpAnyH_take (i:=15) (oi:=_) (v:=?_) rfl (by kernel_rfl) (by kernel_rfl) (by kernel_rfl) (fun _ _ _ h=>h) (Or.inl ⟨by rfl,?_⟩) (by assumption) ?_;rotate_left
  .intro w hSw;go_simp;all_goals with_reducible rfl
  try simp only[Act.put,bj,bB,bg]
  refine wpAnyH_ready (rs:=[16]) (by kernel_rfl) (by simp) ?_;refine AllReadyH.cons (o:=_) rfl (fun K hK=>?_) AllReadyH.nil;go_simp;refine hK.out _ _ trivial (fun hHeld=>?_);clear hK K;try simp only[Act.put,bj,bB,bg]
  refine wpAnyH_ready (rs:=[17]) (by kernel_rfl) (by simp) ?_;refine AllReadyH.cons (o:=_) rfl (fun K hK=>?_) AllReadyH.nil;go_simp;refine hK.out _ _ trivial (fun hHeld=>?_);clear hK K;try simp only[Act.put,bj,bB,bg]
  refine wpAnyH_done (by kernel_rfl) ?_ _;have N5:=hid (N3.out.setD (g':=R.neg) (ao':=a3) (n':=n3) (c':=c3) (e':=R.e) XC.out);have B5:=hid (cJ B1.out hbs (.bool R.neg) (.slice a3 n3 c3) (.int .i64 R.e));have T5:=hid (H2.out.below B5.out);obtain⟨r0,r1,r2,-,-,-⟩:=(XC.out.set3 (.bool R.neg) (.slice a3 n3 c3) (.int .i64 R.e)).cells;go_wp2_with (go_at_call 87;refine(WR.out _ _ ⟨_,rfl,N5.out⟩ T5.out).mono ?_;rintro e w6 ⟨rfl,hb6⟩;have B6:=bt0 B5 hb6;clear hb6)
  go_ret3;exact⟨rfl,B6.out⟩
def fC (d:D) (p:Int):Prop:=dD d (-p)<=dN d (-p)
instance (d:D) (p:Int):Decidable (fC d p):=Nat.decLe _ _
theorem tM {d:D}{p q:Int}(h:p<=q) (hq:fC d q):fC d p:=by
 obtain⟨k,hk⟩:∃k:Nat,-p= -q+k:=⟨(q-p).toNat,by omega⟩;have h1:=BA d (-q) k;have h2:=bR (10^k*dD d (-q+k)) hq;rw[<-aF (dN d (-q)),<-h1,aW (dD d (-q))]at h2;have h3:=jS h2 (qb d _);unfold fC;rw[hk];have h4:1*dD d (-q+k)<=10^k*dD d (-q+k):=bR _ (fN (by omega));omega
theorem xu {d:D}{p:Int} :ke d p↔fC d p/\¬fC d (p+1):=by unfold ke fC;omega
theorem YL {d:D}{p q:Int}(hp:ke d p) (hq:ke d q):p=q:=by
 rw[xu]at hp hq;rcases Ox p q with h|h|h
 .exact absurd (tM (show p+1<=q by omega) hq.1) hp.2
 .exact h
 .exact absurd (tM (show q+1<=p by omega) hp.1) hq.2
noncomputable def dK (d:D):Int:=Classical.epsilon (ke d)
theorem Ik {d:D}{p:Int}(h:ke d p):dK d=p:=YL (z_ ⟨p,h⟩) h
structure ko (d:D):Prop where
 m0:d.m≠0
 m1:d.m<2^64
 e0: -1200<=d.e
 e1:d.e<=1200
theorem ac0 (a:Nat):2^(3*a)<=10^a:=by rw[jU];exact wk (by omega) a
theorem Vm (a:Nat):2^(19*a)<=10^(6*a):=by rw[jU,jU];exact wk (by decide) a
theorem AO {d:D}(h:ko d):fC d (-400):=by
 obtain⟨m0,m1,e0,e1⟩:=h;unfold fC dN dD;obtain⟨K,hK⟩:∃K:Nat,K=400:=⟨_,rfl⟩;rw[show(- -(400:Int)).toNat=K by omega,show(-(- -400:Int)).toNat=0 by omega,jT,fP];have h1:2^(-d.e).toNat<=2^(3*K):=aG (by omega) (by omega);have h2:=ac0 K;have h3:1*10^K*1<=d.m*10^K*2^d.e.toNat:=eI (bR _ (by omega)) (az _);omega
theorem DE {d:D}(h:ko d):¬fC d 400:=by
 obtain⟨m0,m1,e0,e1⟩:=h;unfold fC dN dD;obtain⟨K,hK⟩:∃K:Nat,K=66:=⟨_,rfl⟩;obtain⟨E,hE⟩:∃E:Nat,E=1200:=⟨_,rfl⟩;rw[show(-(400:Int)).toNat=0 by omega,show(-(-400:Int)).toNat=6*K+4 by omega,jT,fI]
 have h1:d.m*2^d.e.toNat<2^(64+E):=by
  rw[aB];exact wm m1 (aG (by omega) (by omega)) (az _)
 have h2:2^(64+E)<=2^(19*K+12):=aG (by omega) (by omega)
 have h3:2^(19*K+12)<=10^(6*K+4):=by
  rw[aB,aB];exact eI (Vm K) (by decide)
 have h4:10^(6*K+4)*1<=10^(6*K+4)*2^(-d.e).toNat:=cZ _ (az _);omega
theorem Pd {n:Nat}(h:n≠0):1<=aC n:=by unfold aC;rw[ag h];omega
theorem WB (b:Nat) (s:Value) (d:D) (p:Int) (w:World) (hb:ax w b 68 (.bool d.neg) s (.int .i64 d.e)) (hs:NV w s d.m) (hm:ko d) (p0: -1000<=p) (p1:p<=1000):
  Calls prog 172 #[.int .i64 p,.pointer (some ⟨b,0,none⟩)] w fun e w'=>e=.returned (.bool (!decide (fC d p)))/\Below w.heap.size w w':=by
 obtain⟨as',ns,cs,rfl⟩:=hs.shape;have HB:=hid hb;have HS:=hid hs;have SC:=hid (fun v X w' (h:DV w' v d) (hX:X= -p)=>En v d X 64 w' h hm.m1 (by omega) (by omega) (by omega) (by have :=hm.e0;omega) (by have :=hm.e1;omega));have CM:=hid (fun va vb w' (ha:NV w' va (dN d (-p))) (hb:NV w' vb (dD d (-p)))=>jF va vb _ _ w' ha hb);obtain⟨c0,c1,c2,-,-,-⟩:=hb.cells
 have hsg:decide (aK ((dN d (-p):Nat):Int) ((dD d (-p):Nat):Int)<0)=(!decide (fC d p)):=by
  unfold aK fC;by_cases h:dN d (-p)<dD d (-p)
  .rw[aj (by omega),e_ (by omega:¬dD d (-p)<=dN d (-p))];rfl
  .rw[ag (by omega),fR (by omega:dD d (-p)<=dN d (-p))]
   split <;> rfl
 obtain⟨R,hR⟩:∃R,R=(!decide (fC d p)):=⟨_,rfl⟩;rw[<-hR]at hsg;rw[<-hR];generalize aK ((dN d (-p):Nat):Int) ((dD d (-p):Nat):Int)=sg at *;have SG:Hid (decide (sg<0)=R/\True):=hid ⟨hsg,trivial⟩;have hpw:IntKind.i64.wrap (-p)= -p:=IntWalk.i64_in _ (by omega);have B0:Hid (Below w.heap.size w w):=hid br0;clear hb hs hm hR hsg;go_enter func172,ntmps172;go_wp2_with (go_at_call 78;refine(SC.out _ _ _ ⟨_,rfl,HS.out⟩ (by first|rfl|omega)).mono ?_;rintro e w2 ⟨bb,rfl,-,hr2,hb2⟩;obtain⟨s2,vn,vd,q1,q2,q3⟩:=hr2;obtain⟨an,nn,cn,rfl⟩:=q2.shape;obtain⟨ad,nd,cd,rfl⟩:=q3.shape;have R2:Hid (jy w2 bb d.neg s2 d.e (.slice an nn cn) (.slice ad nd cd)):=hid q1;have N2:=hid q2;have D2:=hid q3;have B2:=bt0 B0 hb2;clear q1 q2 q3 hb2)
 replace N2:=hid N2.out.drew;replace D2:=hid D2.out.drew;obtain⟨p0,p3,p4⟩:=R2.out.cells
 go_region_held3 (fun w'=>w'.cell? ⟨bb,3,none⟩=some (.slice an nn cn)/\w'.cell? ⟨bb,4,none⟩=some (.slice ad nd cd))
  (first
   |exact⟨p3,p4⟩
   |(go_keep;done))
  (first
   |(go_at_call 101;refine(CM.out _ _ _ N2.out D2.out).mono ?_;rintro rr w4 ⟨rfl,nw,rfl⟩))
 rw[SG.out.1];go_wp2;go_ret;exact⟨rfl,dh B2.out⟩
theorem Ir (v:Value) (d:D) (w:World) (hd:DV w v d) (hm:ko d):
  Calls prog 129 #[v] w fun e w'=>e=.returned (.int .i64 (dK d))/\Below w.heap.size w w':=by
 obtain⟨s,rfl,hs⟩:=hd;obtain⟨sa,sn,sc,rfl⟩:=hs.shape;have HS:=hid hs;have LN:=hid (fun w' (h:NV w' (.slice sa sn sc) d.m)=>lx _ d.m 64 w' h hm.m1 (by omega));have LS:=hid (fun b p w' hb (h:NV w' (.slice sa sn sc) d.m) p0 p1=>WB b _ d p w' hb h hm p0 p1);have hl:=nF hm.m1;have hl2:=Pd hm.m0;have he0:=hm.e0;have he1:=hm.e1
 have ML:Hid (∀p,¬fC d p-> -400<p):=hid (fun p h=>by
  rcases jQ (-400) p with h1|h1
  .exact h1
  .exact absurd (tM h1 (AO hm)) h)
 have MH:Hid (∀p,fC d p->p<400):=hid (fun p h=>by
  rcases jQ p 400 with h1|h1
  .exact h1
  .exact absurd (tM h1 h) (DE hm))
 clear hs hm;generalize aC d.m=ln at *;have B:Hid (Below w.heap.size w w):=hid br0;go_enter func129,ntmps129;go_wp2_with fail
 obtain⟨V,hV⟩:∃V,V=w.alloc (.cells #[.bool d.neg,.slice sa sn sc,.int .i64 d.e] 68):=⟨_,rfl⟩;have XC:Hid (ax V w.heap.size 68 (.bool d.neg) (.slice sa sn sc) (.int .i64 d.e)):=hid (by rw[hV];exact ax.new w (.bool d.neg) (.slice sa sn sc) (.int .i64 d.e) 68);replace B:Hid (Below w.heap.size w V):=hid (by rw[hV];exact br0.alloc le0 _);replace HS:Hid (NV V (.slice sa sn sc) d.m):=hid (by rw[hV];exact HS.out.alloc _);rw[<-hV];clear hV;replace XC:=hid XC.out.drew;replace B:=hid B.out.drew;replace HS:=hid HS.out.drew;obtain⟨p0,p1,p2,-,-,-⟩:=XC.out.cells
 go_region_held3 (fun w'=>w'.cell? ⟨w.heap.size,1,none⟩=some (.slice sa sn sc)/\w'.cell? ⟨w.heap.size,2,none⟩=some (.int .i64 d.e))
  (first
   |exact⟨p1,p2⟩
   |(go_keep;done))
  (first
   |(go_at_call 59;refine(LN.out _ HS.out).mono ?_;rintro e w' ⟨rfl,rfl⟩))
 go_wp2_with fail
 obtain⟨P0,hP0,hP1,hP2⟩:∃P0,IntKind.i64.wrap ((IntKind.i64.wrap (IntKind.i64.wrap (IntKind.i64.wrap ((ln:Int)+d.e)-1)*30103)).tdiv 100000)=P0/\ -400<=P0/\P0<=400:=by
  rw[IntWalk.i64_in ((ln:Int)+d.e) (by omega),IntWalk.i64_in ((ln:Int)+d.e-1) (by omega),IntWalk.i64_in (((ln:Int)+d.e-1)*30103) (by omega)];have h1: -362*100000<=((ln:Int)+d.e-1)*30103:=by omega
  have h2:((ln:Int)+d.e-1)*30103<=381*100000:=by omega
  generalize ((ln:Int)+d.e-1)*30103=a at *;have h3:=Int.tdiv_eq_ediv (a:=a) (b:=100000)
  have h4: -400<=a.tdiv 100000/\a.tdiv 100000<=400:=by
   rw[h3];split
   .omega
   .rw[show Int.sign 100000=1 by rfl];omega
  rw[IntWalk.i64_in _ (by omega)];exact⟨_,rfl,h4.1,h4.2⟩
 simp only[hP0];clear hP0 hl hl2 p0 p1 p2 LN;go_loopw [3] (fun pv wr=>∃p:Int,pv=.int .i64 p/\ -400<=p/\p<=400/\Hid (ax wr w.heap.size 68 (.bool d.neg) (.slice sa sn sc) (.int .i64 d.e))/\Hid (NV wr (.slice sa sn sc) d.m)/\Hid (Below w.heap.size w wr)) (fun pv _=>(intOf pv+400).toNat)
 case atStart=>exact⟨P0,rfl,hP1,hP2,XC,HS,B⟩
 case round=>
  obtain⟨p,rfl,q0,q1,XR,HR,BR⟩:=hrel;clear XC HS B hP1 hP2;by_cases hg:fC d p
  .have LS1:=hid (LS.out _ p _ XR.out HR.out (by omega) (by omega))
   rw[show(!decide (fC d p))=false by rw[fR hg];rfl]at LS1;have HG:=hid hg;clear hg;go_wp2_with fail
   refine LS1.out.mono ?_;rintro e w1 ⟨rfl,hb⟩;have X1:=hid (XR.out.below hb);have H1:=hid (HR.out.below hb);have B1:=bt0 BR hb;clear hb LS1 XR HR BR;go_wp2_with fail
   go_loopw [3] (fun pv wr=>∃p:Int,pv=.int .i64 p/\ -400<=p/\p<=400/\Hid (fC d p/\True)/\Hid (ax wr w.heap.size 68 (.bool d.neg) (.slice sa sn sc) (.int .i64 d.e))/\Hid (NV wr (.slice sa sn sc) d.m)/\Hid (Below w.heap.size w wr)) (fun pv _=>(400-intOf pv).toNat)
   case atStart=>exact⟨p,rfl,q0,q1,hid ⟨HG.out,trivial⟩,X1,H1,B1⟩
   case round=>
    obtain⟨p',rfl,r0,r1,HG2,XR,HR,BR⟩:=hrel;clear X1 H1 B1 HG q0 q1;by_cases hg:fC d (p'+1)
    .have hlt:=MH.out _ hg
     have LS1:=hid (LS.out _ (p'+1) _ XR.out HR.out (by omega) (by omega));rw[show(!decide (fC d (p'+1)))=false by rw[fR hg];rfl]at LS1;have HG:=hid hg;clear hg;go_wp2_with fail
     refine LS1.out.mono ?_;rintro e w1 ⟨rfl,hb⟩;have X1:=hid (XR.out.below hb);have H1:=hid (HR.out.below hb);have B1:=bt0 BR hb;clear hb LS1 XR HR BR;go_wp2;go_roundw
     case rel=>exact⟨p'+1,by go_num,by omega,by omega,hid ⟨HG.out,trivial⟩,X1,H1,B1⟩
     case measure=>simp [intOf] <;> omega
    .have LS1:=hid (LS.out _ (p'+1) _ XR.out HR.out (by omega) (by omega))
     rw[show(!decide (fC d (p'+1)))=true by rw[e_ hg];rfl]at LS1;have hlg:dK d=p':=Ik (xu.2 ⟨HG2.out.1,hg⟩);have HG:=hid hlg;clear hg hlg;go_wp2_with fail
     refine LS1.out.mono ?_;rintro e w1 ⟨rfl,hb⟩;have B1:=bt0 BR hb;clear hb LS1 XR HR BR;go_wp2;go_ret;exact⟨by rw[HG.out];rfl,B1.out⟩
  .have hlt:=ML.out _ hg
   have LS1:=hid (LS.out _ p _ XR.out HR.out (by omega) (by omega));rw[show(!decide (fC d p))=true by rw[e_ hg];rfl]at LS1;clear hg;go_wp2_with fail
   refine LS1.out.mono ?_;rintro e w1 ⟨rfl,hb⟩;have X1:=hid (XR.out.below hb);have H1:=hid (HR.out.below hb);have B1:=bt0 BR hb;clear hb LS1 XR HR BR;go_wp2;go_roundw
   case rel=>exact⟨p-1,by go_num,by omega,by omega,X1,H1,B1⟩
   case measure=>simp [intOf] <;> omega
theorem Ki {d:D}(h:ko d):∀n:Nat,¬fC d (-400+n)->∃p,ke d p
 | 0,hn=>absurd (AO h) (by simpa using hn)
 |n+1,hn=>by
  by_cases hg:fC d (-400+n)
  .exact⟨_,xu.2 ⟨hg,by rw[show(-400:Int)+n+1= -400+((n+1:Nat):Int) by omega];exact hn⟩⟩
  .exact Ki h n hg
theorem zr {d:D}(h:ko d):ke d (dK d):=z_ (Ki h 800 (DE h))
theorem yC {d:D}(h:ko d): -400<=dK d/\dK d<=400:=by
 have h1:=xu.1 (zr h);constructor
 .rcases jQ (dK d) (-400) with h2|h2
  .exact absurd (tM (show dK d+1<= -400 by omega) (AO h)) h1.2
  .exact h2
 .rcases jQ 400 (dK d) with h2|h2
  .exact absurd (tM (show(400:Int)<=dK d by omega) h1.1) (DE h)
  .exact h2
noncomputable def oX (d:D) (g:Nat) (mode:Int):Nat:=dQ d ((g:Int)-1-dK d) mode
noncomputable def jX (d:D) (g:Nat) (mode:Int):List UInt8:=if d.m=0 then List.replicate g 48 else oL (oX d g mode) g
noncomputable def jL (d:D) (g:Nat) (mode:Int):Int:=if d.m=0 then 0 else if g<(decDigits (oX d g mode)).length then dK d+1 else dK d
noncomputable def qp (d:D) (g:Nat):Bool:=if d.m=0 then false else dC d ((g:Int)-1-dK d)
def rX (w:World) (s:List UInt8) (p:Int) (b:Bool) (e:Ending) (w':World):Prop:=e=.returned (.tuple #[.string ⟨s.toArray⟩,.int .i64 p,.bool b])/\Below w.heap.size w w'
theorem Tt {S:ByteArray}{l:List UInt8}(hS:S=⟨l.toArray⟩) (g:Nat):S.extract 0 g=⟨(l.take g).toArray⟩:=by
 subst hS;apply eK;simp [ir]
theorem AG (v:Value) (d:D) (g:Nat) (mode:Int) (w:World) (hd:DV w v d) (hm:d.m=0\/ko d) (g1:1<=g) (g2:g<=1000) (m0:0<=mode) (m1:mode<=4) (hT10:b_ w):
  Calls prog 84 #[v,.int .i64 (g:Int),.int .i64 mode] w (rX w (jX d g mode) (jL d g mode) (qp d g)):=by
 obtain⟨s,rfl,hs⟩:=hd;obtain⟨sa,sn,sc,rfl,hl1,hl2,hz⟩:=fD hs;unfold jX jL qp;have HS:=hid hs;rcases hz with⟨hz,rfl⟩|⟨hz,hn⟩
 .rw[aj hz,aj hz,aj hz]
  have RP:=hid (fun X w' (h:X=((g:Nat):Int))=>tj g X h (by omega) w');obtain⟨Z,hZ⟩:∃Z:ByteArray,Z=⟨(List.replicate g (48:UInt8)).toArray⟩:=⟨_,rfl⟩;unfold rX;rw[<-hZ]at RP;rw[<-hZ];have B0:Hid (Below w.heap.size w (w.alloc (.cells #[.bool d.neg,.slice sa 0 sc,.int .i64 d.e] 68))):=hid (br0.alloc le0 _);clear hZ hm hT10 hs HS;go_enter func84,ntmps84;go_wp2_with (go_at_call 26;refine(RP.out _ _ rfl).mono ?_;rintro e w3 ⟨rfl,hb3⟩;have B3:=bt0 B0 hb3;clear hb3)
  go_ret3;exact⟨rfl,B3.out⟩
 .rw[ag hz,ag hz,ag hz]
  have hmid:ko d:=hm.resolve_left hz;have hlg:=zr hmid;obtain⟨lb0,lb1⟩:=yC hmid;obtain⟨bq0,bq1⟩:=FI hlg g g1 mode
  have hql:=nt (g+1) (oX d g mode) (by omega) (by
   have :10^g<10^(g+1):=Fe (by omega) (by omega);unfold oX;omega)
  obtain⟨K0,hK0,hK1⟩:∃K0,20000<=K0/\K0<=20000:=⟨20000,by omega,by omega⟩
  have b1:dN d ((g:Int)-1-dK d)<2^K0:=by
   have e0:=hmid.e1;exact aX (Ce d _ (kd:=64) hmid.m1).2 (aG (by omega) (by omega))
  have b2:dD d ((g:Int)-1-dK d)<2^K0:=by
   have e0:=hmid.e0;exact aX (NP _ _) (aG (by omega) (by omega))
  have LG:=hid (fun v w' (h:DV w' v d)=>Ir v d w' h hmid);have SC:=hid (fun v w' (h:DV w' v d)=>En v d ((g:Int)-1-dK d) 64 w' h hmid.m1 (by omega) (by omega) (by omega) (by have :=hmid.e0;omega) (by have :=hmid.e1;omega));have RR:=hid (fun B w' (h:vS w' B d.neg (dN d ((g:Int)-1-dK d)) (dD d ((g:Int)-1-dK d)))=>JX B _ _ _ K0 mode w' h b1 (qb _ _) b2 (by omega) m0 m1);have hq:=xa d ((g:Int)-1-dK d) mode b1;change Hid (∀B w' (h:vS w' B d.neg (dN d ((g:Int)-1-dK d)) (dD d ((g:Int)-1-dK d))),Calls prog 80 #[.pointer (some ⟨B,0,none⟩),.int .i64 mode] w' (uY w' (oX d g mode) (dC d ((g:Int)-1-dK d)))) at RR;have DC:=hid (fun va w' (h:NV w' va (oX d g mode)) (h2:b_ w')=>uz va _ (K0+1) w' h hq (by omega) h2);generalize dC d ((g:Int)-1-dK d)=cc at *;generalize oX d g mode=q at *;generalize hlgd:dK d=lg at *;have hw1:(g:Int)-1-lg=IntKind.i64.wrap ((g:Int)-1-lg):=(IntWalk.i64_in _ (by omega)).symm;obtain⟨n,hn'⟩:∃n,n=(decDigits q).length:=⟨_,rfl⟩;obtain⟨S,hS⟩:∃S:ByteArray,S=⟨(decDigits q).toArray⟩:=⟨_,rfl⟩;have hSz:S.size=n:=by rw[hn',hS];rfl
  rw[<-hS]at DC;have HSS:=hid hS;have HN:=hid hn';have B0:Hid (Below w.heap.size w (w.alloc (.cells #[.bool d.neg,.slice sa sn sc,.int .i64 d.e] 68))):=hid (br0.alloc le0 _);have H0:=hid (HS.out.alloc (.cells #[.bool d.neg,.slice sa sn sc,.int .i64 d.e] 68));have XC:Hid (ax (w.alloc (.cells #[.bool d.neg,.slice sa sn sc,.int .i64 d.e] 68)) w.heap.size 68 (.bool d.neg) (.slice sa sn sc) (.int .i64 d.e)):=hid (ax.new w (.bool d.neg) (.slice sa sn sc) (.int .i64 d.e) 68);have T0:=hid (hT10.below (br0.alloc le0 (.cells #[.bool d.neg,.slice sa sn sc,.int .i64 d.e] 68)));have hnz:((sn:Int)==0)=false:=by rw[aH];omega
  rw[<-hn']at hql
  have epost:∀b:Bool,b=decide (g<n)->(if g<(decDigits q).length then lg+1 else lg)=(if b=true then lg+1 else lg)/\oL q g=(if b=true then(decDigits q).take g else decDigits q):=by
   intro b hb;rw[hb];unfold oL;rw[<-hn'];by_cases h:g<n
   .simp [h]
   .simp [h]
  by_cases hgn:g<n
  .obtain⟨ep1,ep2⟩:=epost true (by rw[fR hgn])
   rw[aj rfl]at ep1 ep2;rw[ep1,ep2];have HE:=hid (Tt hS g);unfold rX;rw[<-HE.out];have hgi:(g:Int)<(n:Int):=by omega
   have hgn':(g:Int)<=(n:Int):=by omega
   clear hs HS hm hz hmid hlg b1 b2 hq bq0 bq1 hlgd hn' hS epost ep1 ep2 hT10 hgn HE hw1;go_enter func84,ntmps84
   go_wp2_with (first
    |(go_at_call 129;refine(LG.out _ _ ⟨_,rfl,H0.out⟩).mono ?_;rintro e w1 ⟨rfl,hb⟩;have H1:=hid (H0.out.below hb);have X1:=hid (XC.out.below hb);have T1:=hid (T0.out.below hb);have B1:=bt0 B0 hb;obtain⟨p0,p1,p2,-,-,-⟩:=X1.out.cells;clear hb)
    |(go_at_call 78;refine(SC.out _ _ ⟨_,rfl,H1.out⟩).mono ?_;rintro e w2 ⟨bb,rfl,-,hr2,hb2⟩;have R2:=hid hr2;have B2:=bt0 B1 hb2;have T2:=hid (T1.out.below hb2);clear hr2 hb2)
    |(go_at_call 80;refine(RR.out _ _ (by obtain⟨s,vn,vd,h1,h2,h3⟩:=R2.out;exact⟨s,_,vn,vd,h1,h2,h3⟩)).mono ?_;rintro e w3 ⟨v3,rfl,hv3,hb3⟩;have N3:=hid hv3;have B3:=bt0 B2 hb3;have T3:=hid (T2.out.below hb3);clear hv3 hb3)
    |(go_at_call 83;refine(DC.out _ _ N3.out T3.out).mono ?_;rintro e w5 ⟨rfl,hb5⟩;have B5:=bt0 B3 hb5;clear hb5))
   go_ret3;exact⟨rfl,B5.out⟩
  .obtain⟨ep1,ep2⟩:=epost false (by rw[e_ hgn])
   simp only[ga,e9]at ep1 ep2;rw[ep1,ep2];unfold rX;rw[<-hS];have hgi:(n:Int)<=(g:Int):=by omega
   clear hs HS hm hz hmid hlg b1 b2 hq bq0 bq1 hlgd hn' hS epost ep1 ep2 hT10 hgn hw1;go_enter func84,ntmps84
   go_wp2_with (first
    |(go_at_call 129;refine(LG.out _ _ ⟨_,rfl,H0.out⟩).mono ?_;rintro e w1 ⟨rfl,hb⟩;have H1:=hid (H0.out.below hb);have X1:=hid (XC.out.below hb);have T1:=hid (T0.out.below hb);have B1:=bt0 B0 hb;obtain⟨p0,p1,p2,-,-,-⟩:=X1.out.cells;clear hb)
    |(go_at_call 78;refine(SC.out _ _ ⟨_,rfl,H1.out⟩).mono ?_;rintro e w2 ⟨bb,rfl,-,hr2,hb2⟩;have R2:=hid hr2;have B2:=bt0 B1 hb2;have T2:=hid (T1.out.below hb2);clear hr2 hb2)
    |(go_at_call 80;refine(RR.out _ _ (by obtain⟨s,vn,vd,h1,h2,h3⟩:=R2.out;exact⟨s,_,vn,vd,h1,h2,h3⟩)).mono ?_;rintro e w3 ⟨v3,rfl,hv3,hb3⟩;have N3:=hid hv3;have B3:=bt0 B2 hb3;have T3:=hid (T2.out.below hb3);clear hv3 hb3)
    |(go_at_call 83;refine(DC.out _ _ N3.out T3.out).mono ?_;rintro e w5 ⟨rfl,hb5⟩;have B5:=bt0 B3 hb5;clear hb5))
   go_ret3;exact⟨rfl,B5.out⟩
theorem WA (n:Nat) (X:Int) (hX:X=(n:Int)) (h:n<1000000) (w:World) (hT:b_ w):
  Calls prog 73 #[.int .i64 X] w fun e w'=>e=.returned (.string ⟨(decDigits n).toArray⟩)/\Below w.heap.size w w':=by
 subst hX;exact DQ n (by omega) w hT
theorem yL (a b:List UInt8) {A:ByteArray}(hA:A=⟨b.toArray⟩):(⟨a.toArray⟩:ByteArray)++A=⟨(a++b).toArray⟩:=qZ a b rfl hA
theorem Gt (p:Int) (w:World) (p0: -10000<=p) (p1:p<=10000) (hT:b_ w):
  Calls prog 85 #[.int .i64 p] w fun e w'=>e=.returned (.string ⟨(fh p).toArray⟩)/\Below w.heap.size w w':=by
 have IT:=hid (fun X w' (h:X=((p.natAbs:Nat):Int)) (hT:b_ w')=>WA p.natAbs X h (by omega) w' hT);obtain⟨D,hD⟩:∃D:ByteArray,D=⟨(decDigits p.natAbs).toArray⟩:=⟨_,rfl⟩;rw[<-hD]at IT
 have hz:D.size<=10:=by
  have h1:=nt 5 p.natAbs (by omega) (by omega);have :D.size=(decDigits p.natAbs).length:=by rw[hD];rfl
  omega
 have H0:=hid hT;have hw:IntKind.i64.wrap (-p)= -p:=IntWalk.i64_in _ (by omega);by_cases hn:p<0
 .by_cases ht:p.natAbs<10
  .have e:fh p=[45,48]++decDigits p.natAbs:=by unfold fh;rw[aj hn,aj ht];rfl
   rw[e,<-yL _ _ hD];have ht2: -p<10:=by omega
   clear e hT hD ht;go_enter func85,ntmps85;go_wp2_with (go_at_call 73;refine(IT.out _ _ (by omega) H0.out).mono ?_;rintro e w3 ⟨rfl,hb3⟩;have B3:=hid hb3;clear hb3)
   go_ret;exact⟨rfl,B3.out⟩
  .have e:fh p=[45]++decDigits p.natAbs:=by unfold fh;rw[aj hn,ag ht];rfl
   rw[e,<-yL _ _ hD];have ht2:¬ -p<10:=by omega
   clear e hT hD ht;go_enter func85,ntmps85;go_wp2_with (go_at_call 73;refine(IT.out _ _ (by omega) H0.out).mono ?_;rintro e w3 ⟨rfl,hb3⟩;have B3:=hid hb3;clear hb3)
   go_ret;exact⟨rfl,B3.out⟩
 .by_cases ht:p.natAbs<10
  .have e:fh p=[43,48]++decDigits p.natAbs:=by unfold fh;rw[ag hn,aj ht];rfl
   rw[e,<-yL _ _ hD];have ht2:p<10:=by omega
   clear e hT hD ht;go_enter func85,ntmps85;go_wp2_with (go_at_call 73;refine(IT.out _ _ (by omega) H0.out).mono ?_;rintro e w3 ⟨rfl,hb3⟩;have B3:=hid hb3;clear hb3)
   go_ret;exact⟨rfl,B3.out⟩
  .have e:fh p=[43]++decDigits p.natAbs:=by unfold fh;rw[ag hn,ag ht];rfl
   rw[e,<-yL _ _ hD];have ht2:¬p<10:=by omega
   clear e hT hD ht;go_enter func85,ntmps85;go_wp2_with (go_at_call 73;refine(IT.out _ _ (by omega) H0.out).mono ?_;rintro e w3 ⟨rfl,hb3⟩;have B3:=hid hb3;clear hb3)
   go_ret;exact⟨rfl,B3.out⟩
def p7 (x digits mode:Int):Int:=if dG x=true then(if(0<=mode/\mode<=4)/\1<=digits/\digits<=800 then 0 else 1) else 4
noncomputable def vA (x:Int) (g:Nat) (mode:Int):List UInt8:=gW x++(pt (jX (ai x) g mode) (g-1)++([101]++fh (jL (ai x) g mode)))
noncomputable def oy (x digits mode:Int):List UInt8:=if p7 x digits mode=0 then vA x digits.toNat mode else []
noncomputable def Kf (x digits mode:Int):Bool:=decide (p7 x digits mode=0) && qp (ai x) digits.toNat
theorem NK (x digits mode:Int):(dG x=false/\p7 x digits mode=4)\/(dG x=true/\¬((0<=mode/\mode<=4)/\1<=digits/\digits<=800)/\p7 x digits mode=1)\/(dG x=true/\((0<=mode/\mode<=4)/\1<=digits/\digits<=800)/\p7 x digits mode=0):=by
 unfold p7;cases dG x
 .left;simp
 .right
  by_cases h:(0<=mode/\mode<=4)/\1<=digits/\digits<=800
  .right;exact⟨rfl,h,by rw[aj rfl,aj h]⟩
  .left;exact⟨rfl,h,by rw[aj rfl,ag h]⟩
theorem uH {x:Int}(x0:0<=x) (x1:x<=18446744073709551615):(ai x).m=0\/ko (ai x):=by
 obtain⟨f1,f2,f3,f4,f5⟩:=dR x x0 x1;by_cases h:(ai x).m=0
 .exact Or.inl h
 .exact Or.inr ⟨h,by omega,by omega,by omega⟩
theorem xJ {d:D}(hm:d.m=0\/ko d) {g:Nat}(g1:1<=g) (mode:Int):(jX d g mode).length=g:=by
 unfold jX;by_cases h:d.m=0
 .rw[aj h];simp
 .rw[ag h]
  obtain⟨b0,b1⟩:=FI (zr (hm.resolve_left h)) g g1 mode;exact(WY g1 b0 b1).1
theorem yj {d:D}(hm:d.m=0\/ko d) (g:Nat) (mode:Int): -400<=jL d g mode/\jL d g mode<=401:=by
 unfold jL;by_cases h:d.m=0
 .rw[aj h];omega
 .rw[ag h]
  obtain⟨b0,b1⟩:=yC (hm.resolve_left h);split <;> omega
theorem Ct (p:Int) (h:p.natAbs<100000):(fh p).length<=10:=by
 have h1:=nt 5 p.natAbs (by omega) (by omega);have h2:∀b:Bool,((if b=true then [48] else []):List UInt8).length<=1:=by intro b;cases b <;> simp
 have h3:=h2 (decide (p.natAbs<10));simp only[da]at h3;unfold fh;rw[ez,ck];omega
theorem xK (x digits mode:Int) (x0:0<=x) (x1:x<=18446744073709551615) (w:World) (hT:aQ w) (hT10:b_ w):
  Calls prog 49 #[.int .u64 x,.int .i64 digits,.int .i64 mode] w (tS w (oy x digits mode) (Kf x digits mode) (p7 x digits mode)):=by
 have HV:=hid (fun w'=>sI x x0 x1 w');have KN:=hid (fun w'=>dF mode w');unfold oy Kf;rcases NK x digits mode with⟨h1,hE⟩|⟨h1,h2,hE⟩|⟨h1,h2,hE⟩
 .rw[h1]at HV
  rw[hE,ag (by decide),show(decide ((4:Int)=0) && qp (ai x) digits.toNat)=false by rfl];clear hE h1 hT hT10;go_enter func49,ntmps49;go_wp2_with (go_at_call 27;refine(HV.out _).mono ?_;rintro e w1 ⟨rfl,rfl⟩)
  go_ret3;exact⟨rfl,Below.refl _ _⟩
 .rw[h1]at HV
  rw[hE,ag (by decide),show(decide ((1:Int)=0) && qp (ai x) digits.toNat)=false by rfl];clear hE h1 hT hT10;by_cases hk:0<=mode/\mode<=4
  .have hkb:aD mode=true:=by unfold aD;rw[da];exact hk
   rw[hkb]at KN;by_cases hp:digits<1
   .clear h2 hk hkb
    go_enter func49,ntmps49
    go_wp2_with (first
     |(go_at_call 27;refine(HV.out _).mono ?_;rintro e w1 ⟨rfl,rfl⟩)
     |(go_at_call 28;refine(KN.out _).mono ?_;rintro e w1 ⟨rfl,rfl⟩))
    go_ret3;exact⟨rfl,Below.refl _ _⟩
   .have hp2:800<digits:=by
     rcases jQ 800 digits with h|h
     .exact h
     .exact absurd ⟨hk,by omega,h⟩ h2
    clear h2 hk hkb;go_enter func49,ntmps49
    go_wp2_with (first
     |(go_at_call 27;refine(HV.out _).mono ?_;rintro e w1 ⟨rfl,rfl⟩)
     |(go_at_call 28;refine(KN.out _).mono ?_;rintro e w1 ⟨rfl,rfl⟩))
    go_ret3;exact⟨rfl,Below.refl _ _⟩
  .have hkb:aD mode=false:=by unfold aD;rw[jx];exact hk
   rw[hkb]at KN;clear h2 hk hkb;go_enter func49,ntmps49
   go_wp2_with (first
    |(go_at_call 27;refine(HV.out _).mono ?_;rintro e w1 ⟨rfl,rfl⟩)
    |(go_at_call 28;refine(KN.out _).mono ?_;rintro e w1 ⟨rfl,rfl⟩))
   go_ret3;exact⟨rfl,Below.refl _ _⟩
 .obtain⟨⟨m0,m1⟩,g0,g1⟩:=h2
  have hkb:aD mode=true:=by unfold aD;rw[da];exact⟨m0,m1⟩
  rw[h1]at HV;rw[hkb]at KN;rw[hE,aj rfl,show(decide ((0:Int)=0) && qp (ai x) digits.toNat)=qp (ai x) digits.toNat by rfl];clear hE h1 hkb;obtain⟨g,rfl⟩:=gH (show 0<=digits by omega);rw[gf];have hmid:=uH x0 x1;have VL:=hid (fun w' h=>ia x x0 x1 w' h);have DG:=hid (fun v w' (h:DV w' v (ai x)) h2=>AG v (ai x) g mode w' h hmid (by omega) (by omega) m0 m1 h2);have SG:=hid (fun w'=>IA x x0 x1 w');have hlen:=xJ hmid (g:=g) (by omega) mode;have PT:=hid (fun X w' (hX:X=((g-1:Nat):Int))=>by have h:=Me (jX (ai x) g mode) (g-1) w' (by omega) (by omega);rw[<-hX]at h;exact h);obtain⟨bp0,bp1⟩:=yj hmid g mode;have PW:=hid (fun w' h=>Gt (jL (ai x) g mode) w' (by omega) (by omega) h);have hpw:=Ct (jL (ai x) g mode) (by omega)
  have hpl:(pt (jX (ai x) g mode) (g-1)).length<=2000:=by
   rw[AU (by omega) hlen];split
   .omega
   .simp;omega
  have hsl:=tC x;unfold vA;generalize jX (ai x) g mode=ds at *;generalize jL (ai x) g mode=dp at *;generalize qp (ai x) g=dc at *;generalize pt ds (g-1)=ps at *;generalize gW x=ss at *;generalize fh dp=es at *;obtain⟨PS,hPS⟩:∃PS:ByteArray,PS=⟨ps.toArray⟩:=⟨_,rfl⟩;obtain⟨SS,hSS⟩:∃SS:ByteArray,SS=⟨ss.toArray⟩:=⟨_,rfl⟩;obtain⟨ES,hES⟩:∃ES:ByteArray,ES=⟨es.toArray⟩:=⟨_,rfl⟩;obtain⟨DS,hDS⟩:∃DS:ByteArray,DS=⟨ds.toArray⟩:=⟨_,rfl⟩
  have z1:PS.size<=2000:=by
   have :PS.size=ps.length:=by rw[hPS];rfl
   omega
  have z2:SS.size<=1:=by
   have :SS.size=ss.length:=by rw[hSS];rfl
   omega
  have z3:ES.size<=10:=by
   have :ES.size=es.length:=by rw[hES];rfl
   omega
  have hA:SS++PS++⟨#[101]⟩++ES=⟨(ss++(ps++([101]++es))).toArray⟩:=by
   rw[qZ ss ps hSS hPS,qZ (ss++ps) [101] rfl rfl,qZ _ es rfl hES];simp
  unfold rX at DG;rw[<-hPS,<-hDS]at PT;rw[<-hSS]at SG;rw[<-hES]at PW;rw[<-hDS]at DG;have HA:=hid hA;unfold tS;rw[<-HA.out];have H1:=hid hT;have H2:=hid hT10;have B0:Hid (Below w.heap.size w w):=hid br0;clear hT hT10 hPS hSS hES hDS hA hmid hlen hpw hpl hsl;go_enter func49,ntmps49
  go_wp2_with (first
   |(go_at_call 27;refine(HV.out _).mono ?_;rintro e w1 ⟨rfl,rfl⟩)
   |(go_at_call 28;refine(KN.out _).mono ?_;rintro e w1 ⟨rfl,rfl⟩)
   |(go_at_call 79;refine(VL.out _ H1.out).mono ?_;rintro e w1 ⟨v1,rfl,hd1,hb1⟩;have D1:=hid hd1;have B1:=hid hb1;have T1:=hid (H2.out.below hb1);clear hd1 hb1)
   |(go_at_call 84;refine(DG.out _ _ D1.out T1.out).mono ?_;rintro e w2 ⟨rfl,hb2⟩;have B2:=bt0 B1 hb2;have T2:=hid (T1.out.below hb2);clear hb2)
   |(go_at_call 81;refine(SG.out _).mono ?_;rintro e w4 ⟨rfl,rfl⟩)
   |(go_at_call 82;refine(PT.out _ _ (by omega)).mono ?_;rintro e w6 ⟨rfl,hb6⟩;have B6:=bt0 B2 hb6;have T6:=hid (T2.out.below hb6);clear hb6)
   |(go_at_call 85;refine(PW.out _ T6.out).mono ?_;rintro e w7 ⟨rfl,hb7⟩;have B7:=bt0 B6 hb7;clear hb7))
  go_ret3;exact⟨rfl,B7.out⟩
