import Derived.Test.YtofdjfdnckmmmaaGreatDoorLb
import Derived.Shelf.Strings.SlTrimAscii
set_option linter.all false
set_option maxHeartbeats 8000000
open Go.Proofs.Tryz
open Go.Lib (hid)
namespace Go.Proofs.YtofdjfdnckmmmaaGreatDoor
open Go.Shelf Go.RowKit Go.Lib Nt
theorem EF (a:Nat):∀l:List UInt8,bD a l=a*2^(4*l.length)+bD 0 l
 | []=>by simp [bD]
 |c::l=>by
  rw[bD,bD,EF (a*16+iM c) l,EF (0*16+iM c) l,iq,jw,a_,ez,show 4*(l.length+1)=4+4*l.length by omega,aB,aF,qG]
theorem C0 (l:List UInt8) (h:∀c∈l,fY c):bD 0 l<2^(4*l.length):=by
 have h1:=wF l 0 h;rw[show(16:Nat)=2^4 by decide,<-jU]at h1;omega
theorem ae7 (bs:List UInt8) (t:ByteArray) (ht:t=⟨bs.toArray⟩) (h:∀c∈bs,fY c) (hl:bs.length<=2000) (w:World):
  Calls prog 217 #[.string t] w (kn w (bD 0 bs)):=by
 have HH:=hid h;have HT:=hid ht;clear h ht;go_enter func217,ntmps217;go_wp2
 go_loopg [0,3] bs.length (fun k sv ov wr=>∃(l r:List UInt8) (S:ByteArray),r.length<=k/\sv=.string S/\S.size=r.length/\Hid (S=⟨r.toArray⟩/\bs=l++r)/\Hid (NV wr ov (bD 0 l))/\Hid (Below w.heap.size w wr))
 case atStart=>exact⟨[],bs,t,ae _,rfl,by rw[HT.out];rfl,hid ⟨HT.out,rfl⟩,hid (NV.nil _),hid br0⟩
 case round=>
  obtain⟨l,r,S,hrk,rfl,hz,HS,HO,HB⟩:=hrel;have hlr:l.length+r.length=bs.length:=by rw[HS.out.2,ck]
  rcases fl r.length with hr0|hr0
  .have hrn:r=[]:=gp.1 hr0
   have hbl:bs=l:=by rw[HS.out.2,hrn,n9]
   have HBL:=hid hbl;obtain⟨a1,n1,c1,rfl⟩:=HO.out.shape;rw[hr0]at hz;clear hrn hbl hlr hr0;go_wp2;go_ret;exact⟨_,rfl,by rw[HBL.out];exact HO.out,HB.out⟩
  .obtain⟨k,hk⟩:∃k,k=min r.length 8:=⟨_,rfl⟩
   have hk1:1<=k/\k<=8/\k<=r.length:=by omega
   obtain⟨k1,k8,kr⟩:=hk1;have hmin:min ((r.length:Nat):Int) 8=(k:Int):=by omega
   have hA:∀c∈r.take k,fY c:=fun c hc=>HH.out c (by rw[HS.out.2];exact ah9 _ (kU hc))
   have hla:∀c∈l,fY c:=fun c hc=>HH.out c (by rw[HS.out.2];exact Ol _ hc)
   have hlen:(r.take k).length=k:=by rw[dj];omega
   obtain⟨T,hT⟩:∃T:ByteArray,T=S.extract 0 k:=⟨_,rfl⟩
   have hT2:T=⟨(r.take k).toArray⟩:=by
    rw[hT,HS.out.1];apply eK;simp [ir]
   obtain⟨U,hU⟩:∃U:ByteArray,U=S.extract k S.size:=⟨_,rfl⟩
   have hU2:U=⟨(r.drop k).toArray⟩:=by
    rw[hU,HS.out.1];apply eK;simp [ir];rw[dI];simp [ByteArray.size]
   have hUz:U.size=r.length-k:=by rw[hU2];show(r.drop k).toArray.size=_;simp
   have PU:=hid (fun w'=>G7 (r.take k) T hT2 hA (by omega) (by omega) w');have hnb:=wF (r.take k) 0 hA;have hle:(16:Nat)^(r.take k).length<=16^8:=aG (by omega) (by omega);have e168:(16:Nat)^8=4294967296:=by decide
   obtain⟨n,hn⟩:∃n,n=bD 0 (r.take k):=⟨_,rfl⟩;rw[<-hn]at PU;have hn2:n<4294967296:=by rw[hn];omega
   have OF:=hid (fun w'=>dU (n:Int) (by omega) (by omega) w');simp only[gf]at OF;obtain⟨K0,hK0,hK1⟩:∃K0,9000<=K0/\K0<=9000:=⟨9000,by omega,by omega⟩;have hlb:bD 0 l<2^K0:=aX (C0 l hla) (aG (by omega) (by omega));have LF:=hid (fun va X w' (hv:NV w' va (bD 0 l)) (hX:X=((4*k:Nat):Int))=>f_ va _ (4*k) K0 X w' hv hX hlb (by omega) (by omega));have hsum:bD 0 l*2^(4*k)+n=bD 0 (l++r.take k):=by rw[tA,EF (bD 0 l),hlen,hn]
   have hpb:bD 0 l*2^(4*k)<2^(K0+4*k):=by rw[aB];exact cS hlb (az _)
   have hnk:n<2^(K0+4*k):=aX (show n<2^32 by omega) (aG (by omega) (by omega));have PL:=hid (fun va vb w' (ha:NV w' va (bD 0 l*2^(4*k))) (hb:NV w' vb n)=>by have h:=gN va vb _ n (K0+4*k) w' ha hb hpb hnk (by omega);rw[hsum]at h;exact h);have HREST:Hid (bs=(l++r.take k)++r.drop k):=hid (by rw[px,nX];exact HS.out.2);have HU2:=hid hU2;have hks:(k:Int)<=((r.length:Nat):Int):=by omega
   have hrp:(0:Int)<((r.length:Nat):Int):=by omega
   have hud:(r.drop k).length=r.length-k:=by simp
   obtain⟨rl,hrl⟩:∃rl,rl=r.length:=⟨_,rfl⟩;rw[<-hrl]at hz hmin hks hrp hUz hud kr hrk;rw[hz]at hU;have HT1:Hid (S.extract 0 k=T):=hid hT.symm;have HU1:Hid (S.extract k rl=U):=hid hU.symm;clear hk hA hla hlen hT hT2 hU hU2 hnb hle e168 hn hn2 hlb hsum hpb hnk hlr hr0 hrl HS;go_wp2_with fail
   rw[HT1.out];refine(PU.out _).mono ?_;rintro e w1 ⟨rfl,hb⟩;replace HO:=hid (HO.out.below hb);replace HB:=bt0 HB hb;clear hb;go_wp2_with fail
   refine(LF.out _ _ _ HO.out (by omega)).mono ?_;rintro e w2 ⟨v2,rfl,hv,hb⟩;have N2:=hid hv;replace HB:=bt0 HB hb;clear hv hb HO;go_wp2_with fail
   refine(OF.out _).mono ?_;rintro e w3 ⟨v3,rfl,hv,hb⟩;have N3:=hid hv;replace N2:=hid (N2.out.below hb);replace HB:=bt0 HB hb;clear hv hb;go_wp2_with fail
   refine(PL.out _ _ _ N2.out N3.out).mono ?_;rintro e w4 ⟨v4,rfl,hv,hb⟩;have N4:=hid hv;replace HB:=bt0 HB hb;clear hv hb;go_wp2;try rw[HU1.out]
   go_roundg (gk-1)
   case measure=>omega
   case rel=>exact⟨l++r.take k,r.drop k,U,by omega,by first|rfl|(rw[HU1.out]),by omega,hid ⟨HU2.out,HREST.out⟩,N4,HB⟩
theorem Tryz.laysTrimLeft:Go.Proofs.Lays.n161 prog Tryz.RN:= { Tryz.laysIndexL with
 f119:=aA func221 (by kernel_rfl)
 f137:=aA func47 (by kernel_rfl)
 f151:=aA func135 (by kernel_rfl)
 f152:=aA func182 (by kernel_rfl)
 f161:=aA func58 (by kernel_rfl)
 f197:=aA func110 (by kernel_rfl)
 f227:=aA func94 (by kernel_rfl)
 f228:=aA func134 (by kernel_rfl)
 f231:=aA func93 (by kernel_rfl)
 f233:=aA func95 (by kernel_rfl)
 f235:=aA func96 (by kernel_rfl)
 f260:=aA func143 (by kernel_rfl)
 t0:=underlying0
 a0:=isAgg0
 z0:=sizeOf0
 v0:=zeroValue0
 t21:=underlying21
 a21:=isAgg21
 z21:=sizeOf21
 v21:=zeroValue21
 t105:=underlying151
 a105:=isAgg151
 z105:=sizeOf151
 v105:=zeroValue151
 t116:=underlying134
 a116:=isAgg134
 z116:=sizeOf134
 t117:=underlying135
 a117:=isAgg135
 z117:=sizeOf135
 v117:=zeroValue135
 t119:=underlying198
 a119:=isAgg198
 z119:=sizeOf198
 t124:=underlying138
 a124:=isAgg138
 z124:=sizeOf138
 v124:=zeroValue138
 t138:=underlying200
 a138:=isAgg200
 z138:=sizeOf200
 v138:=zeroValue200
 t139:=underlying201
 a139:=isAgg201
 z139:=sizeOf201
 v139:=zeroValue201
 g3:=by kernel_rfl
 g4:=by kernel_rfl }
theorem VS:Tryz.RN.f 161=58:=by kernel_rfl
theorem El (s:ByteArray) (cs:List UInt8) (hcs:cs.all (fun b=>decide (b.toNat<128))=true) (hl:cs.length<=1000) (w:World):
  Calls prog 58 #[.string s,.string ⟨cs.toArray⟩] w fun e w'=>e=.returned (.string ⟨(s.data.toList.dropWhile (cs.contains ·)).toArray⟩)/\Below w.heap.size w w':=by
 have h:=Any.strings_TrimLeft_laid Tryz.laysTrimLeft (by kernel_rfl) s ⟨cs.toArray⟩ w (by show cs.toArray.size<_;simp;omega) (by
  intro j b hj;exact gY (n_.1 hcs b (qI hj)))
 rw[VS]at h;exact h
theorem nQ {p:UInt8->Bool}(l:List UInt8):(l.dropWhile p).length<=l.length:=(Fc p).length_le
theorem Mj {p:UInt8->Bool} :∀l:List UInt8,l.take (l.length-(l.dropWhile p).length)=l.takeWhile p
 | []=>rfl
 |c::l=>by
  by_cases h:p c=true
  .rw[sj h,wj h]
   have :=nQ (p:=p) l;rw[ez,show l.length+1-(l.dropWhile p).length=(l.length-(l.dropWhile p).length)+1 by omega,List.take_succ_cons,Mj l]
  .rw[qJ h,uk h];simp
theorem Bx (s:List UInt8) (S:ByteArray) (hS:S=⟨s.toArray⟩) (cs:List UInt8) (C:ByteArray) (hC:C=⟨cs.toArray⟩) (hcs:cs.all (fun b=>decide (b.toNat<128))=true) (hl:cs.length<=1000) (hsl:s.length<=100000) (w:World):
  Calls prog 238 #[.string S,.string C] w fun e w'=>e=.returned (.tuple #[.string ⟨(s.takeWhile (cs.contains ·)).toArray⟩,.string ⟨(s.dropWhile (cs.contains ·)).toArray⟩])/\Below w.heap.size w w':=by
 have TL:=hid (fun w'=>El S cs hcs hl w');rw[<-hC]at TL;have hd:S.data.toList=s:=by rw[hS]
 rw[hd]at TL;obtain⟨R,hR⟩:∃R:ByteArray,R=⟨(s.dropWhile (cs.contains ·)).toArray⟩:=⟨_,rfl⟩
 rw[<-hR]at TL;rw[<-hR];have hz:S.size=s.length:=by rw[hS];rfl
 have hrz:R.size=(s.dropWhile (cs.contains ·)).length:=by rw[hR];rfl
 have hle:=nQ (p:=(cs.contains ·)) s
 obtain⟨k,hk⟩:∃k,k=s.length-(s.dropWhile (cs.contains ·)).length:=⟨_,rfl⟩
 have hx:S.extract 0 k=⟨(s.takeWhile (cs.contains ·)).toArray⟩:=by
  rw[<-Mj s,<-hk,hS];apply eK;simp [ir]
 have HX:=hid hx;rw[<-HX.out];generalize (s.dropWhile (cs.contains ·)).length=b at *
 generalize s.length=a at *;have hkz:(a:Int)-(b:Int)=(k:Int):=by omega
 have hka:(k:Int)<=(a:Int):=by omega
 clear hd hR hx hk hS hC hcs;go_enter func238,ntmps238;go_wp2_with (go_at_call 58;refine(TL.out _).mono ?_;rintro e w1 ⟨rfl,hb⟩;have HB:=hid hb;clear hb)
 go_ret2;exact⟨rfl,HB.out⟩
