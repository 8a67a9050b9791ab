import Derived.Test.YtofdjfdnckmmmaaGreatDoorHr
import Derived.Shelf.Pu.ParseUintPublic10
import Derived.Test.YtofdjfdnckmmmaaGreatDoorRx
set_option linter.all false
set_option maxHeartbeats 16000000
set_option maxRecDepth 100000
open Go.Proofs.Tryz
open Go.Lib (hid decDigits hasPrefix trimPrefix)
namespace Go.Proofs.YtofdjfdnckmmmaaGreatDoor
open Go.Shelf Go.RowKit Nt Fm Fl
theorem Tryz.laysPu10:Go.Proofs.LaysPu.n14 prog Tryz.RM:= {
 mixed:=by kernel_rfl
 f14:=aA func106 (by kernel_rfl)
 f16:=aA func140 (by kernel_rfl)
 f17:=aA func133 (by kernel_rfl)
 f19:=aA func185 (by kernel_rfl)
 f20:=aA func186 (by kernel_rfl)
 f21:=aA func178 (by kernel_rfl)
 f22:=aA func179 (by kernel_rfl)
 f23:=aA func180 (by kernel_rfl)
 f24:=aA func181 (by kernel_rfl)
 f25:=aA func219 (by kernel_rfl)
 f26:=aA func220 (by kernel_rfl)
 f27:=aA func73 (by kernel_rfl)
 f28:=aA func112 (by kernel_rfl)
 f29:=aA func144 (by kernel_rfl)
 f30:=aA func187 (by kernel_rfl)
 f31:=aA func188 (by kernel_rfl)
 f32:=aA func189 (by kernel_rfl)
 f33:=aA func190 (by kernel_rfl)
 f34:=aA func222 (by kernel_rfl)
 f35:=aA func223 (by kernel_rfl)
 f36:=aA func224 (by kernel_rfl)
 f37:=aA func225 (by kernel_rfl)
 f38:=aA func226 (by kernel_rfl)
 f39:=aA func105 (by kernel_rfl)
 f40:=aA func240 (by kernel_rfl)
 t0:=underlying0
 a0:=isAgg0
 z0:=sizeOf0
 v0:=zeroValue0
 i0:=by kernel_rfl
 t2:=underlying2
 a2:=isAgg2
 z2:=sizeOf2
 v2:=zeroValue2
 i2:=by kernel_rfl
 t3:=underlying3
 a3:=isAgg3
 z3:=sizeOf3
 v3:=zeroValue3
 i3:=by kernel_rfl
 t4:=underlying4
 a4:=isAgg4
 z4:=sizeOf4
 v4:=zeroValue4
 i4:=by kernel_rfl
 t5:=underlying5
 a5:=isAgg5
 z5:=sizeOf5
 v5:=zeroValue5
 i5:=by kernel_rfl
 t9:=underlying9
 a9:=isAgg9
 z9:=sizeOf9
 v9:=zeroValue9
 i9:=by kernel_rfl
 t20:=underlying20
 a20:=isAgg20
 z20:=sizeOf20
 v20:=zeroValue20
 i20:=by kernel_rfl
 t21:=underlying21
 a21:=isAgg21
 z21:=sizeOf21
 v21:=zeroValue21
 i21:=by kernel_rfl
 t22:=underlying24
 a22:=isAgg24
 z22:=sizeOf24
 v22:=zeroValue24
 i22:=by kernel_rfl
 t24:=underlying42
 a24:=isAgg42
 z24:=sizeOf42
 v24:=zeroValue42
 i24:=by kernel_rfl
 t25:=underlying145
 a25:=isAgg145
 z25:=sizeOf145
 v25:=zeroValue145
 i25:=by kernel_rfl
 t34:=underlying189
 a34:=isAgg189
 z34:=sizeOf189
 v34:=zeroValue189
 i34:=by kernel_rfl
 c34:=by kernel_rfl
 t36:=underlying89
 a36:=isAgg89
 z36:=sizeOf89
 v36:=zeroValue89
 i36:=by kernel_rfl
 t37:=underlying37
 a37:=isAgg37
 z37:=sizeOf37
 v37:=zeroValue37
 i37:=by kernel_rfl
 t39:=underlying192
 a39:=isAgg192
 z39:=sizeOf192
 v39:=zeroValue192
 i39:=by kernel_rfl
 t44:=underlying231
 a44:=isAgg231
 z44:=sizeOf231
 v44:=zeroValue231
 i44:=by kernel_rfl
 t47:=underlying79
 a47:=isAgg79
 z47:=sizeOf79
 v47:=zeroValue79
 i47:=by kernel_rfl
 t48:=underlying249
 a48:=isAgg249
 z48:=sizeOf249
 v48:=zeroValue249
 i48:=by kernel_rfl
 t50:=underlying251
 a50:=isAgg251
 z50:=sizeOf251
 v50:=zeroValue251
 i50:=by kernel_rfl
 t52:=underlying202
 a52:=isAgg202
 z52:=sizeOf202
 v52:=zeroValue202
 i52:=by kernel_rfl
 t55:=underlying204
 a55:=isAgg204
 z55:=sizeOf204
 v55:=zeroValue204
 i55:=by kernel_rfl
 t59:=underlying234
 a59:=isAgg234
 z59:=sizeOf234
 v59:=zeroValue234
 i59:=by kernel_rfl
 t60:=underlying102
 a60:=isAgg102
 z60:=sizeOf102
 v60:=zeroValue102
 i60:=by kernel_rfl
 t61:=underlying235
 a61:=isAgg235
 z61:=sizeOf235
 t65:=underlying177
 a65:=isAgg177
 z65:=sizeOf177
 v65:=zeroValue177
 i65:=by kernel_rfl
 t66:=underlying257
 a66:=isAgg257
 z66:=sizeOf257
 v66:=zeroValue257
 i66:=by kernel_rfl
 t67:=underlying48
 a67:=isAgg48
 z67:=sizeOf48
 v67:=zeroValue48
 i67:=by kernel_rfl
 g0:=by kernel_rfl
 m0:=by kernel_rfl
 g1:=by kernel_rfl
 m1:=by kernel_rfl
 g2:=by kernel_rfl
 m2:=by kernel_rfl
 g3:=by kernel_rfl
 m3:=by kernel_rfl
 g4:=by kernel_rfl
 m4:=by kernel_rfl }
theorem WC:Tryz.RM.f 14=106:=by kernel_rfl
theorem aa1:Tryz.RM.t 5=5:=by kernel_rfl
theorem PI (M:Nat) (hM:M=2^64-1):∀(l:List UInt8) (a:Nat),(∀c∈l,cF c)->aM a l<10^18->Lib.parseUintM M a l=.ok (aM a l):=by
 intro l
 induction l with
 |nil=>intro a _ _;rfl
 |cons c l ih=>
  intro a h hb;have hc:cF c:=h c (mT ..)
  have hge:∀(l:List UInt8) (a:Nat),a<=aM a l:=by
   intro l
   induction l with
   |nil=>intro a;exact ae _
   |cons c l ih2=>intro a;exact ct (by omega) (ih2 (a*10+(c.toNat-48)))
  have h1:=hge l (a*10+(c.toNat-48));have h2:aM a (c::l)=aM (a*10+(c.toNat-48)) l:=rfl;have h18:(10:Nat)^18=1000000000000000000:=by decide
  have h64:(2:Nat)^64=18446744073709551616:=by decide
  unfold cF at hc;unfold Lib.parseUintM;rw[aj hc,ag (by omega),ag (by omega)];rw[h2]at hb ⊢;exact ih _ (fun d hd=>h d (n8 _ hd)) hb
theorem QX (bs:List UInt8) (t:ByteArray) (ht:t=⟨bs.toArray⟩) (h:∀c∈bs,cF c) (h1:1<=bs.length) (h9:bs.length<=9) (w:World):
  Calls prog 106 #[.string t,.int .i64 10,.int .i64 64] w fun e w'=>e=.returned (.tuple #[.int .u64 ((aM 0 bs:Nat):Int),.nilIface])/\Below w.heap.size w w':=by
 have hz:t.size=bs.length:=by rw[ht];rfl
 have hd:t.data.toList=bs:=by rw[ht]
 have hlt:=pg bs 0 h;have hle:(10:Nat)^bs.length<=10^9:=aG (by omega) h9;have h9':(10:Nat)^9=1000000000:=by decide
 have h18:(10:Nat)^18=1000000000000000000:=by decide
 have hp:Lib.parseUintB 64 t.data.toList=.ok (aM 0 bs):=by
  rw[hd];unfold Lib.parseUintB;rw[ag (by intro e;rw[e]at h1;simp at h1)];exact PI _ rfl bs 0 h (by omega)
 have hk:=Any.strconv_ParseUint_10_at64_ok Tryz.laysPu10 t (by omega) _ hp w;rw[WC,aa1]at hk;refine hk.mono ?_;rintro e w' ⟨rfl,rfl|rfl⟩
 .exact⟨rfl,Below.refl _ _⟩
 .exact⟨rfl,vH w _ t⟩
theorem tZ (a:Nat) (l m:List UInt8):aM a (l++m)=aM (aM a l) m:=by
 induction l generalizing a with
 |nil=>rfl
 |cons c l ih=>exact ih _
theorem AJ:∀(l:List UInt8) (a:Nat),aM a l=a*10^l.length+aM 0 l:=by
 intro l
 induction l with
 |nil=>
  intro a;have e1:aM a []=a:=rfl;have e2:aM 0 []=0:=rfl;rw[e1,e2,Ac,jT,fI,kW]
 |cons c l ih=>
  intro a;have e1:aM a (c::l)=aM (a*10+(c.toNat-48)) l:=rfl;have e2:aM 0 (c::l)=aM (0*10+(c.toNat-48)) l:=rfl;rw[e1,e2,ih (a*10+(c.toNat-48)),ih (0*10+(c.toNat-48)),iq,jw,a_,ez,bH,aF,aW 10 (10^l.length),qG]
theorem mv (n:Nat):10^n<2^(4*n+1):=by
 have h:10^n<=16^n:=wk (by omega) n;rw[show(16:Nat)=2^4 by decide,<-jU]at h;rw[bH];have :=az (4*n);omega
theorem Ek (l:List UInt8) (h:∀c∈l,cF c):aM 0 l<2^(4*l.length+1):=by
 have h1:=pg l 0 h;have h2:=mv l.length;omega
theorem uy (n:Nat) (X:Int) (w:World) (hX:X=(n:Int)) (hn:n<=20000):
  Calls prog 65 #[.int .u64 10,.int .i64 X] w (kn w (10^n)):=by
 subst hX;have :=If 10 n (4*n+1) w (by omega) (by omega) (by omega) (mv n) (by omega)
 simpa using this
theorem Hx (bs:List UInt8) (t:ByteArray) (ht:t=⟨bs.toArray⟩) (h:∀c∈bs,cF c) (hl:bs.length<=2000) (w:World):
  Calls prog 64 #[.string t] w (kn w (aM 0 bs)):=by
 have HH:=hid h;have HT:=hid ht;clear h ht;go_enter func64,ntmps64;go_wp2
 go_loopg [0,3] bs.length (fun k sv ov wr=>∃(l r:List UInt8) (S:ByteArray),r.length<=k/\sv=.string S/\S.size=r.length/\Hid (S=⟨r.toArray⟩/\bs=l++r)/\Hid (NV wr ov (aM 0 l))/\Hid (Below w.heap.size w wr))
 case atStart=>exact⟨[],bs,t,ae _,rfl,by rw[HT.out];rfl,hid ⟨HT.out,rfl⟩,hid (NV.nil _),hid (Below.refl _ _)⟩
 case round=>
  obtain⟨l,r,S,hrk,rfl,hz,HS,HO,HB⟩:=hrel;have hlr:l.length+r.length=bs.length:=by rw[HS.out.2,ck]
  rcases fl r.length with hr0|hr0
  .have hrn:r=[]:=gp.1 hr0
   have hbl:bs=l:=by rw[HS.out.2,hrn,n9]
   have HBL:=hid hbl;obtain⟨a1,n1,c1,rfl⟩:=HO.out.shape;rw[hr0]at hz;clear hrn hbl hlr hr0;go_wp2;go_ret;exact⟨_,rfl,by rw[HBL.out];exact HO.out,HB.out⟩
  .obtain⟨k,hk⟩:∃k,k=min r.length 9:=⟨_,rfl⟩
   have hk1:1<=k/\k<=9/\k<=r.length:=by omega
   obtain⟨k1,k8,kr⟩:=hk1;have hmin:min ((r.length:Nat):Int) 9=(k:Int):=by omega
   have hA:∀c∈r.take k,cF c:=fun c hc=>HH.out c (by rw[HS.out.2];exact ah9 _ (kU hc))
   have hla:∀c∈l,cF c:=fun c hc=>HH.out c (by rw[HS.out.2];exact Ol _ hc)
   have hlen:(r.take k).length=k:=by rw[dj];omega
   obtain⟨T,hT⟩:∃T:ByteArray,T=S.extract 0 k:=⟨_,rfl⟩
   have hT2:T=⟨(r.take k).toArray⟩:=by
    rw[hT,HS.out.1];apply eK;simp [ir]
   obtain⟨U,hU⟩:∃U:ByteArray,U=S.extract k S.size:=⟨_,rfl⟩
   have hU2:U=⟨(r.drop k).toArray⟩:=by
    rw[hU,HS.out.1];apply eK;simp [ir];rw[dI];simp [ByteArray.size]
   have hUz:U.size=r.length-k:=by rw[hU2];show(r.drop k).toArray.size=_;simp
   have PU:=hid (fun w'=>QX (r.take k) T hT2 hA (by omega) (by omega) w');have hnb:=pg (r.take k) 0 hA;have hle:(10:Nat)^(r.take k).length<=10^9:=aG (by omega) (by omega);have e168:(10:Nat)^9=1000000000:=by decide
   obtain⟨n,hn⟩:∃n,n=aM 0 (r.take k):=⟨_,rfl⟩;rw[<-hn]at PU;have hn2:n<4294967296:=by rw[hn];omega
   have OF:=hid (fun w'=>dU (n:Int) (by omega) (by omega) w');simp only[gf]at OF;obtain⟨K0,hK0,hK1⟩:∃K0,9000<=K0/\K0<=9000:=⟨9000,by omega,by omega⟩;have hlb:aM 0 l<2^K0:=aX (Ek l hla) (aG (by omega) (by omega));have hpw:10^k<2^37:=aX (mv k) (aG (by omega) (by omega));have PW:=hid (fun X w' (hX:X=((k:Nat):Int))=>uy k X w' hX (by omega));have TM:=hid (fun va vb w' (hv:NV w' va (aM 0 l)) (hp:NV w' vb (10^k))=>kB va vb _ _ K0 w' hv hp hlb (aX hpw (aG (by omega) (show 37<=K0 by omega))) (by omega));have hsum:aM 0 l*10^k+n=aM 0 (l++r.take k):=by rw[tZ,AJ _ (aM 0 l),hlen,hn]
   have hpb:aM 0 l*10^k<2^(K0+37):=by
    rw[aB];exact de (cZ _ (gn hpw)) (cS hlb (az _))
   have hnk:n<2^(K0+37):=aX (show n<2^32 by omega) (aG (by omega) (by omega));have PL:=hid (fun va vb w' (ha:NV w' va (aM 0 l*10^k)) (hb:NV w' vb n)=>by have h:=gN va vb _ n (K0+37) w' ha hb hpb hnk (by omega);rw[hsum]at h;exact h);have HREST:Hid (bs=(l++r.take k)++r.drop k):=hid (by rw[px,nX];exact HS.out.2);have HU2:=hid hU2;have hks:(k:Int)<=((r.length:Nat):Int):=by omega
   have hrp:(0:Int)<((r.length:Nat):Int):=by omega
   have hud:(r.drop k).length=r.length-k:=by simp
   obtain⟨rl,hrl⟩:∃rl,rl=r.length:=⟨_,rfl⟩;rw[<-hrl]at hz hmin hks hrp hUz hud kr hrk;rw[hz]at hU;have HT1:Hid (S.extract 0 k=T):=hid hT.symm;have HU1:Hid (S.extract k rl=U):=hid hU.symm;clear hk hA hla hlen hT hT2 hU hU2 hnb hle e168 hn hn2 hlb hsum hpb hnk hlr hr0 hrl HS hpw;go_wp2_with fail
   rw[HT1.out];refine(PU.out _).mono ?_;rintro e w1 ⟨rfl,hb⟩;replace HO:=hid (HO.out.below hb);replace HB:=hid (af HB.out (Nat.le_refl _) hb);clear hb;go_wp2_with fail
   refine(PW.out _ _ (by first|rfl|omega)).mono ?_;rintro e w2 ⟨v2,rfl,hv,hb⟩;have N2:=hid hv;replace HO:=hid (HO.out.below hb);replace HB:=hid (af HB.out (Nat.le_refl _) hb);clear hv hb;go_wp2_with fail
   refine(TM.out _ _ _ HO.out N2.out).mono ?_;rintro e w2 ⟨v2,rfl,hv,hb⟩;clear N2;have N2:=hid hv;replace HB:=hid (af HB.out (Nat.le_refl _) hb);clear hv hb HO;go_wp2_with fail
   refine(OF.out _).mono ?_;rintro e w3 ⟨v3,rfl,hv,hb⟩;have N3:=hid hv;replace N2:=hid (N2.out.below hb);replace HB:=hid (af HB.out (Nat.le_refl _) hb);clear hv hb;go_wp2_with fail
   refine(PL.out _ _ _ N2.out N3.out).mono ?_;rintro e w4 ⟨v4,rfl,hv,hb⟩;have N4:=hid hv;replace HB:=hid (af HB.out (Nat.le_refl _) hb);clear hv hb;go_wp2;try rw[HU1.out]
   go_roundg (gk-1)
   case measure=>omega
   case rel=>exact⟨l++r.take k,r.drop k,U,by omega,by first|rfl|(rw[HU1.out]),by omega,hid ⟨HU2.out,HREST.out⟩,N4,HB⟩
open Go.RowKit Nt Fm Fl
def nG (a:Nat) (k e:Int):Nat:=a*10^k.toNat*2^(-e).toNat
def mX (b:Nat) (k e:Int):Nat:=b*2^e.toNat*10^(-k).toNat
theorem Bs (va vb:Value) (a b:Nat) (k e:Int) (kd:Nat) (w:World) (ha:NV w va a) (hb:NV w vb b) (ham:a<2^kd) (hbm:b<2^kd) (hkd:kd<=12800) (k0: -3000<=k) (k1:k<=3000) (e0: -3000<=e) (e1:e<=3000):
  Calls prog 236 #[va,.int .i64 k,vb,.int .i64 e] w fun r w'=>r=.returned (.int .i64 (aK (nG a k e) (mX b k e)))/\Below w.heap.size w w':=by
 obtain⟨aa,an,ac,rfl⟩:=ha.shape;obtain⟨ba,bn,bc,rfl⟩:=hb.shape
 have hAm:a*10^k.toNat<2^(kd+(4*k.toNat+1)):=by
  rw[aB];exact wm ham (gn (mv _)) (az _)
 have hBm:b*2^e.toNat<2^(kd+e.toNat):=by
  rw[aB];exact cS hbm (az _)
 have PW:=hid (fun X w' (hX:X=((k.toNat:Nat):Int))=>uy k.toNat X w' hX (by omega));have TM:=hid (fun vb w' (h:NV w' (.slice aa an ac) a) (h2:NV w' vb (10^k.toNat))=>kB _ vb a (10^k.toNat) (kd+(4*k.toNat+1)) w' h h2 (aX ham (aG (by omega) (by omega))) (aX (mv _) (aG (by omega) (by omega))) (by omega));have LF:=hid (fun va X w' (h:NV w' va (a*10^k.toNat)) (hX:X=(((-e).toNat:Nat):Int))=>f_ va _ (-e).toNat (kd+(4*k.toNat+1)) X w' h hX hAm (by omega) (by omega));have LG:=hid (fun X w' (h:NV w' (.slice ba bn bc) b) (hX:X=((e.toNat:Nat):Int))=>f_ _ b e.toNat kd X w' h hX hbm (by omega) (by omega));have PX:=hid (fun X w' (hX:X=(((-k).toNat:Nat):Int))=>uy (-k).toNat X w' hX (by omega));have TN:=hid (fun va vb w' (h:NV w' va (b*2^e.toNat)) (h2:NV w' vb (10^(-k).toNat))=>kB va vb _ (10^(-k).toNat) (kd+e.toNat+(4*(-k).toNat+1)) w' h h2 (aX hBm (aG (by omega) (by omega))) (aX (mv _) (aG (by omega) (by omega))) (by omega));have CP:=hid (fun va vb w' (h:NV w' va (nG a k e)) (h2:NV w' vb (mX b k e))=>jF va vb _ _ w' h h2);have m1:=hid (show max k 0=((k.toNat:Nat):Int) by omega);have m2:=hid (show max (IntKind.i64.wrap (-e)) 0=(((-e).toNat:Nat):Int) by rw[IntWalk.i64_in _ (by omega)];omega);have m3:=hid (show max e 0=((e.toNat:Nat):Int) by omega);have m4:=hid (show max (IntKind.i64.wrap (-k)) 0=(((-k).toNat:Nat):Int) by rw[IntWalk.i64_in _ (by omega)];omega);have m5:=hid (show max (-e) 0=(((-e).toNat:Nat):Int) by omega);have m6:=hid (show max (-k) 0=(((-k).toNat:Nat):Int) by omega);have HA:=hid ha
 have HB:=hid hb;have B:Hid (Below w.heap.size w w):=hid (Below.refl _ _);clear ha hb ham hbm hAm hBm;go_enter func236,ntmps236;go_wp2_with fail
 refine(PW.out _ _ m1.out).mono ?_;rintro r w1 ⟨v1,rfl,h1,hb1⟩;replace B:=hid (af B.out (Nat.le_refl _) hb1);replace HA:=hid (HA.out.below hb1);replace HB:=hid (HB.out.below hb1);have V1:=hid h1;clear h1 hb1;go_wp2_with fail
 refine(TM.out _ _ HA.out V1.out).mono ?_;rintro r w2 ⟨v2,rfl,h2,hb2⟩;replace B:=hid (af B.out (Nat.le_refl _) hb2);replace HB:=hid (HB.out.below hb2);have V2:=hid h2;clear h2 hb2 V1 HA;go_wp2_with fail
 refine(LF.out _ _ _ V2.out (by first|exact m2.out|exact m5.out)).mono ?_;rintro r w3 ⟨v3,rfl,h3,hb3⟩;replace B:=hid (af B.out (Nat.le_refl _) hb3);replace HB:=hid (HB.out.below hb3);have V3:Hid (NV w3 v3 (nG a k e)):=hid h3;clear h3 hb3 V2;go_wp2_with fail
 refine(LG.out _ _ HB.out m3.out).mono ?_;rintro r w4 ⟨v4,rfl,h4,hb4⟩;replace B:=hid (af B.out (Nat.le_refl _) hb4);replace V3:=hid (V3.out.below hb4);have V4:=hid h4;clear h4 hb4 HB;go_wp2_with fail
 refine(PX.out _ _ (by first|exact m4.out|exact m6.out)).mono ?_;rintro r w5 ⟨v5,rfl,h5,hb5⟩;replace B:=hid (af B.out (Nat.le_refl _) hb5);replace V3:=hid (V3.out.below hb5);replace V4:=hid (V4.out.below hb5);have V5:=hid h5;clear h5 hb5;go_wp2_with fail
 refine(TN.out _ _ _ V4.out V5.out).mono ?_;rintro r w6 ⟨v6,rfl,h6,hb6⟩;replace B:=hid (af B.out (Nat.le_refl _) hb6);replace V3:=hid (V3.out.below hb6);have V6:Hid (NV w6 v6 (mX b k e)):=hid h6;clear h6 hb6 V4 V5;go_wp2_with fail
 refine(CP.out _ _ _ V3.out V6.out).mono ?_;rintro r w7 ⟨rfl,n,rfl⟩;go_wp2;go_ret;exact⟨rfl,dh B.out⟩
def cw (w:World) (b:Nat) (T:TypeId) (c0 c1 c2 c3 c4:Value):Prop:=w.heap[b]?=some (.cells #[c0,c1,c2,c3,c4] T (0,0))
section
variable {w w':World}{b:Nat}{T:TypeId}{c0 c1 c2 c3 c4:Value}
theorem cw.new (w:World) (c0 c1 c2 c3 c4:Value) (T:TypeId):cw (w.alloc (.cells #[c0,c1,c2,c3,c4] T)) w.heap.size T c0 c1 c2 c3 c4:=heap_alloc_new w _
theorem cw.lt (h:cw w b T c0 c1 c2 c3 c4):b<w.heap.size:=(mQ.1 h).1
theorem cw.below (h:cw w b T c0 c1 c2 c3 c4) (hb:Below w.heap.size w w'):cw w' b T c0 c1 c2 c3 c4:=(hb.block b h.lt).trans h
theorem cw.alloc (h:cw w b T c0 c1 c2 c3 c4) (o:Obj):cw (w.alloc o) b T c0 c1 c2 c3 c4:=h.below ((Below.refl _ _).alloc (Nat.le_refl _) o)
theorem cw.cells (h:cw w b T c0 c1 c2 c3 c4):
  w.cell? ⟨b,0,none⟩=some c0/\w.cell? ⟨b,1,none⟩=some c1/\w.cell? ⟨b,2,none⟩=some c2/\w.cell? ⟨b,3,none⟩=some c3/\w.cell? ⟨b,4,none⟩=some c4/\
  w.frozen? ⟨b,0,none⟩=false/\w.frozen? ⟨b,1,none⟩=false/\w.frozen? ⟨b,2,none⟩=false/\w.frozen? ⟨b,3,none⟩=false/\w.frozen? ⟨b,4,none⟩=false:=by
 unfold cw at h;refine⟨?_,?_,?_,?_,?_,?_,?_,?_,?_,?_⟩ <;> simp [World.cell?,World.frozen?,h]
theorem cw.set0 (h:cw w b T c0 c1 c2 c3 c4) (v:Value):cw (w.setCell ⟨b,0,none⟩ v) b T v c1 c2 c3 c4:=heap_set h
theorem cw.set1 (h:cw w b T c0 c1 c2 c3 c4) (v:Value):cw (w.setCell ⟨b,1,none⟩ v) b T c0 v c2 c3 c4:=heap_set h
theorem cw.set2 (h:cw w b T c0 c1 c2 c3 c4) (v:Value):cw (w.setCell ⟨b,2,none⟩ v) b T c0 c1 v c3 c4:=heap_set h
theorem cw.set3 (h:cw w b T c0 c1 c2 c3 c4) (v:Value):cw (w.setCell ⟨b,3,none⟩ v) b T c0 c1 c2 v c4:=heap_set h
theorem cw.set4 (h:cw w b T c0 c1 c2 c3 c4) (v:Value):cw (w.setCell ⟨b,4,none⟩ v) b T c0 c1 c2 c3 v:=heap_set h
def set5 (w:World) (b:Nat) (d0 d1 d2 d3 d4:Value):World:=((((w.setCell ⟨b,0,none⟩ d0).setCell ⟨b,1,none⟩ d1).setCell ⟨b,2,none⟩ d2).setCell ⟨b,3,none⟩ d3).setCell ⟨b,4,none⟩ d4
theorem cw.set5 (h:cw w b T c0 c1 c2 c3 c4) (d0 d1 d2 d3 d4:Value):cw (set5 w b d0 d1 d2 d3 d4) b T d0 d1 d2 d3 d4:=((((h.set0 d0).set1 d1).set2 d2).set3 d3).set4 d4
theorem cw.set {b' o:Nat}(h:cw w b T c0 c1 c2 c3 c4) (hb:b≠b') (v:Value):cw (w.setCell ⟨b',o,none⟩ v) b T c0 c1 c2 c3 c4:=(Below.heap_setCell _ _ _ _ hb).trans h
theorem NV.setBx {v:Value}{n:Nat}(h:NV w v n) (hb:cw w b T c0 c1 c2 c3 c4) (h0:dZ c0) (h1:dZ c1) (h2:dZ c2) (h3:dZ c3) (h4:dZ c4) (o:Nat) (u:Value):NV (w.setCell ⟨b,o,none⟩ u) v n:=by
 refine h.other (B:=b) ?_ (by simp [World.setCell]) (fun k hk=>Below.heap_setCell _ _ _ _ hk);intro o;unfold cw at hb;simp only[World.cell?,hb]
 match o with
 | 0=>simpa using h0
 | 1=>simpa using h1
 | 2=>simpa using h2
 | 3=>simpa using h3
 | 4=>simpa using h4
 |o+5=>simp
theorem NV.setB5 {v:Value}{n:Nat}{d0 d1 d2 d3 d4:Value}(h:NV w v n) (hb:cw w b T c0 c1 c2 c3 c4) (h0:dZ c0) (h1:dZ c1) (h2:dZ c2) (h3:dZ c3) (h4:dZ c4) (k0:dZ d0) (k1:dZ d1) (k2:dZ d2) (k3:dZ d3):NV (set5 w b d0 d1 d2 d3 d4) v n:=
 ((((h.setBx hb h0 h1 h2 h3 h4 0 d0).setBx (hb.set0 d0) k0 h1 h2 h3 h4 1 d1).setBx ((hb.set0 d0).set1 d1) k0 k1 h2 h3 h4 2 d2).setBx (((hb.set0 d0).set1 d1).set2 d2) k0 k1 k2 h3 h4 3 d3).setBx ((((hb.set0 d0).set1 d1).set2 d2).set3 d3) k0 k1 k2 k3 h4 4 d4
theorem Nw {B:Nat}{w1:World}(h:Below B w w1) (hb:B<=b) (d0 d1 d2 d3 d4:Value):Below B w (set5 w1 b d0 d1 d2 d3 d4):=((((h.setCell hb _).setCell hb _).setCell hb _).setCell hb _).setCell hb _
end
def aP (x:Int):Nat:=if 0<dy x then(c8 x+4503599627370496).toNat else(c8 x).toNat
def bw (x:Int):Int:=max (dy x) 1-1077
def dB (x:Int):Nat:=if c8 x=0/\1<dy x then 4*aP x-1 else 4*aP x-2
def Je (w:World) (x:Int) (v:Value):Prop:= ∃a b c,v=.agg #[a,b,c,.int .i64 (bw x),.bool (decide (c8 x%2=0))]/\NV w a (4*aP x)/\NV w b (dB x)/\NV w c (4*aP x+2)
theorem Vg (x:Int) (e f:Int) (he:0<=e/\e<=2047) (hf:0<=f/\f<=4503599627370495) (h1:f=0) (h2:1<e) (w:World)
  (HP:Hid (∀w':World,Calls prog 22 #[.int .u64 x] w' fun e1 w2=>e1=.returned (.tuple #[.bool (di x),.int .i64 e,.int .u64 f])/\w'=w2)):
  Calls prog 234 #[.int .u64 x] w fun r w'=>∃v,r=.returned v/\(∃a b c,v=.agg #[a,b,c,.int .i64 (max e 1-1077),.bool (decide (f%2=0))]/\NV w' a (4*(f+4503599627370496).toNat)/\NV w' b (4*(f+4503599627370496).toNat-1)/\NV w' c (4*(f+4503599627370496).toNat+2))/\Below w.heap.size w w':=by
 subst h1;have hor:=D_ 0 (by omega) (by omega);obtain⟨M,hM⟩:∃M:Int,(0:Int)+4503599627370496=M:=⟨_,rfl⟩;rw[hM]at hor ⊢;have h0:0<e:=by omega
 have hd:decide ((0:Int)%2=0)=true:=by decide
 rw[hd];have w1:IntKind.u64.wrap (4*M)=4*M:=IntWalk.u64_in _ (by omega);have w2:IntKind.u64.wrap (4*M-2)=4*M-2:=IntWalk.u64_in _ (by omega);have w3:IntKind.u64.wrap (4*M+2)=4*M+2:=IntWalk.u64_in _ (by omega);have w4:IntKind.u64.wrap (4*M-1)=4*M-1:=IntWalk.u64_in _ (by omega);have OF:=hid (fun y w' (h0:0<=y) (h1:y<=18446744073709551615)=>dU y h0 h1 w');have hq:=hid (show max e 1-1077=max e 1-1075-2 by omega);rw[hq.out];go_enter func234,ntmps234;go_wp2_with (go_at_call 22;refine(HP.out _).mono ?_;rintro e1 w' ⟨rfl,rfl⟩)
 refine(OF.out _ _ (by omega) (by omega)).mono ?_;rintro r w1 ⟨v1,rfl,h1,hb1⟩;obtain⟨a1,n1,c1,rfl⟩:=h1.shape;have Z1:=hid ((cw.new w (.slice none 0 0) (.slice none 0 0) (.slice none 0 0) (.int .i64 0) (.bool false) 243).below hb1);have B1:=hid (af ((Below.refl w.heap.size w).alloc (Nat.le_refl _) _) (Nat.le_refl _) hb1);have V1:=hid h1;clear h1 hb1;go_wp2_with fail
 refine(OF.out _ _ (by omega) (by omega)).mono ?_;rintro r w2 ⟨v2,rfl,h2,hb2⟩;obtain⟨a2,n2,c2,rfl⟩:=h2.shape;have Z2:=hid (Z1.out.below hb2);have B2:=hid (af B1.out (Nat.le_refl _) hb2);replace V1:=hid (V1.out.below hb2);have V2:=hid h2;clear h2 hb2;go_wp2_with fail
 refine(OF.out _ _ (by omega) (by omega)).mono ?_;rintro r w3 ⟨v3,rfl,h3,hb3⟩;obtain⟨a3,n3,c3,rfl⟩:=h3.shape;have Z3:=hid (Z2.out.below hb3);have B3:=hid (af B2.out (Nat.le_refl _) hb3);replace V1:=hid (V1.out.below hb3);replace V2:=hid (V2.out.below hb3);have V3:=hid h3;clear h3 hb3;have hB:w.heap.size<w3.heap.size:=Z3.out.lt;obtain⟨V,hV⟩:∃V,V=w3.alloc (.cells #[.slice a1 n1 c1,.slice a2 n2 c2,.slice a3 n3 c3,.int .i64 (max e 1-1075-2),.bool true] 243):=⟨_,rfl⟩;have X4:Hid (cw V w3.heap.size 243 (.slice a1 n1 c1) (.slice a2 n2 c2) (.slice a3 n3 c3) (.int .i64 (max e 1-1075-2)) (.bool true)):=hid (by rw[hV];exact cw.new w3 (.slice a1 n1 c1) (.slice a2 n2 c2) (.slice a3 n3 c3) (.int .i64 (max e 1-1075-2)) (.bool true) 243);have Z4:Hid (cw V w.heap.size 243 (.slice none 0 0) (.slice none 0 0) (.slice none 0 0) (.int .i64 0) (.bool false)):=hid (by rw[hV];exact Z3.out.alloc _);have B4:Hid (Below w.heap.size w V):=hid (by rw[hV];exact B3.out.alloc B3.out.size _);replace V1:Hid (NV V (.slice a1 n1 c1) _):=hid (by rw[hV];exact V1.out.alloc _);replace V2:Hid (NV V (.slice a2 n2 c2) _):=hid (by rw[hV];exact V2.out.alloc _);replace V3:Hid (NV V (.slice a3 n3 c3) _):=hid (by rw[hV];exact V3.out.alloc _);obtain⟨bx,hbx⟩:∃bx,bx=w3.heap.size:=⟨_,rfl⟩;rw[<-hbx]at X4 hB;go_wp2_with fail
 rw[<-hV];refine(OF.out _ _ (by omega) (by omega)).mono ?_;rintro r w4 ⟨v4,rfl,h4,hb4⟩;obtain⟨a4,n4,c4,rfl⟩:=h4.shape;have X5:=hid (X4.out.below hb4);have Z5:=hid (Z4.out.below hb4);have B5:=hid (af B4.out (Nat.le_refl _) hb4);replace V1:=hid (V1.out.below hb4);replace V3:=hid (V3.out.below hb4);have V4:=hid h4;clear h4 hb4 hV V2;rw[<-hbx];clear hbx;have X6:=hid (X5.out.set1 (.slice a4 n4 c4));have Z6:=hid (Z5.out.set (b':=bx) (o:=1) (by omega) (.slice a4 n4 c4));obtain⟨p0,p1,p2,p3,p4,r0,r1,r2,r3,r4⟩:=X5.out.cells;obtain⟨u0,u1,u2,u3,u4,g0,g1,g2,g3,g4⟩:=X6.out.cells;obtain⟨s0,s1,s2,s3,s4,t0,t1,t2,t3,t4⟩:=Z6.out.cells;go_wp2;have Z7:=hid (Z6.out.set5 (.slice a1 n1 c1) (.slice a4 n4 c4) (.slice a3 n3 c3) (.int .i64 (max e 1-1075-2)) (.bool true));clear s0 s1 s2 s3 s4 t0 t1 t2 t3 t4 u0 u1 u2 u3 u4 g0 g1 g2 g3 g4 p0 p1 p2 p3 p4 r0 r1 r2 r3 r4;obtain⟨s0,s1,s2,s3,s4,t0,t1,t2,t3,t4⟩:=Z7.out.cells;unfold set5 at s0 s1 s2 s3 s4;refine bodyPost_ret (v:= .agg #[.slice a1 n1 c1,.slice a4 n4 c4,.slice a3 n3 c3,.int .i64 (max e 1-1075-2),.bool true]) (by simp [results,Tryz.results234,go_sem,s0,s1,s2,s3,s4]) rfl ?_
 have st:∀ {v:Value}{n:Nat},NV w4 v n->NV (set5 (w4.setCell ⟨bx,1,none⟩ (.slice a4 n4 c4)) w.heap.size (.slice a1 n1 c1) (.slice a4 n4 c4) (.slice a3 n3 c3) (.int .i64 (max e 1-1075-2)) (.bool true)) v n:=fun h=>
  (h.setBx X5.out (dO _ _ _) (dO _ _ _) (dO _ _ _) (kq _) (ml _) 1 _).setB5 Z6.out (dO _ _ _) (dO _ _ _) (dO _ _ _) (kq _) (ml _) (dO a1 n1 c1) (dO a4 n4 c4) (dO a3 n3 c3) (kq (max e 1-1075-2)) (d4:= .bool true)
 refine⟨_,rfl,⟨_,_,_,rfl,?_,?_,?_⟩,Nw (B5.out.setCell (p:=⟨bx,1,none⟩) (by show _<=bx;omega) _) (Nat.le_refl _) _ _ _ _ _⟩
 .rw[show 4*M.toNat=(4*M).toNat by omega];exact st V1.out
 .rw[show 4*M.toNat-1=(4*M-1).toNat by omega];exact st V4.out
 .rw[show 4*M.toNat+2=(4*M+2).toNat by omega];exact st V3.out
theorem AI (x e f M:Int) (he:0<=e/\e<=2047) (hf:0<=f/\f<=4503599627370495) (h:(0<e/\M=f+4503599627370496/\f≠0)\/(e=1/\M=f+4503599627370496/\f=0)\/(e=0/\M=f/\f≠0)) (w:World)
  (HP:Hid (∀w':World,Calls prog 22 #[.int .u64 x] w' fun e1 w2=>e1=.returned (.tuple #[.bool (di x),.int .i64 e,.int .u64 f])/\w'=w2)):
  Calls prog 234 #[.int .u64 x] w fun r w'=>∃v,r=.returned v/\(∃a b c,v=.agg #[a,b,c,.int .i64 (max e 1-1077),.bool (decide (f%2=0))]/\NV w' a (4*M.toNat)/\NV w' b (4*M.toNat-2)/\NV w' c (4*M.toNat+2))/\Below w.heap.size w w':=by
 have hev:(f%2==0)=decide (f%2=0):=by rw[uj];simp
 obtain⟨ev,hev2⟩:∃ev,ev=decide (f%2=0):=⟨_,rfl⟩;rw[<-hev2]at hev ⊢;clear hev2;have hor:=D_ f (by omega) (by omega);have hMb:1<=M/\M<=9007199254740991:=by omega
 have w1:IntKind.u64.wrap (4*M)=4*M:=IntWalk.u64_in _ (by omega);have w2:IntKind.u64.wrap (4*M-2)=4*M-2:=IntWalk.u64_in _ (by omega);have w3:IntKind.u64.wrap (4*M+2)=4*M+2:=IntWalk.u64_in _ (by omega);have hfe:(f==0)=decide (f=0):=by rw[uj];simp
 rcases h with⟨h0,hM,h1⟩|⟨h0,hM,h1⟩|⟨h0,hM,h1⟩
 case' inl=>rw[<-hM]at hor;rw[e_ h1]at hfe;clear hM h1
 case' inr.inl=>rw[<-hM]at hor;rw[fR h1]at hfe;have h3:¬1<e:=by omega
 case' inr.inl=>replace h0:0<e:=by omega
 case' inr.inl=>clear hM h1
 case' inr.inr=>subst hM;rw[e_ h1]at hfe;replace h0:¬0<e:=by omega
 case' inr.inr=>clear h1 hor
 all_goals
  have OF:=hid (fun y w' (h0:0<=y) (h1:y<=18446744073709551615)=>dU y h0 h1 w');have hq:=hid (show max e 1-1077=max e 1-1075-2 by omega);rw[hq.out];go_enter func234,ntmps234;go_wp2_with (go_at_call 22;refine(HP.out _).mono ?_;rintro e1 w' ⟨rfl,rfl⟩)
  refine(OF.out _ _ (by omega) (by omega)).mono ?_;rintro r w1 ⟨v1,rfl,h1,hb1⟩;obtain⟨a1,n1,c1,rfl⟩:=h1.shape;have Z1:=hid ((cw.new w (.slice none 0 0) (.slice none 0 0) (.slice none 0 0) (.int .i64 0) (.bool false) 243).below hb1);have B1:=hid (af ((Below.refl w.heap.size w).alloc (Nat.le_refl _) _) (Nat.le_refl _) hb1);have V1:=hid h1;clear h1 hb1;go_wp2_with fail
  refine(OF.out _ _ (by omega) (by omega)).mono ?_;rintro r w2 ⟨v2,rfl,h2,hb2⟩;obtain⟨a2,n2,c2,rfl⟩:=h2.shape;have Z2:=hid (Z1.out.below hb2);have B2:=hid (af B1.out (Nat.le_refl _) hb2);replace V1:=hid (V1.out.below hb2);have V2:=hid h2;clear h2 hb2;go_wp2_with fail
  refine(OF.out _ _ (by omega) (by omega)).mono ?_;rintro r w3 ⟨v3,rfl,h3,hb3⟩;obtain⟨a3,n3,c3,rfl⟩:=h3.shape;have Z3:=hid (Z2.out.below hb3);have B3:=hid (af B2.out (Nat.le_refl _) hb3);replace V1:=hid (V1.out.below hb3);replace V2:=hid (V2.out.below hb3);have V3:=hid h3;clear h3 hb3;have hB:w.heap.size<w3.heap.size:=Z3.out.lt;obtain⟨V,hV⟩:∃V,V=w3.alloc (.cells #[.slice a1 n1 c1,.slice a2 n2 c2,.slice a3 n3 c3,.int .i64 (max e 1-1075-2),.bool ev] 243):=⟨_,rfl⟩;have X4:Hid (cw V w3.heap.size 243 (.slice a1 n1 c1) (.slice a2 n2 c2) (.slice a3 n3 c3) (.int .i64 (max e 1-1075-2)) (.bool ev)):=hid (by rw[hV];exact cw.new w3 (.slice a1 n1 c1) (.slice a2 n2 c2) (.slice a3 n3 c3) (.int .i64 (max e 1-1075-2)) (.bool ev) 243);have Z4:Hid (cw V w.heap.size 243 (.slice none 0 0) (.slice none 0 0) (.slice none 0 0) (.int .i64 0) (.bool false)):=hid (by rw[hV];exact Z3.out.alloc _);have B4:Hid (Below w.heap.size w V):=hid (by rw[hV];exact B3.out.alloc B3.out.size _);replace V1:Hid (NV V (.slice a1 n1 c1) _):=hid (by rw[hV];exact V1.out.alloc _);replace V2:Hid (NV V (.slice a2 n2 c2) _):=hid (by rw[hV];exact V2.out.alloc _);replace V3:Hid (NV V (.slice a3 n3 c3) _):=hid (by rw[hV];exact V3.out.alloc _);obtain⟨bx,hbx⟩:∃bx,bx=w3.heap.size:=⟨_,rfl⟩;rw[<-hbx]at X4 hB;obtain⟨s0,s1,s2,s3,s4,t0,t1,t2,t3,t4⟩:=Z4.out.cells;obtain⟨u0,u1,u2,u3,u4,g0,g1,g2,g3,g4⟩:=X4.out.cells;rw[hV]at s0 s1 s2 s3 s4 t0 t1 t2 t3 t4 u0 u1 u2 u3 u4 g0 g1 g2 g3 g4;rw[hbx]at u0 u1 u2 u3 u4 g0 g1 g2 g3 g4;go_wp2;rw[<-hV];have Z5:=hid (Z4.out.set5 (.slice a1 n1 c1) (.slice a2 n2 c2) (.slice a3 n3 c3) (.int .i64 (max e 1-1075-2)) (.bool ev))
  clear s0 s1 s2 s3 s4 t0 t1 t2 t3 t4 u0 u1 u2 u3 u4 g0 g1 g2 g3 g4;obtain⟨s0,s1,s2,s3,s4,t0,t1,t2,t3,t4⟩:=Z5.out.cells;unfold set5 at s0 s1 s2 s3 s4;refine bodyPost_ret (v:= .agg #[.slice a1 n1 c1,.slice a2 n2 c2,.slice a3 n3 c3,.int .i64 (max e 1-1075-2),.bool ev]) (by simp [results,Tryz.results234,go_sem,s0,s1,s2,s3,s4]) rfl ?_;have m1:=V1.out.setB5 Z4.out (dO _ _ _) (dO _ _ _) (dO _ _ _) (kq _) (ml _) (dO a1 n1 c1) (dO a2 n2 c2) (dO a3 n3 c3) (kq (max e 1-1075-2)) (d4:= .bool ev);have m2:=V2.out.setB5 Z4.out (dO _ _ _) (dO _ _ _) (dO _ _ _) (kq _) (ml _) (dO a1 n1 c1) (dO a2 n2 c2) (dO a3 n3 c3) (kq (max e 1-1075-2)) (d4:= .bool ev);have m3:=V3.out.setB5 Z4.out (dO _ _ _) (dO _ _ _) (dO _ _ _) (kq _) (ml _) (dO a1 n1 c1) (dO a2 n2 c2) (dO a3 n3 c3) (kq (max e 1-1075-2)) (d4:= .bool ev);refine⟨_,rfl,⟨_,_,_,rfl,?_,?_,?_⟩,Nw B4.out (Nat.le_refl _) _ _ _ _ _⟩
  .rw[show 4*M.toNat=(4*M).toNat by omega];exact m1
  .rw[show 4*M.toNat-2=(4*M-2).toNat by omega];exact m2
  .rw[show 4*M.toNat+2=(4*M+2).toNat by omega];exact m3
theorem Wf (x:Int) (x0:0<=x) (x1:x<=18446744073709551615) (hm:1<=aP x) (w:World):
  Calls prog 234 #[.int .u64 x] w fun r w'=>∃v,r=.returned v/\Je w' x v/\Below w.heap.size w w':=by
 have HP:=hid (fun w'=>DR x x0 x1 w');unfold Je dB bw aP;unfold aP at hm;have hf:=pX x;have he:=rQ x;generalize dy x=e at *;generalize c8 x=f at *;by_cases h0:0<e
 .rw[aj h0]at hm ⊢
  by_cases h1:f=0
  .by_cases h2:1<e
   .rw[aj ⟨h1,h2⟩]
    exact Vg x e f he hf h1 h2 w HP
   .rw[ag (fun h=>h2 h.2)]
    exact AI x e f _ he hf (Or.inr (Or.inl ⟨by omega,rfl,h1⟩)) w HP
  .rw[ag (fun h=>h1 h.1)]
   exact AI x e f _ he hf (Or.inl ⟨h0,rfl,h1⟩) w HP
 .rw[ag h0]at hm ⊢
  rw[ag (fun h=>h0 (by omega))];exact AI x e f _ he hf (Or.inr (Or.inr ⟨by omega,rfl,by omega⟩)) w HP
open Go.RowKit Nt Fm Fl
def tx (n L:Nat) (k e:Int):Int:=aK (nG n k e) (mX L k e)
def nU (n L H:Nat) (k e:Int) (ev:Bool):Bool:=(decide (0<tx n L k e) && decide (tx n H k e<0)) || (ev && (tx n L k e==0 || tx n H k e==0))
theorem Hj (va vb vc vn:Value) (L H n:Nat) (k e:Int) (ev:Bool) (kd:Nat) (w:World) (hb:NV w vb L) (hc:NV w vc H) (hn:NV w vn n) (hA:∃S,NV w va S) (hLm:L<2^kd) (hHm:H<2^kd) (hnm:n<2^kd) (hkd:kd<=12800) (k0: -3000<=k) (k1:k<=3000) (e0: -3000<=e) (e1:e<=3000):
  Calls prog 235 #[.agg #[va,vb,vc,.int .i64 e,.bool ev],vn,.int .i64 k] w fun r w'=>r=.returned (.bool (nU n L H k e ev))/\Below w.heap.size w w':=by
 obtain⟨S,hA⟩:=hA;obtain⟨aa,an,ac,rfl⟩:=hA.shape;obtain⟨ba,bn,bc,rfl⟩:=hb.shape;obtain⟨ca,cn,cc,rfl⟩:=hc.shape;obtain⟨na,nn,nc,rfl⟩:=hn.shape;have C1:=hid (fun w' (h:NV w' (.slice na nn nc) n) (h2:NV w' (.slice ba bn bc) L)=>Bs _ _ n L k e kd w' h h2 hnm hLm hkd k0 k1 e0 e1);have C2:=hid (fun w' (h:NV w' (.slice na nn nc) n) (h2:NV w' (.slice ca cn cc) H)=>Bs _ _ n H k e kd w' h h2 hnm hHm hkd k0 k1 e0 e1);unfold nU tx;generalize aK (nG n k e) (mX L k e)=lo at *;generalize aK (nG n k e) (mX H k e)=hi at *;have HB:=hid hb;have HC:=hid hc;have HN:=hid hn;clear hb hc hn hA hLm hHm hnm;go_enter func235,ntmps235;go_wp2_with fail
 obtain⟨V,hV⟩:∃V,V=w.alloc (.cells #[.slice aa an ac,.slice ba bn bc,.slice ca cn cc,.int .i64 e,.bool ev] 243):=⟨_,rfl⟩;have X:Hid (cw V w.heap.size 243 (.slice aa an ac) (.slice ba bn bc) (.slice ca cn cc) (.int .i64 e) (.bool ev)):=hid (by rw[hV];exact cw.new w _ _ _ _ _ _);have B:Hid (Below w.heap.size w V):=hid (by rw[hV];exact(Below.refl _ _).alloc (Nat.le_refl _) _);replace HB:Hid (NV V (.slice ba bn bc) L):=hid (by rw[hV];exact HB.out.alloc _);replace HC:Hid (NV V (.slice ca cn cc) H):=hid (by rw[hV];exact HC.out.alloc _);replace HN:Hid (NV V (.slice na nn nc) n):=hid (by rw[hV];exact HN.out.alloc _);rw[<-hV];clear hV;have X0:Hid (cw V.drew w.heap.size 243 (.slice aa an ac) (.slice ba bn bc) (.slice ca cn cc) (.int .i64 e) (.bool ev)):=hid X.out;obtain⟨p0,p1,p2,p3,p4,-,-,-,-,-⟩:=X0.out.cells
 go_region_held3 (fun w'=>w'.cell? ⟨w.heap.size,1,none⟩=some (.slice ba bn bc)/\w'.cell? ⟨w.heap.size,2,none⟩=some (.slice ca cn cc)/\w'.cell? ⟨w.heap.size,3,none⟩=some (.int .i64 e)/\w'.cell? ⟨w.heap.size,4,none⟩=some (.bool ev))
  (first
   |with_reducible exact⟨p1,p2,p3,p4⟩
   |(obtain⟨p0,p1,p2,p3,p4,-,-,-,-,-⟩:=X1.out.cells;exact⟨p1,p2,p3,p4⟩)
   |(obtain⟨p0,p1,p2,p3,p4,-,-,-,-,-⟩:=X2.out.cells;exact⟨p1,p2,p3,p4⟩)
   |(go_keep;done))
  (first
   |(go_at_call_of 236 (Value.slice ba bn bc);refine(C1.out _ (HN.out.below (Below.refl _ _).drew) (HB.out.below (Below.refl _ _).drew)).mono ?_;rintro r w1 ⟨rfl,hb1⟩;have X1:=hid (X0.out.below hb1);have B1:=hid (af B.out.drew (Nat.le_refl _) hb1);have HN1:=hid ((HN.out.below (Below.refl _ _).drew).below hb1);have HC1:=hid ((HC.out.below (Below.refl _ _).drew).below hb1))
   |(go_at_call_of 236 (Value.slice ca cn cc);refine(C2.out _ HN1.out HC1.out).mono ?_;rintro r w2 ⟨rfl,hb2⟩;have X2:=hid (X1.out.below hb2);have B2:=hid (af B1.out (Nat.le_refl _) hb2)))
 clear p0 p1 p2 p3 p4 hb1 hb2;obtain⟨p0,p1,p2,p3,p4,-,-,-,-,-⟩:=X2.out.cells;go_wp2
 all_goals first
  |(go_ret;refine⟨congrArg (fun b=>Ending.returned (Value.bool b)) ?_,B2.out⟩;rw[uj];clear X X0 X1 X2 B B1 B2 HB HC HN HN1 HC1 C1 C2 p0 p1 p2 p3 p4;simp_all;done)
  |(go_ret;refine⟨congrArg (fun b=>Ending.returned (Value.bool b)) ?_,B2.out⟩;rw[uj];clear X X0 X1 X2 B B1 B2 HB HC HN HN1 HC1 C1 C2 p0 p1 p2 p3 p4;simp_all;omega)
  |(go_ret;refine⟨congrArg (fun b=>Ending.returned (Value.bool b)) ?_,B2.out⟩;clear X X0 X1 X2 B B1 B2 HB HC HN HN1 HC1 C1 C2 p0 p1 p2 p3 p4;grind)
  |trace_state
end Go.Proofs.YtofdjfdnckmmmaaGreatDoor
namespace Go.Proofs.YtofdjfdnckmmmaaGreatDoor.Fm
theorem Cw {le lt le' lt':Nat->Prop}{w:Nat}(h1:∀M,le (M*w)↔le' M) (h2:∀M,lt (M*w)↔lt' M) (k n:Nat):j' k w le lt n↔j' k 1 le' lt' n:=by
 have e1:∀x,2*(x*w)=(2*(x*1))*w:=fun x=>by rw[fI,aF]
 have e2:∀x,x*w=(x*1)*w:=fun x=>by rw[fI]
 rcases k with _|_|_|k
 .show(_/\le _)↔(_/\le' _);rw[e1,h1]
 .show(_/\(_\/lt _))↔(_/\(_\/lt' _));rw[e1,h2]
 .show(_/\(_\/lt _\/(le _/\_)))↔(_/\(_\/lt' _\/(le' _/\_)));rw[e2,h1,h2]
 .show(_/\(_\/le _))↔(_/\(_\/le' _));rw[e2,h1]
def ni:Nat:=1074
def za:Nat:=1024
def u74:Nat:=2^ni
def w24:Nat:=2^za
theorem DB (t:Nat):2^(1074+t)=u74*2^t:=by
 rw[show 1074+t=ni+t from rfl,aB];rfl
theorem tc:0<u74:=az _
theorem QW:0<w24:=az _
def iQ (A B M:Nat):Prop:=M*B<=2*(A*u74)
def gQ (A B M:Nat):Prop:=M*B<2*(A*u74)
theorem F9 (A:Nat) {B:Nat}(hB:0<B):gj (iQ A B) (gQ A B):=
 ⟨fun M N h1 h2=>ct (bR _ h1) h2,fun M N h1 h2=>aX (cS h1 hB) h2,fun M h=>gn h⟩
def rat (k A B:Nat):Nat:=if A=0 then 0 else dw k (d' false A B 0).m (d' false A B 0).e
def jg (A B:Nat):Bool:=if A=0 then false else fF (d' false A B 0).m (d' false A B 0).e
theorem H6:0<MR:=by decide
theorem Xj {B:Nat}(hB:0<B) (k n:Nat):n<=0↔j' k 1 (iQ 0 B) (gQ 0 B) n:=by
 have hq:∀M,iQ 0 B M↔M=0:=fun M=>by
  unfold iQ;rw[iq,sf,Nat.le_zero,pB];omega
 have hl:∀M,¬gQ 0 B M:=fun M=>by unfold gQ;omega
 have h1:=H6;have hz:=kv;have hm:∀j,aw j=0->j=0:=fun j h=>BG (h.trans hz.symm)
 have hs:∀j,j≠0->aw (j-1)+aw j≠0:=fun j h h2=>h (hm j (by omega))
 rcases k with _|_|_|k
 .show _↔(_/\iQ _ _ _)
  rw[hq];constructor
  .intro h
   rw[show n=0 by omega,hz];omega
  .rintro⟨-,h⟩
   have :=hm n (by omega);omega
 .show _↔(_/\(_\/gQ _ _ _))
  have :=hl (2*(aw (n-1)*1));constructor
  .intro h;omega
  .rintro⟨-,h|h⟩
   .omega
   .exact absurd h this
 .show _↔(_/\(_\/gQ _ _ _\/(iQ _ _ _/\_)))
  rw[hq];have :=hl ((aw (n-1)+aw n)*1);constructor
  .intro h;omega
  .rintro⟨-,h|h|⟨h,-⟩⟩
   .omega
   .exact absurd h this
   .rcases fl n with h0|h0
    .omega
    .exact absurd (by omega) (hs n (by omega))
 .show _↔(_/\(_\/iQ _ _ _))
  rw[hq];constructor
  .intro h;omega
  .rintro⟨-,h|h⟩
   .omega
   .rcases fl n with h0|h0
    .omega
    .exact absurd (by omega) (hs n (by omega))
theorem lH (k A:Nat) {B:Nat}(hB:0<B) (n:Nat):n<=rat k A B↔j' k 1 (iQ A B) (gQ A B) n:=by
 unfold rat;split
 .rename_i h;rw[h];exact Xj hB k n
 .rename_i h
  obtain⟨t,ht⟩:∃t:Nat,0<=(0:Int)-qk A B-2+1074+t:=⟨qk A B+2,by omega⟩;rw[(wM h (by omega) (E:=0) (t:=t) ht false k n).1];have e:((0:Int)+1074+(t:Int)).toNat=1074+t:=by omega
  rw[e];have hp:=az t;have e2:2*(A*2^(1074+t))=2*(A*u74)*2^t:=by rw[DB,<-aF,<-aF,<-aF]
  apply Cw
  .intro M
   rw[e2,gZ];exact Nat.mul_le_mul_right_iff hp
  .intro M
   rw[e2,gZ];exact wg hp
theorem sV (A:Nat) {B:Nat}(hB:0<B):jg A B=false↔ ∃r,r<MR/\aw r*B=A*u74:=by
 unfold jg;split
 .rename_i h;rw[h]
  exact⟨fun _=>⟨0,H6,by rw[kv];omega⟩,fun _=>rfl⟩
 .rename_i h
  obtain⟨t,ht⟩:∃t:Nat,0<=(0:Int)-qk A B-2+1074+t:=⟨qk A B+2,by omega⟩;rw[(wM h (by omega) (E:=0) (t:=t) ht false 0 0).2];have e:((0:Int)+1074+(t:Int)).toNat=1074+t:=by omega
  rw[e,DB];have hp:=az t
  have hx:∀r,aw r*2^t*B=A*(u74*2^t)↔aw r*B=A*u74:=fun r=>by
   rw[gZ,<-aF];exact⟨fun h=>pD hp h,fun h=>by rw[h]⟩
  exact⟨fun⟨r,h1,h2⟩=>⟨r,h1,(hx r).1 h2⟩,fun⟨r,h1,h2⟩=>⟨r,h1,(hx r).2 h2⟩⟩
theorem Rf (k A:Nat) {B:Nat}(hB:0<B):rat k A B<=MR:=by
 have :=(lH k A hB (rat k A B)).1 (Nat.le_refl _);rcases k with _|_|_|k
 .exact ct this.1 (Fi _ _)
 .exact this.1
 .exact this.1
 .exact this.1
theorem Kz {A B A' B':Nat}(hB:0<B) (hB':0<B') (h:A*B'<=A'*B) (M:Nat):(iQ A B M->iQ A' B' M)/\(gQ A B M->gQ A' B' M):=by
 have h1:2*(A*u74)*B'<=2*(A'*u74)*B:=by
  have e1:2*(A*u74)*B'=2*(A*B'*u74):=by rw[aF,gZ A]
  have e2:2*(A'*u74)*B=2*(A'*B*u74):=by rw[aF,gZ A']
  rw[e1,e2];exact cZ _ (bR _ h)
 constructor
 .intro hq
  unfold iQ at hq ⊢;apply jS _ hB
  calc M*B'*B=M*B*B':=gZ _ _ _
   _<=2*(A*u74)*B':=bR _ hq
   _<=_:=h1
 .intro hq
  unfold gQ at hq ⊢;apply mR (a:=B)
  calc M*B'*B=M*B*B':=gZ _ _ _
   _<2*(A*u74)*B':=cS hq hB'
   _<=_:=h1
theorem JP (k:Nat) {A B A' B':Nat}(hB:0<B) (hB':0<B') (h:A*B'<=A'*B):rat k A B<=rat k A' B':=by
 rw[lH k A' hB'];exact Yn (fun M=>(Kz hB hB' h M).1) (fun M=>(Kz hB hB' h M).2) ((lH k A hB _).1 (Nat.le_refl _))
theorem VO (k:Nat) {A B A' B':Nat}(hB:0<B) (hB':0<B') (h:A*B'=A'*B):rat k A B=rat k A' B':=
 pC (JP k hB hB' (zJ h)) (JP k hB' hB (zJ h.symm))
theorem AE {a b:Bool}(h:a=false↔b=false):a=b:=by cases a <;> cases b <;> simp_all
theorem XA {A B A' B':Nat}(hB:0<B) (hB':0<B') (h:A*B'=A'*B):jg A B=jg A' B':=by
 apply AE;rw[sV A hB,sV A' hB'];constructor
 .rintro⟨r,h1,h2⟩
  refine⟨r,h1,pD hB ?_⟩
  calc aw r*B'*B=aw r*B*B':=gZ _ _ _
   _=A*u74*B':=by rw[h2]
   _=A*B'*u74:=gZ _ _ _
   _=A'*B*u74:=by rw[h]
   _=_:=gZ _ _ _
 .rintro⟨r,h1,h2⟩
  refine⟨r,h1,pD hB' ?_⟩
  calc aw r*B*B'=aw r*B'*B:=gZ _ _ _
   _=A'*u74*B:=by rw[h2]
   _=A'*B*u74:=gZ _ _ _
   _=A*B'*u74:=by rw[h]
   _=_:=gZ _ _ _
theorem Ep {t m A B:Nat}{e:Int}(hB:0<B) (ht:0<=e+1074+t) (h:tt t m e*B=A*(u74*2^t)) (k:Nat):dw k m e=rat k A B/\fF m e=jg A B:=by
 have hp:=az t;have h2:tt t m e*B=A*u74*2^t:=by rw[h,<-aF]
 constructor
 .have hx:∀n,n<=dw k m e↔n<=rat k A B:=fun n=>by
   rw[lI ht k n,<-I_,lH k A hB n];have e3:2*tt t m e*B=2*(A*u74)*2^t:=by rw[aF,h2,<-aF]
   apply Cw
   .intro M
    unfold iQ;constructor
    .intro h4
     have :=bR B h4;rw[e3,gZ]at this;exact jS this hp
    .intro h4
     have :=bR (2^t) h4;rw[<-e3,gZ]at this;exact jS this hB
   .intro M
    unfold gQ;constructor
    .intro h4
     have :=cS h4 hB;rw[e3,gZ]at this;exact mR this
    .intro h4
     have :=cS h4 hp;rw[<-e3,gZ]at this;exact mR this
  exact pC ((hx _).1 (Nat.le_refl _)) ((hx _).2 (Nat.le_refl _))
 .apply AE
  rw[nD ht,sV A hB];constructor
  .rintro⟨r,h3,h4⟩
   refine⟨r,h3,pD hp ?_⟩;rw[<-h2,h4,gZ]
  .rintro⟨r,h3,h4⟩
   refine⟨r,h3,pD hB ?_⟩;rw[h2,<-h4,gZ]
def u98:Nat:=w24*u74
theorem YS:aw MR=u98:=by
 obtain⟨j,hj⟩:∃j:Nat,j=2046:=⟨_,rfl⟩;have h:=nT 4503599627370496 j (by omega) (by omega);have e1:4503599627370496+j*4503599627370496=MR:=by rw[hj];rfl
 have e2:(4503599627370496:Nat)=2^52:=by decide
 have e3:52+j=za+ni:=by rw[hj];rfl
 rw[e1]at h;rw[h,e2,<-aB,e3,aB,u98,w24,u74]
theorem Cp {n:Nat}(h:n<=MR):aw n<=u98:=by rw[<-YS];exact k_ h
theorem LP (k:Nat) {A B:Nat}(hB:0<B) (h:B*(2*w24)<=A):rat k A B=(if k=0 then MR-1 else MR)/\jg A B=true:=by
 have hlt:∀M,M<=u98->gQ A B (2*M):=fun M hM=>by
  unfold gQ;rw[aF];apply Nat.mul_lt_mul_of_pos_left _ (by omega);have h6:=fm hB (fm QW tc)
  calc M*B<=u98*B:=bR _ hM
   _=B*(w24*u74):=by rw[u98,aW]
   _<B*(w24*u74)+B*(w24*u74):=Nat.lt_add_of_pos_right h6
   _=B*(2*w24)*u74:=by rw[<-Nat.two_mul,fQ,<-aF 2,aF B]
   _<=_:=bR _ h
 have c:=F9 A hB;have hMR:MR=9218868437227405312:=rfl;have b1:=Cp (Fi MR 1);have b2:=Cp (ae MR);have b3:aw (MR-1)<=aw MR:=k_ (Fi _ _);have hs:gQ A B ((aw (MR-1)+aw MR)*1):=c.ltdown (N:=2*aw MR) (by clear h b1 b2 hlt;omega) (hlt _ b2);constructor
 .have hl:=Rf k A hB
  apply pC
  .split
   .rename_i h0
    subst h0;exact((lH 0 A hB _).1 (Nat.le_refl _)).1
   .exact hl
  .by_cases hk:k=0
   .rw[aj hk,lH k A hB,hk]
    refine⟨ae _,c.weak _ ?_⟩;rw[fI];exact hlt _ b1
   .rw[ag hk,lH k A hB]
    rcases k with _|_|_|k
    .exact absurd rfl hk
    .refine⟨ae _,Or.inr ?_⟩
     rw[fI];exact hlt _ b1
    .exact⟨ae _,Or.inr (Or.inl hs)⟩
    .exact⟨ae _,Or.inr (c.weak _ hs)⟩
 .rw[<-Fj,sV A hB]
  rintro⟨r,h1,h2⟩;have :=hlt _ (Cp (gn h1));unfold gQ at this;rw[aF]at this;omega
theorem Lp (k:Nat) {A B:Nat}(hA:0<A) (h:A*(4*u74)<=B):rat k A B=(if k=1 then 1 else 0)/\jg A B=true:=by
 have hB:0<B:=aX (fm hA (fm (by omega) tc)) h
 have hx:2*(A*u74)<B:=by
  have e:A*(4*u74)=4*(A*u74):=fQ _ _ _;have h7:=fm hA tc;rw[e]at h;omega
 have hn:∀M,0<M->¬iQ A B M:=fun M hM h2=>by
  unfold iQ at h2;have :=ct (Fk B hM) h2;omega
 have c:=F9 A hB;have hMR:MR=9218868437227405312:=rfl;have hm:∀j,0<j->0<aw j:=fun j hj=>by have :=nN hj;rw[kv]at this;exact this
 constructor
 .have hup:∀n,(if k=1 then 1 else 0)<n->¬n<=rat k A B:=fun n hj h2=>by
   rw[lH k A hB]at h2;rcases k with _|_|_|k
   .exact hn _ (by have :=hm n (by omega);omega) h2.2
   .rcases h2.2 with h3|h3
    .omega
    .simp at hj
     exact hn _ (by have :=hm (n-1) (by omega);omega) (c.weak _ h3)
   .have hj2:0<n:=by simp at hj;omega
    rcases h2.2 with h3|h3|h3
    .omega
    .exact hn _ (by have :=hm n hj2;omega) (c.weak _ h3)
    .exact hn _ (by have :=hm n hj2;omega) h3.1
   .have hj2:0<n:=by simp at hj;omega
    rcases h2.2 with h3|h3
    .omega
    .exact hn _ (by have :=hm n hj2;omega) h3
  apply pC
  .exact mP fun h2=>hup _ h2 (Nat.le_refl _)
  .split
   .rename_i hk
    subst hk;rw[lH 1 A hB];refine⟨by omega,Or.inr ?_⟩
    show gQ A B (2*(aw 0*1))
    rw[kv];unfold gQ;have :=fm hA tc;omega
   .omega
 .rw[<-Fj,sV A hB]
  rintro⟨r,h1,h2⟩;have h3:=fm hA tc;rcases fl (aw r) with h4|h4
  .rw[h4]at h2;omega
  .have :=Fk B h4
   omega
theorem RL {c d A B:Nat}{E:Int}(hc:c≠0) (hd:d≠0) (hB:0<B) (hs:∀s:Nat,0<=E+s->c*2^(E+s).toNat*B=A*d*2^s) (neg:Bool) (k:Nat):
  dw k (d' neg c d E).m (d' neg c d E).e=rat k A B/\fF (d' neg c d E).m (d' neg c d E).e=jg A B:=by
 obtain⟨t,ht⟩:∃t:Nat,0<=E-qk c d-2+1074+t:=⟨(qk c d+2-E).toNat,by omega⟩;have hp:=az t;have hd0:0<d:=by omega
 have h2:c*2^(E+1074+t).toNat*B=A*u74*(2^t*d):=by
  have :=hs (1074+t) (by omega);rw[show E+((1074+t:Nat):Int)=E+1074+t by omega,DB]at this;rw[this];simp only[aF,aW,fQ]
 have h3:∀M,M*2^t*d*B=M*B*(2^t*d):=fun M=>by simp only[aF,aW,fQ]
 have h4:2*(c*2^(E+1074+t).toNat)*B=2*(A*u74)*(2^t*d):=by rw[aF,h2,<-aF]
 have hq:0<2^t*d:=fm hp hd0;constructor
 .have hx:∀n,n<=dw k (d' neg c d E).m (d' neg c d E).e↔n<=rat k A B:=fun n=>by
   rw[(wM hc hd ht neg k n).1,lH k A hB n];apply Cw
   .intro M
    unfold iQ;constructor
    .intro h5
     have :=bR B h5;rw[h3,h4]at this;exact jS this hq
    .intro h5
     have :=bR (2^t*d) h5;rw[<-h3,<-h4]at this;exact jS this hB
   .intro M
    unfold gQ;constructor
    .intro h5
     have :=cS h5 hB;rw[h3,h4]at this;exact mR this
    .intro h5
     have :=cS h5 hq;rw[<-h3,<-h4]at this;exact mR this
  exact pC ((hx _).1 (Nat.le_refl _)) ((hx _).2 (Nat.le_refl _))
 .apply AE
  rw[(wM hc hd ht neg 0 0).2,sV A hB];constructor
  .rintro⟨r,h5,h6⟩
   refine⟨r,h5,pD hq ?_⟩;rw[<-h2,<-h6,h3]
  .rintro⟨r,h5,h6⟩
   refine⟨r,h5,pD hB ?_⟩;rw[h2,<-h6,h3]
end Go.Proofs.YtofdjfdnckmmmaaGreatDoor.Fm
namespace Go.Proofs.YtofdjfdnckmmmaaGreatDoor
open Fm
def gz (neg:Bool) (L N:Nat) (K:Int):D:=
 if 400<(L:Int)+K then⟨neg,1,2000⟩ else if(L:Int)+K< -400 then⟨neg,1,-2000⟩
 else if 0<=K then norm neg (N*10^K.toNat) 0
 else d' ((norm neg (N*10^K.toNat) 0).neg !=(norm false (10^(-K).toNat) 0).neg) (norm neg (N*10^K.toNat) 0).m (norm false (10^(-K).toNat) 0).m ((norm neg (N*10^K.toNat) 0).e-(norm false (10^(-K).toNat) 0).e)
def dM (N:Nat) (K:Int):Nat:=N*10^K.toNat
def fE (K:Int):Nat:=10^(-K).toNat
theorem tF (K:Int):0<fE K:=fN (by omega)
theorem wL {neg:Bool}{a:Nat}(h:a≠0):∃c k:Nat,norm neg a 0=⟨neg,c,(k:Int)⟩/\a=c*2^k/\c≠0:=by
 obtain⟨q,h1,h2⟩:=oR h;refine⟨a/2^ctz a,ctz a,?_,?_,?_⟩
 .unfold norm;rw[ag h,Int.zero_add]
 .have :a/2^ctz a=q:=by
   conv=>lhs;lhs;rw[h1]
   exact ua _ (az _)
  rw[this];exact h1
 .have :a/2^ctz a=q:=by
   conv=>lhs;lhs;rw[h1]
   exact ua _ (az _)
  rw[this];omega
theorem KY (a b:Nat) (h:b<=3*a):2^b<=10^a:=
 ct (aG (by omega) h) (by rw[jU];exact wk (by omega) a)
theorem Qr {z:Nat}(h:2000<=z):2*w24<=2^z:=by
 rw[w24,<-zX];exact aG (by omega) (by unfold za;omega)
theorem Ux {z:Nat}(h:2000<=z):4*u74<=2^z:=by
 rw[u74,show 4=2^2 by decide,<-aB];exact aG (by omega) (by unfold ni;omega)
theorem ad5 {a:Nat}(h:400<=a):2*w24<=10^a:=by
 rw[w24,<-zX];exact KY _ _ (by unfold za;omega)
theorem ab4 {a:Nat}(h:401<=a):4*u74<=10^a:=by
 rw[u74,show 4=2^2 by decide,<-aB];exact KY _ _ (by unfold ni;omega)
theorem R_ (neg:Bool) {L N:Nat}(K:Int) (h1:10^(L-1)<=N) (h2:N<10^L) (k:Nat):
  dw k (gz neg L N K).m (gz neg L N K).e=rat k (dM N K) (fE K)/\fF (gz neg L N K).m (gz neg L N K).e=jg (dM N K) (fE K)/\(gz neg L N K).neg=neg:=by
 have hN:0<N:=aX (fN (by omega)) h1
 have hL:0<L:=by
  rcases fl L with h|h
  .rw[h]at h2;simp at h2;omega
  .exact h
 have hBp:=tF K;have h10:∀n:Nat,0<10^n:=fun n=>fN (by omega)
 unfold gz;obtain⟨z,hz⟩:∃z:Nat,z=2000:=⟨_,rfl⟩;split
 .rename_i hb
  have e1:=Ep (t:=0) (m:=1) (A:=2^z) (B:=1) (e:=2000) (by omega) (by omega) (by
   unfold tt;rw[fI,fP,jT,fI,u74,<-aB];congr 1;unfold ni;omega) k
  have e2:=LP k (A:=2^z) (B:=1) (by omega) (by rw[fP];exact Qr (by omega))
  have e3:=LP k (A:=dM N K) (B:=fE K) hBp (by
   unfold dM fE
   calc 10^(-K).toNat*(2*w24)<=10^(-K).toNat*10^(L-1+K.toNat-(-K).toNat):=cZ _ (ad5 (by omega))
    _=10^(L-1+K.toNat):=by rw[<-aB];congr 1;omega
    _=10^(L-1)*10^K.toNat:=aB _ _ _
    _<=_:=bR _ h1)
  exact⟨by rw[e1.1,e2.1,e3.1],by rw[e1.2,e2.2,e3.2],rfl⟩
 .split
  .rename_i ha hb
   obtain⟨tn,htn⟩:∃tn:Nat,tn=926:=⟨_,rfl⟩
   have e1:=Ep (t:=tn) (m:=1) (A:=1) (B:=2^z) (e:= -2000) (az _) (by omega) (by
    unfold tt;rw[fP,fP,u74,<-aB,<-aB];congr 1;unfold ni;omega) k
   have e2:=Lp k (A:=1) (B:=2^z) (by omega) (by rw[fP];exact Ux (by omega))
   have e3:=Lp k (A:=dM N K) (B:=fE K) (fm hN (h10 _)) (by
    unfold dM fE;rw[show K.toNat=0 by omega,jT,fI]
    calc N*(4*u74)<=10^L*10^((-K).toNat-L):=eI (gn h2) (ab4 (by omega))
     _=_:=by rw[<-aB];congr 1;omega)
   exact⟨by rw[e1.1,e2.1,e3.1],by rw[e1.2,e2.2,e3.2],rfl⟩
  .split
   .rename_i hK
    obtain⟨c,z,e1,e2,e3⟩:=wL (neg:=neg) (a:=N*10^K.toNat) (by have :=fm hN (h10 K.toNat);omega);rw[e1]
    have e4:=Ep (t:=0) (m:=c) (A:=dM N K) (B:=fE K) (e:=(z:Int)) hBp (by omega) (by
     unfold tt dM fE;rw[show(-K).toNat=0 by omega,e2,jT,fI,fI,aF,u74,<-aB];congr 2) k
    exact⟨e4.1,e4.2,rfl⟩
   .rename_i hK
    obtain⟨c,z,e1,e2,e3⟩:=wL (neg:=neg) (a:=N*10^K.toNat) (by have :=fm hN (h10 K.toNat);omega);obtain⟨d,y,f1,f2,f3⟩:=wL (neg:=false) (a:=10^(-K).toNat) (by have :=h10 (-K).toNat;omega);rw[e1,f1]
    have e4:=RL (c:=c) (d:=d) (A:=dM N K) (B:=fE K) (E:=(z:Int)-(y:Int)) e3 f3 hBp (by
     intro s hs;unfold dM fE;rw[e2,f2]
     have :2^((z:Int)-(y:Int)+(s:Int)).toNat*2^y=2^z*2^s:=by
      rw[<-aB,<-aB];congr 1;omega
     calc c*2^((z:Int)-(y:Int)+(s:Int)).toNat*(d*2^y)=c*d*(2^((z:Int)-(y:Int)+(s:Int)).toNat*2^y):=by simp only[aF,aW,fQ]
      _=c*d*(2^z*2^s):=by rw[this]
      _=_:=by simp only[aF,aW,fQ]) (neg !=false) k
    exact⟨e4.1,e4.2,by unfold d';cases neg <;> rfl⟩
open Fm Fl
theorem Xf {A B r:Nat}(hB:0<B) (hr:r<MR):rat 2 A B=r↔
  (r=0\/(aw (r-1)+aw r)*B<2*(A*u74)\/((aw (r-1)+aw r)*B=2*(A*u74)/\r%2=0))/\
  (2*(A*u74)<(aw r+aw (r+1))*B\/(2*(A*u74)=(aw r+aw (r+1))*B/\r%2=0)):=by
 have h1:=lH 2 A hB r;have h2:=lH 2 A hB (r+1)
 have e1:j' 2 1 (iQ A B) (gQ A B) r↔(r=0\/(aw (r-1)+aw r)*B<2*(A*u74)\/((aw (r-1)+aw r)*B=2*(A*u74)/\r%2=0)):=by
  show(r<=MR/\(r=0\/(aw (r-1)+aw r)*1*B<2*(A*u74)\/((aw (r-1)+aw r)*1*B<=2*(A*u74)/\r%2=0)))↔_
  rw[fI];generalize (aw (r-1)+aw r)*B=x;generalize 2*(A*u74)=y;omega
 have e2:j' 2 1 (iQ A B) (gQ A B) (r+1)↔ ¬(2*(A*u74)<(aw r+aw (r+1))*B\/(2*(A*u74)=(aw r+aw (r+1))*B/\r%2=0)):=by
  show(r+1<=MR/\(r+1=0\/(aw (r+1-1)+aw (r+1))*1*B<2*(A*u74)\/((aw (r+1-1)+aw (r+1))*1*B<=2*(A*u74)/\(r+1)%2=0)))↔_
  rw[fI,kX];generalize (aw r+aw (r+1))*B=x;generalize 2*(A*u74)=y;omega
 rw[e1]at h1;rw[e2]at h2;rw[<-h1];constructor
 .intro h
  refine⟨by omega,?_⟩;exact ja fun h3=>by have :=h2.2 h3;omega
 .rintro⟨h3,h4⟩
  have :¬r+1<=rat 2 A B:=fun h5=>h2.1 h5 h4
  omega
open Go.RowKit Nt Fm Fl
def gK (s:List UInt8):Nat:=(s.takeWhile (bK.contains ·)).length
theorem Yu (s:List UInt8):gK s<=s.length:=rE s
theorem Ar (s:List UInt8) (S:ByteArray) (hS:S=⟨s.toArray⟩) (w:World) (hsl:s.length<=100000):
  Calls prog 56 #[.string S] w fun e w'=>e=.returned (.int .i64 ((gK s:Nat):Int))/\Below w.heap.size w w':=by
 have TL:=hid (fun w'=>El S bK (by decide) (by decide) w');have hd:S.data.toList=s:=by rw[hS]
 rw[hd]at TL;obtain⟨R,hR⟩:∃R:ByteArray,R=⟨(s.dropWhile (bK.contains ·)).toArray⟩:=⟨_,rfl⟩
 rw[<-hR,show(⟨bK.toArray⟩:ByteArray)=⟨#[48,49,50,51,52,53,54,55,56,57]⟩ by rfl]at TL;have hz:S.size=s.length:=by rw[hS];rfl
 have hrz:R.size=(s.dropWhile (bK.contains ·)).length:=by rw[hR];rfl
 have hle:=nQ (p:=(bK.contains ·)) s
 have hn:s.length=gK s+(s.dropWhile (bK.contains ·)).length:=by
  unfold gK;have :=congrArg List.length (wy (p:=(bK.contains ·)) (l:=s))
  rw[ck]at this;exact this.symm
 generalize gK s=n at *;generalize (s.dropWhile (bK.contains ·)).length=b at *
 generalize s.length=a at *;have hkz:(a:Int)-(b:Int)=(n:Int):=by omega
 clear hd hR hS;go_enter func56,ntmps56;go_wp2_with (go_at_call 58;refine(TL.out _).mono ?_;rintro e w1 ⟨rfl,hb⟩;have HB:=hid hb;clear hb)
 go_ret;exact⟨by first|rfl|(congr 2;omega),HB.out⟩
def dt (l:List UInt8):List UInt8:=if(hasPrefix l [45] || hasPrefix l [43])=true then l.drop 1 else l
def iD (l:List UInt8):Bool:= !(decide (gK (dt l)=0) || decide (6<gK (dt l)) || !decide (gK (dt l)=(dt l).length))
def jI:List UInt8->Bool
 | []=>true
 |c::l=>(c==101 || c==69) && iD l
def mO (l:List UInt8):Int:=if hasPrefix l [45]=true then -((aM 0 (dt l):Nat):Int) else((aM 0 (dt l):Nat):Int)
def o9:List UInt8->Int
 | []=> 0
 |c::l=>if jI (c::l)=true then mO l else 0
theorem He {l:List UInt8}(h:iD l=true):dt l≠[]/\(dt l).length<=6/\∀c∈dt l,cF c:=by
 unfold iD at h;simp at h;obtain⟨⟨h1,h2⟩,h3⟩:=h;refine⟨fun e=>by rw[e]at h1;exact h1 rfl,by omega,?_⟩;have h4:(dt l).takeWhile (bK.contains ·)=dt l:=(On _).eq_of_length (by unfold gK at h3;exact h3)
 intro c hc;rw[<-h4]at hc;have :=og hc;unfold bK at this;unfold cF;simp at this;rcases this with rfl|rfl|rfl|rfl|rfl|rfl|rfl|rfl|rfl|rfl <;> decide
def uE (w:World) (k:Int) (b:Bool) (e:Ending) (w':World):Prop:=e=.returned (.tuple #[.int .i64 k,.bool b])/\Below w.heap.size w w'
theorem QZ (c:UInt8) (l:List UInt8) (S:ByteArray) (hS:S=⟨(c::l).toArray⟩) (hsl:l.length<=2000):
  ∃T T6:ByteArray,S.toList.isEmpty=false/\S.size=l.length+1/\∃hS0:0<S.size,((S[0]'hS0).toNat:Int)=(c.toNat:Int)/\S.extract 1 (l.length+1)=T/\T.size=l.length/\T6.size=(dt l).length/\
  Hid (∀w',Calls prog 55 #[.string T,.string ⟨#[45]⟩] w' fun e w2=>e=.returned (.bool (hasPrefix l [45]))/\w'=w2)/\
  Hid (∀w',Calls prog 55 #[.string T,.string ⟨#[43]⟩] w' fun e w2=>e=.returned (.bool (hasPrefix l [43]))/\w'=w2)/\
  Hid (∀w',Calls prog 56 #[.string T6] w' fun e w2=>e=.returned (.int .i64 ((gK (dt l):Nat):Int))/\Below w'.heap.size w' w2)/\
  Hid (∀w',iD l=true->Calls prog 92 #[.string T6] w' fun e w2=>e=.returned (.tuple #[.int .i64 ((aM 0 (dt l):Nat):Int),.nilIface])/\Below w'.heap.size w' w2)/\
  Hid ((hasPrefix l [45] || hasPrefix l [43])=true->(1:Int)<=((l.length:Nat):Int)/\T.extract 1 l.length=T6)/\
  Hid ((hasPrefix l [45] || hasPrefix l [43])=false->T6=T)/\
  Hid (iD l=true->((aM 0 (dt l):Nat):Int)<=999999)/\
  (!(decide (gK (dt l)=0) || decide (6<gK (dt l)) || !decide (gK (dt l)=(dt l).length)))=iD l/\gK (dt l)<=(dt l).length:=by
 obtain⟨T,hT⟩:∃T:ByteArray,T=⟨l.toArray⟩:=⟨_,rfl⟩
 have hx:S.extract 1 (l.length+1)=T:=by
  rw[hT,hS];apply eK;simp [ir]
  done
 obtain⟨T6,hT6⟩:∃T:ByteArray,T=⟨(dt l).toArray⟩:=⟨_,rfl⟩;have l6:(dt l).length<=l.length:=by unfold dt;split;(rw[mS];omega);omega
 have h6:dt l=if(hasPrefix l [45] || hasPrefix l [43])=true then l.drop 1 else l:=rfl
 have HG:=fun h:iD l=true=>He h
 refine⟨T,T6,by rw[po _ _ hS];rfl,by rw[hS];rfl,by rw[hS];exact Nat.succ_pos _,by subst hS;rfl,hx,by rw[hT];rfl,by rw[hT6];rfl,hid (fun w'=>zw l [45] T hT w'),hid (fun w'=>zw l [43] T hT w'),hid (fun w'=>Ar (dt l) T6 hT6 w' (by omega)),hid (fun w' h=>Bj (dt l) T6 hT6 (HG h).1 (HG h).2.2 (by have :=(HG h).2.1;omega) w'),hid (fun h=>?_),hid (fun h=>?_),hid (fun h=>?_),rfl,Yu _⟩
 .have k1:1<=l.length:=by
   rcases jR _ _ ▸ h with k|k
   .exact wO k
   .exact wO k
  have k2:dt l=l.drop 1:=by rw[h6,aj h]
  refine⟨by omega,?_⟩;rw[hT6,k2,hT];apply eK;simp [ir];exact dI (by simp)
 .have k2:dt l=l:=by rw[h6,h];rfl
  rw[hT6,hT,k2]
 .obtain⟨-,k1,k2⟩:=HG h
  have k3:=pg (dt l) 0 k2;have k4:(10:Nat)^(dt l).length<=10^6:=aG (by omega) k1;have k5:(10:Nat)^6=1000000:=by decide
  omega
theorem ae2 (l:List UInt8) (S:ByteArray) (c:UInt8) (hS:S=⟨(c::l).toArray⟩) (hc:c=101\/c=69) (hsl:l.length<=2000) (w:World):
  Calls prog 57 #[.string S] w (uE w (if iD l=true then mO l else 0) (iD l)):=by
 obtain⟨T,T6,hne,hz,hS0,h0,hx,zT,z6,HP1,HP2,DG,AT,A6,A6',hdn,hq,hn2⟩:=QZ c l S hS hsl;unfold uE mO;obtain⟨n,hn⟩:∃n,n=gK (dt l):=⟨_,rfl⟩;obtain⟨lq,hlq⟩:∃lq,lq=(dt l).length:=⟨_,rfl⟩;obtain⟨ll,hll⟩:∃ll,ll=l.length:=⟨_,rfl⟩;obtain⟨dn,hdn2⟩:∃dn,dn=aM 0 (dt l):=⟨_,rfl⟩;rw[<-hdn2]at AT hdn ⊢;rw[<-hn]at DG hq hn2;rw[<-hlq]at hq z6 hn2;rw[<-hll]at hz hx zT A6 hsl;have B:Hid (Below w.heap.size w w):=hid (Below.refl _ _)
 have hc0:((S[0]'hS0).toNat:Int)=101\/((S[0]'hS0).toNat:Int)=69:=by
  rcases hc with rfl|rfl
  .exact Or.inl h0
  .exact Or.inr h0
 clear h0 hS hn hlq hll hdn2 hc;generalize hasPrefix l [45]=bd at *;generalize hasPrefix l [43]=bu at *;generalize iD l=g at *;cases g
 case true=>
  cases bd <;> cases bu <;> rcases hc0 with h0|h0
  all_goals
   first
    |(obtain⟨hx1,hx2⟩:=A6.out rfl;clear A6')
    |(obtain rfl:=A6'.out rfl;clear A6;obtain rfl:lq=ll:=z6.symm.trans zT)
   simp only[Bool.not_eq_true',Bool.not_eq_false',jR,wh,da,jx,Fj]at hq;obtain⟨⟨q1,q2⟩,q3⟩:=hq;subst q3;have k1:((n:Int)==0)=false:=by rw[aH];omega
   have k2:(n:Int)<=6:=by omega
   have hd1:=hdn.out rfl;replace AT:=hid (fun w'=>AT.out w' rfl);have hw1:IntKind.i64.wrap (-(dn:Int))= -(dn:Int):=IntWalk.i64_in _ (by omega);clear hdn;simp only[ga,cQ,e9];go_enter func57,ntmps57
   go_wp2_with (first
    |(go_at_call 55;(first|(with_reducible refine(HP1.out _).mono ?_)|(with_reducible refine(HP2.out _).mono ?_));rintro e w1 ⟨rfl,rfl⟩)
    |((first|(go_at_call 56;refine(DG.out _).mono ?_)|(go_at_call 92;refine(AT.out _).mono ?_));rintro e w1 ⟨rfl,hb1⟩;replace B:=hid (af B.out (Nat.le_refl _) hb1);clear hb1))
   go_ret2;exact⟨rfl,B.out⟩
 case false=>
  clear AT hdn
  have q:n=0\/(n≠0/\6<n)\/(n≠0/\n<=6/\n≠lq):=by
   simp only[Bool.not_eq_true',Bool.not_eq_false',jR,wh,da,jx,Fj]at hq;omega
  clear hq;rcases q with rfl|⟨q,q2⟩|⟨q,q2,q3⟩
  case' inl=>have k2:(((0:Nat):Int)==0)=true:=rfl
  case' inr.inl=>have k2:((n:Int)==0)=false:=by rw[aH];omega
  case' inr.inl=>have k3:6<(n:Int):=by omega
  case' inr.inr=>have k2:((n:Int)==0)=false:=by rw[aH];omega
  case' inr.inr=>have k3:(n:Int)<=6:=by omega
  case' inr.inr=>have k4:((n:Int) !=(lq:Int))=true:=by rw[lZ];omega
  all_goals
   cases bd <;> cases bu <;> rcases hc0 with h0|h0
  all_goals
   first
    |(obtain⟨hx1,hx2⟩:=A6.out rfl;clear A6')
    |(obtain rfl:=A6'.out rfl;clear A6;obtain rfl:lq=ll:=z6.symm.trans zT)
   simp only[ga,cQ,e9];go_enter func57,ntmps57
   go_wp2_with (first
    |(go_at_call 55;(first|(with_reducible refine(HP1.out _).mono ?_)|(with_reducible refine(HP2.out _).mono ?_));rintro e w1 ⟨rfl,rfl⟩)
    |((first|(go_at_call 56;refine(DG.out _).mono ?_)|(go_at_call 92;refine(AT.out _).mono ?_));rintro e w1 ⟨rfl,hb1⟩;replace B:=hid (af B.out (Nat.le_refl _) hb1);clear hb1))
   go_ret2;exact⟨rfl,B.out⟩
theorem Uc (e:List UInt8) (S:ByteArray) (hS:S=⟨e.toArray⟩) (hsl:e.length<=2000) (w:World):
  Calls prog 57 #[.string S] w (uE w (o9 e) (jI e)):=by
 cases e with
 |nil=>
  have hne:S.toList.isEmpty=true:=by rw[po _ _ hS];rfl
  unfold uE o9 jI;clear hS;go_enter func57,ntmps57;go_wp2;go_ret2;exact⟨rfl,Below.refl _ _⟩
 |cons c l=>
  by_cases hc:c=101\/c=69
  .have h:=ae2 l S c hS hc (by simp at hsl;omega) w
   have h1:jI (c::l)=iD l:=by
    unfold jI;rcases hc with rfl|rfl
    .rfl
    .rfl
   have h2:o9 (c::l)=if iD l=true then mO l else 0:=by show(if jI (c::l)=true then mO l else 0)=_;rw[h1]
   rw[h1,h2];exact h
  .have hne:S.toList.isEmpty=false:=by rw[po _ _ hS];rfl
   have hz:S.size=l.length+1:=by rw[hS];rfl
   have hS0:0<S.size:=by omega
   have h0:((S[0]'hS0).toNat:Int)=(c.toNat:Int):=by subst hS;rfl
   have h5:jI (c::l)=false:=by
    show((c==101 || c==69) && iD l)=false
    have h1:(c==101)=false:=by rw[aH];exact fun h=>hc (Or.inl h)
    have h2:(c==69)=false:=by rw[aH];exact fun h=>hc (Or.inr h)
    rw[h1,h2];rfl
   have h6:o9 (c::l)=0:=by show(if jI (c::l)=true then mO l else 0)=_;rw[h5];rfl
   obtain⟨cz,hcz⟩:∃cz:Int,cz=(c.toNat:Int):=⟨_,rfl⟩;rw[<-hcz]at h0
   have h1:(cz !=101)=true:=by
    rw[lZ];intro h;exact hc (Or.inl (uo.1 (by rw[show(101:UInt8).toNat=101 from rfl];omega)))
   have h2:(cz !=69)=true:=by
    rw[lZ];intro h;exact hc (Or.inr (uo.1 (by rw[show(69:UInt8).toNat=69 from rfl];omega)))
   rw[h5,h6];unfold uE;clear hS hc h5 h6 hcz hsl;go_enter func57,ntmps57;go_wp2
   all_goals first
    |(go_ret2;exact⟨rfl,Below.refl _ _⟩;done)
    |(exfalso;simp_all;done)
    |trace_state
theorem DM {fn:Func}{t u v x:Tmp}(h:fn.results= #[.tmp t,.tmp u,.tmp v,.tmp x]) (tmps:Array Value) (P:Program) (w:World):
  (results fn tmps).run P w=.ok (.tuple #[tmps.getD t undef,tmps.getD u undef,tmps.getD v undef,tmps.getD x undef]) w:=by
 simp [results,h]
structure vL (s t whole t2 r part rest d:List UInt8) (neg pt:Bool):Prop where
 h1:t=trimPrefix s [45]
 n1:neg=hasPrefix s [45]
 hw:whole=t.takeWhile (bK.contains ·)
 h2:t2=t.dropWhile (bK.contains ·)
 hr:r=trimPrefix t2 [46]
 np:pt=hasPrefix t2 [46]
 hp:part=if pt=true then r.takeWhile (bK.contains ·) else []
 he:rest=if pt=true then r.dropWhile (bK.contains ·) else t2
 hd:d=(whole++part).dropWhile ([48].contains ·)
def mh (s whole part rest:List UInt8):Int:=if 1000<s.length then 2 else if jI rest=true/\(whole++part).isEmpty=false then 0 else 5
def tB (part rest d:List UInt8):Int:=if d.isEmpty=true then 0 else o9 rest-(part.length:Int)
def pK (w:World) (neg:Bool) (d:List UInt8) (k er:Int) (e:Ending) (w':World):Prop:=
 e=.returned (.tuple #[.bool neg,.string ⟨d.toArray⟩,.int .i64 k,.int .i64 er])/\Below w.heap.size w w'
theorem By {s t whole t2 r part rest d:List UInt8}{neg pt:Bool}(H:vL s t whole t2 r part rest d neg pt):whole.length<=t.length/\t.length<=s.length/\t2.length<=t.length/\r.length<=t2.length/\part.length<=r.length/\rest.length<=t2.length/\whole.length+t2.length=t.length/\(∀c∈whole++part,bK.contains c=true):=by
 obtain⟨h1,n1,hw,h2,hr,np,hp,he,hd⟩:=H;have l1:=oz s [45];have lw:=rE (p:=(bK.contains ·)) t
 have l2:=nQ (p:=(bK.contains ·)) t
 have lr:=oz t2 [46];have lr1:=nQ (p:=(bK.contains ·)) r
 have lr2:=rE (p:=(bK.contains ·)) r
 have ls:=congrArg List.length (wy (p:=(bK.contains ·)) (l:=t))
 rw[ck]at ls;rw[<-h1]at l1;rw[<-hw]at lw ls;rw[<-h2]at l2 ls;rw[<-hr]at lr;have lp:part.length<=r.length:=by rw[hp];split;exact lr2;simp
 have le:rest.length<=t2.length:=by rw[he];split;omega;omega
 refine⟨lw,l1,l2,lr,lp,le,ls,fun c hc=>?_⟩;rw[gF]at hc;rcases hc with hc|hc
 .rw[hw]at hc;exact og hc
 .rw[hp]at hc
  split at hc
  .exact og hc
  .simp at hc
theorem Gd {c:UInt8}(h:bK.contains c=true):cF c:=by
 unfold bK at h;unfold cF;simp at h;rcases h with rfl|rfl|rfl|rfl|rfl|rfl|rfl|rfl|rfl|rfl <;> decide
theorem FZ {a b l:List UInt8}(h:a++b=l):l.drop a.length=b/\l.take a.length=a:=by
 subst h;exact⟨List.drop_left,List.take_left⟩
theorem Mb {p:UInt8->Bool}(l:List UInt8):l.drop (l.takeWhile p).length=l.dropWhile p:=(FZ wy).1
theorem Gp {p:UInt8->Bool}(l:List UInt8):l.take (l.takeWhile p).length=l.takeWhile p:=(FZ wy).2
theorem LW (l:List UInt8): -999999<=o9 l/\o9 l<=999999:=by
 cases l with
 |nil=>show -999999<=(0:Int)/\(0:Int)<=999999;omega
 |cons c l=>
  show -999999<=(if jI (c::l)=true then mO l else 0)/\(if jI (c::l)=true then mO l else 0)<=999999
  split
  .rename_i h
   have h2:((c==101 || c==69) && iD l)=true:=h;have hg:iD l=true:=by rw[lT]at h2;exact h2.2
   obtain⟨-,k1,k2⟩:=He hg;have k3:=pg (dt l) 0 k2;have k4:(10:Nat)^(dt l).length<=10^6:=aG (by omega) k1;have k5:(10:Nat)^6=1000000:=by decide
   unfold mO;split <;> omega
  .omega
theorem aa7 {s t whole t2 r part rest d:List UInt8}{neg pt:Bool}(H:vL s t whole t2 r part rest d neg pt) (S:ByteArray) (hS:S=⟨s.toArray⟩) (w:World):
  Calls prog 29 #[.string S] w (pK w (if mh s whole part rest=0 then neg else false) (if mh s whole part rest=0 then d else []) (if mh s whole part rest=0 then tB part rest d else 0) (mh s whole part rest)):=by
 obtain⟨lw,l1,l2,lr,lp,le,ls,cV⟩:=By H;obtain⟨h1,n1,hw,h2,hr,np,hp,he,hd⟩:=H;have zS:S.size=s.length:=by rw[hS];rfl
 by_cases hlong:1000<s.length
 .have hE:mh s whole part rest=2:=by unfold mh;rw[aj hlong]
  rw[hE];unfold pK;have hz:(1000:Int)<((S.size:Nat):Int):=by omega
  clear hw h2 hr np hp he hd hS cV h1 n1 lw l1 l2 lr lp le ls zS hlong;go_enter func29,ntmps29;go_wp2
  (try simp only[Exit.inBlock,Exit.then])
  refine bodyPost_ret (DM rfl _ _ _) rfl ?_;exact⟨rfl,Below.refl _ _⟩
 .obtain⟨T1,e1⟩:∃T:ByteArray,T=⟨t.toArray⟩:=⟨_,rfl⟩
  obtain⟨W,eW⟩:∃T:ByteArray,T=⟨whole.toArray⟩:=⟨_,rfl⟩;obtain⟨T2,e2⟩:∃T:ByteArray,T=⟨t2.toArray⟩:=⟨_,rfl⟩;obtain⟨Rr,eR⟩:∃T:ByteArray,T=⟨r.toArray⟩:=⟨_,rfl⟩;obtain⟨PP,eP⟩:∃T:ByteArray,T=⟨part.toArray⟩:=⟨_,rfl⟩;obtain⟨E,eE⟩:∃T:ByteArray,T=⟨rest.toArray⟩:=⟨_,rfl⟩;obtain⟨DD,eD⟩:∃T:ByteArray,T=⟨d.toArray⟩:=⟨_,rfl⟩;have C1:=hid (fun w'=>qB s [45] S hS w');rw[<-h1,<-n1,<-e1]at C1;have C2:=hid (fun w'=>Ar t T1 e1 w' (by omega));have C3:=hid (fun w'=>qB t2 [46] T2 e2 w');rw[<-hr,<-np,<-eR]at C3;have C4:=hid (fun w'=>Ar r Rr eR w' (by omega));have C5:=hid (fun w'=>Uc rest E eE (by omega) w');have C6:=hid (fun w'=>El ⟨(whole++part).toArray⟩ [48] (by decide) (by decide) w');have hdr:(whole++part).dropWhile (fun b=>[48].contains b)=d:=hd.symm;obtain⟨WP,eWP⟩:∃T:ByteArray,W++PP=T:=⟨_,rfl⟩;have eWP2:WP=⟨(whole++part).toArray⟩:=by rw[<-eWP];exact qZ _ _ eW eP
  have z1:T1.size=t.length:=by rw[e1];rfl
  have zR:Rr.size=r.length:=by rw[eR];rfl
  have zP:PP.size=part.length:=by rw[eP];rfl
  have zW:W.size=whole.length:=by rw[eW];rfl
  have d1:gK t=whole.length:=by rw[hw];rfl
  have x1:T1.extract 0 whole.length=W:=by
   rw[e1,eW,hw];apply eK;simp [ir];exact Gp t
  have x2:T1.extract whole.length t.length=T2:=by
   rw[e1,e2,h2,<-d1];apply eK;simp [ir];rw[dI (by rw[mS];omega)];have :=Mb (p:=(bK.contains ·)) t
   simpa [gK] using this
  have x3:Hid (pt=true->(∀w',Calls prog 56 #[.string Rr] w' fun e w2=>e=.returned (.int .i64 ((part.length:Nat):Int))/\Below w'.heap.size w' w2)/\Rr.extract 0 part.length=PP/\Rr.extract part.length r.length=E/\part.length<=r.length):=hid (fun h=>by
   have k1:part=r.takeWhile (bK.contains ·):=by rw[hp,aj h]
   have k2:rest=r.dropWhile (bK.contains ·):=by rw[he,aj h]
   have k3:gK r=part.length:=by rw[k1];rfl
   refine⟨fun w'=>by rw[<-k3];exact C4.out w',?_,?_,lp⟩
   .rw[eR,eP,k1]
    apply eK;simp [ir];exact Gp r
   .rw[eR,eE,k2,<-k3]
    apply eK;simp [ir];rw[dI (by rw[mS];omega)];have :=Mb (p:=(bK.contains ·)) r
    simpa [gK] using this)
  have x4:Hid (pt=false->PP=⟨#[]⟩/\E=T2):=hid (fun h=>by
   have k1:part=[]:=by rw[hp,h];rfl
   have k2:rest=t2:=by rw[he,h];rfl
   exact⟨by rw[eP,k1],by rw[eE,e2,k2]⟩)
  rw[d1]at C2;have m1:=po _ _ eWP2;have m2:=po _ _ eD;rw[show(⟨(whole++part).toArray⟩:ByteArray).data.toList=whole++part from rfl,hdr,<-eWP2,<-eD]at C6;have hK:=LW rest;unfold mh tB pK;rw[ag hlong];have hz:¬(1000:Int)<((S.size:Nat):Int):=by omega
  have HD:Hid (DD=⟨d.toArray⟩):=hid eD;have B:Hid (Below w.heap.size w w):=hid (Below.refl _ _);have hd0:=hid (show d.isEmpty=true->d=[] from fun h=>Fo.1 h);generalize (whole++part).isEmpty=b1 at *;generalize d.isEmpty=b2 at *;generalize jI rest=pok at *;generalize o9 rest=pk at *;have hpl:part.length<=1000:=by omega
  have hwl:whole.length<=1000:=by omega
  generalize part.length=pl at *;generalize whole.length=wl at *;generalize t.length=tl at *;generalize r.length=rl at *;have hw4:IntKind.i64.wrap (pk-(pl:Int))=pk-(pl:Int):=IntWalk.i64_in _ (by omega);clear hw h2 hr np hp he hd cV h1 n1 lr lp le ls e1 eW e2 eR eP eE eD hS hdr eWP2 d1 C4 hlong;cases pt
  .obtain⟨rfl,rfl⟩:=x4.out rfl
   obtain rfl:pl=0:=by rw[<-zP];rfl
   clear x3 zP;cases pok
   all_goals
    cases b1
    all_goals
     cases b2
     all_goals
      go_enter func29,ntmps29
      go_wp2_with (first
       |(go_at_call 45;first
         |((with_reducible refine(C1.out _).mono ?_);rintro e w1 ⟨rfl,rfl⟩)
         |((with_reducible refine(C3.out _).mono ?_);rintro e w1 ⟨rfl,rfl⟩))
       |(go_at_call 56;first
         |((with_reducible refine(C2.out _).mono ?_);rintro e w1 ⟨rfl,hb⟩;replace B:Hid (Below w.heap.size w w1):=hid (af B.out (Nat.le_refl _) hb);clear hb)
         |fail)
       |(go_at_call 57;(with_reducible refine(C5.out _).mono ?_);rintro e w1 ⟨rfl,hb⟩;replace B:Hid (Below w.heap.size w w1):=hid (af B.out (Nat.le_refl _) hb);clear hb)
       |(go_at_call 58;(with_reducible refine(C6.out _).mono ?_);rintro e w1 ⟨rfl,hb⟩;replace B:Hid (Below w.heap.size w w1):=hid (af B.out (Nat.le_refl _) hb);clear hb))
      go_quiet (fail)
      replace B:=hid (dh (n:=nq) B.out)
      go_wp2_with (first
       |(go_at_call 45;first
         |((with_reducible refine(C1.out _).mono ?_);rintro e w1 ⟨rfl,rfl⟩)
         |((with_reducible refine(C3.out _).mono ?_);rintro e w1 ⟨rfl,rfl⟩))
       |(go_at_call 56;first
         |((with_reducible refine(C2.out _).mono ?_);rintro e w1 ⟨rfl,hb⟩;replace B:Hid (Below w.heap.size w w1):=hid (af B.out (Nat.le_refl _) hb);clear hb)
         |fail)
       |(go_at_call 57;(with_reducible refine(C5.out _).mono ?_);rintro e w1 ⟨rfl,hb⟩;replace B:Hid (Below w.heap.size w w1):=hid (af B.out (Nat.le_refl _) hb);clear hb)
       |(go_at_call 58;(with_reducible refine(C6.out _).mono ?_);rintro e w1 ⟨rfl,hb⟩;replace B:Hid (Below w.heap.size w w1):=hid (af B.out (Nat.le_refl _) hb);clear hb))
      all_goals first
       |((try simp only[Exit.inBlock,Exit.then]);refine bodyPost_ret (DM rfl _ _ _) rfl ?_;exact⟨by first|rfl|(rw[HD.out];rfl)|(rw[hd0.out trivial];done)|(rw[hd0.out trivial];rfl),B.out⟩;done)
       |(exfalso;simp_all;done)
       |trace_state
  .have D2:=hid (x3.out rfl).1
   obtain⟨-,x5,x6,x7⟩:=x3.out rfl;clear x4;cases pok
   all_goals
    cases b1
    all_goals
     cases b2
     all_goals
      go_enter func29,ntmps29
      go_wp2_with (first
       |(go_at_call 45;first
         |((with_reducible refine(C1.out _).mono ?_);rintro e w1 ⟨rfl,rfl⟩)
         |((with_reducible refine(C3.out _).mono ?_);rintro e w1 ⟨rfl,rfl⟩))
       |(go_at_call 56;first
         |((with_reducible refine(C2.out _).mono ?_);rintro e w1 ⟨rfl,hb⟩;replace B:Hid (Below w.heap.size w w1):=hid (af B.out (Nat.le_refl _) hb);clear hb)
         |((with_reducible refine(D2.out _).mono ?_);rintro e w1 ⟨rfl,hb⟩;replace B:Hid (Below w.heap.size w w1):=hid (af B.out (Nat.le_refl _) hb);clear hb))
       |(go_at_call 57;(with_reducible refine(C5.out _).mono ?_);rintro e w1 ⟨rfl,hb⟩;replace B:Hid (Below w.heap.size w w1):=hid (af B.out (Nat.le_refl _) hb);clear hb)
       |(go_at_call 58;(with_reducible refine(C6.out _).mono ?_);rintro e w1 ⟨rfl,hb⟩;replace B:Hid (Below w.heap.size w w1):=hid (af B.out (Nat.le_refl _) hb);clear hb))
      go_quiet (fail)
      replace B:=hid (dh (n:=nq) B.out)
      go_wp2_with (first
       |(go_at_call 45;first
         |((with_reducible refine(C1.out _).mono ?_);rintro e w1 ⟨rfl,rfl⟩)
         |((with_reducible refine(C3.out _).mono ?_);rintro e w1 ⟨rfl,rfl⟩))
       |(go_at_call 56;first
         |((with_reducible refine(C2.out _).mono ?_);rintro e w1 ⟨rfl,hb⟩;replace B:Hid (Below w.heap.size w w1):=hid (af B.out (Nat.le_refl _) hb);clear hb)
         |((with_reducible refine(D2.out _).mono ?_);rintro e w1 ⟨rfl,hb⟩;replace B:Hid (Below w.heap.size w w1):=hid (af B.out (Nat.le_refl _) hb);clear hb))
       |(go_at_call 57;(with_reducible refine(C5.out _).mono ?_);rintro e w1 ⟨rfl,hb⟩;replace B:Hid (Below w.heap.size w w1):=hid (af B.out (Nat.le_refl _) hb);clear hb)
       |(go_at_call 58;(with_reducible refine(C6.out _).mono ?_);rintro e w1 ⟨rfl,hb⟩;replace B:Hid (Below w.heap.size w w1):=hid (af B.out (Nat.le_refl _) hb);clear hb))
      go_quiet (fail)
      replace B:=hid (dh (n:=nq) B.out)
      go_wp2_with (first
       |(go_at_call 45;first
         |((with_reducible refine(C1.out _).mono ?_);rintro e w1 ⟨rfl,rfl⟩)
         |((with_reducible refine(C3.out _).mono ?_);rintro e w1 ⟨rfl,rfl⟩))
       |(go_at_call 56;first
         |((with_reducible refine(C2.out _).mono ?_);rintro e w1 ⟨rfl,hb⟩;replace B:Hid (Below w.heap.size w w1):=hid (af B.out (Nat.le_refl _) hb);clear hb)
         |((with_reducible refine(D2.out _).mono ?_);rintro e w1 ⟨rfl,hb⟩;replace B:Hid (Below w.heap.size w w1):=hid (af B.out (Nat.le_refl _) hb);clear hb))
       |(go_at_call 57;(with_reducible refine(C5.out _).mono ?_);rintro e w1 ⟨rfl,hb⟩;replace B:Hid (Below w.heap.size w w1):=hid (af B.out (Nat.le_refl _) hb);clear hb)
       |(go_at_call 58;(with_reducible refine(C6.out _).mono ?_);rintro e w1 ⟨rfl,hb⟩;replace B:Hid (Below w.heap.size w w1):=hid (af B.out (Nat.le_refl _) hb);clear hb))
      all_goals first
       |((try simp only[Exit.inBlock,Exit.then]);refine bodyPost_ret (DM rfl _ _ _) rfl ?_;exact⟨by first|rfl|(rw[HD.out];rfl)|(rw[hd0.out trivial];done)|(rw[hd0.out trivial];rfl),B.out⟩;done)
       |(exfalso;simp_all;done)
       |trace_state
open Fm Fl
def rD (s:List UInt8):List UInt8:=(trimPrefix s [45]).takeWhile (bK.contains ·)
def sU (s:List UInt8):List UInt8:=(trimPrefix s [45]).dropWhile (bK.contains ·)
def DT (s:List UInt8):Bool:=hasPrefix (sU s) [46]
def oQ (s:List UInt8):List UInt8:=if DT s=true then(trimPrefix (sU s) [46]).takeWhile (bK.contains ·) else []
def qX (s:List UInt8):List UInt8:=if DT s=true then(trimPrefix (sU s) [46]).dropWhile (bK.contains ·) else sU s
def fv (s:List UInt8):List UInt8:=(rD s++oQ s).dropWhile ([48].contains ·)
def jk (s:List UInt8):Bool:=hasPrefix s [45]
def lN (s:List UInt8):Int:=mh s (rD s) (oQ s) (qX s)
def gu (s:List UInt8):Int:=tB (oQ s) (qX s) (fv s)
def ic (s:List UInt8):Nat:=aM 0 (fv s)
theorem Eu (s:List UInt8):vL s (trimPrefix s [45]) (rD s) (sU s) (trimPrefix (sU s) [46]) (oQ s) (qX s) (fv s) (jk s) (DT s):=⟨rfl,rfl,rfl,rfl,rfl,rfl,rfl,rfl,rfl⟩
theorem XU {s t whole t2 r part rest d:List UInt8}{neg pt:Bool}(H:vL s t whole t2 r part rest d neg pt):rD s=whole/\oQ s=part/\qX s=rest/\fv s=d/\jk s=neg:=by
 obtain⟨rfl,rfl,rfl,rfl,rfl,rfl,rfl,rfl,rfl⟩:=H;exact⟨rfl,rfl,rfl,rfl,rfl⟩
def pa:List UInt8:=[105,110,102]
def oY:List UInt8:=[45,105,110,102]
def pT:List UInt8:=[110,97,110]
def kj (s:List UInt8) (mode:Int):Int:=if aD mode=true then(if s=pa\/s=oY\/s=pT then 0 else lN s) else 1
def fX (s:List UInt8) (mode:Int):Int:=
 if aD mode=true then
  (if s=pa then 9218868437227405312 else if s=oY then 18442240474082181120 else if s=pT then 9221120237041090560
   else if lN s=0 then(rat (kd (jk s) mode) (dM (ic s) (gu s)) (fE (gu s)):Int)+(if jk s=true then 9223372036854775808 else 0) else 0)
 else 0
def j6 (s:List UInt8) (mode:Int):Bool:=
 if aD mode=true then
  (if s=pa\/s=oY\/s=pT then false
   else if lN s=0 then jg (dM (ic s) (gu s)) (fE (gu s)) else false)
 else false
theorem Ao (s:List UInt8):(∀c∈fv s,cF c)/\(fv s).length<=s.length/\(fv s=[]\/∃c l,fv s=c::l/\c≠48):=by
 have H:=Eu s;obtain⟨lw,l1,l2,lr,lp,le,ls,cV⟩:=By H;refine⟨fun c hc=>Gd (cV c ?_),?_,?_⟩
 .exact(Fc _).mem hc
 .have :=nQ (p:=([48].contains ·)) (rD s++oQ s)
  rw[ck]at this;unfold fv;omega
 .unfold fv
  generalize rD s++oQ s=l
  induction l with
  |nil=>exact Or.inl rfl
  |cons c l ih=>
   by_cases hc:c=48
   .rw[sj (by simp [hc])]
    exact ih
   .rw[qJ (by simp [hc])]
    exact Or.inr ⟨c,l,rfl,hc⟩
theorem T8 (neg:Bool) (W P E:List UInt8) (pt:Bool) (hW0:W≠[]) (hW:∀c∈W,bK.contains c=true) (hP:∀c∈P,bK.contains c=true) (hpt:pt=false->P=[]) (hE:E=[]\/∃c l,E=c::l/\bK.contains c=false/\c≠46):
  ∃t t2 r,vL ((if neg=true then [45] else [])++(W++((if pt=true then 46::P else [])++E))) t W t2 r P E ((W++P).dropWhile ([48].contains ·)) neg pt:=by
 have t1:trimPrefix ((if neg=true then [45] else [])++(W++((if pt=true then 46::P else [])++E))) [45]=W++((if pt=true then 46::P else [])++E)/\hasPrefix ((if neg=true then [45] else [])++(W++((if pt=true then 46::P else [])++E))) [45]=neg:=by
  cases neg with
  |true=>exact kT [45] _
  |false=>
   cases W with
   |nil=>exact absurd rfl hW0
   |cons c W=>
    have hc:=hW c (mT ..);exact rV 45 c [] _ (by rw[aH];intro h;subst h;revert hc;decide)
 have tkE:E.takeWhile (bK.contains ·)=[]/\E.dropWhile (bK.contains ·)=E:=by
  rcases hE with rfl|⟨c,l,rfl,h1,h2⟩
  .exact⟨rfl,rfl⟩
  .exact⟨uk (by simp only[h1];decide),qJ (by simp only[h1];decide)⟩
 have app:∀(A B:List UInt8),(∀c∈A,bK.contains c=true)->B.takeWhile (bK.contains ·)=[]->B.dropWhile (bK.contains ·)=B->(A++B).takeWhile (bK.contains ·)=A/\(A++B).dropWhile (bK.contains ·)=B:=fun A B hA h1 h2=>by
  induction A with
  |nil=>exact⟨h1,h2⟩
  |cons c A ih=>
   have ih:=ih (fun d hd=>hA d (n8 _ hd));have hc:=hA c (mT ..);rw[i',wj (by exact hc),sj (by exact hc),ih.1,ih.2];exact⟨rfl,rfl⟩
 have h46:bK.contains 46=false:=by decide
 have tk2:((if pt=true then 46::P else [])++E).takeWhile (bK.contains ·)=[]/\((if pt=true then 46::P else [])++E).dropWhile (bK.contains ·)=(if pt=true then 46::P else [])++E:=by
  cases pt with
  |true=>exact⟨uk (by simp only[h46];decide),qJ (by simp only[h46];decide)⟩
  |false=>exact tkE
 have w:=app W _ hW tk2.1 tk2.2;have pe:=app P E hP tkE.1 tkE.2;refine⟨_,_,_,t1.1.symm,t1.2.symm,w.1.symm,w.2.symm,rfl,?_,?_,?_,rfl⟩
 .cases pt with
  |true=>exact(kT [46] (P++E)).2.symm
  |false=>
   show false=hasPrefix ([]++E) [46]
   rcases hE with rfl|⟨c,l,rfl,h1,h2⟩
   .rfl
   .exact(rV 46 c [] l (by rw[aH];exact gX h2)).2.symm
 .cases pt with
  |true=>
   show P=(trimPrefix ([46]++(P++E)) [46]).takeWhile _
   rw[(kT [46] (P++E)).1];exact pe.1.symm
  |false=>exact hpt rfl
 .cases pt with
  |true=>
   show E=(trimPrefix ([46]++(P++E)) [46]).dropWhile _
   rw[(kT [46] (P++E)).1];exact pe.2.symm
  |false=>rfl
theorem Ya (l:List UInt8):aM 0 (l.dropWhile ([48].contains ·))=aM 0 l:=by
 induction l with
 |nil=>rfl
 |cons c l ih=>
  by_cases hc:c=48
  .rw[sj (by simp [hc]),ih,hc]
   rfl
  .rw[qJ (by simp [hc])]
def fs (neg:Bool) (W P E:List UInt8) (p:Bool):List UInt8:=(if neg=true then [45] else [])++(W++((if p=true then 46::P else [])++E))
theorem ac6 (neg:Bool) (W P E:List UInt8) (p:Bool) (hW0:W≠[]) (hW:∀c∈W,bK.contains c=true):¬(fs neg W P E p=pa\/fs neg W P E p=oY\/fs neg W P E p=pT):=by
 cases W with
 |nil=>exact absurd rfl hW0
 |cons c W=>
  have hc:=hW c (mT ..);unfold fs pa oY pT;cases neg with
  |true=>
   simp only[cQ,i',ku,Fb];rintro(⟨h,-⟩|⟨-,h,-⟩|⟨h,-⟩)
   .revert h;decide
   .subst h;revert hc;decide
   .revert h;decide
  |false=>
   simp only[ga,e9,i',ku,Fb];rintro(⟨h,-⟩|⟨h,-⟩|⟨h,-⟩) <;> (subst h;revert hc;decide)
def yi (E:List UInt8) (q:Int):Prop:=(E=[]\/∃c l,E=c::l/\bK.contains c=false/\c≠46)/\jI E=true/\o9 E=q
theorem tail_nil:yi [] 0:=⟨Or.inl rfl,rfl,rfl⟩
theorem vC (k B:Nat):rat k 0 B=0/\jg 0 B=false:=by unfold rat jg;rw[aj rfl,aj rfl];exact⟨rfl,rfl⟩
theorem Km (neg:Bool) (W P E:List UInt8) (p:Bool) (hW0:W≠[]) (hW:∀c∈W,cF c) (hP:∀c∈P,cF c) (hp:p=false->P=[]) {q:Int}(hE:yi E q) (hl:(fs neg W P E p).length<=1000) (mode:Int) (hk:aD mode=true):
  kj (fs neg W P E p) mode=0/\
  fX (fs neg W P E p) mode=(rat (kd neg mode) (dM (aM 0 (W++P)) (q-P.length)) (fE (q-P.length)):Int)+(if neg=true then 9223372036854775808 else 0)/\
  j6 (fs neg W P E p) mode=jg (dM (aM 0 (W++P)) (q-P.length)) (fE (q-P.length)):=by
 have hW':∀c∈W,bK.contains c=true:=fun c hc=>vg (hW c hc)
 have hP':∀c∈P,bK.contains c=true:=fun c hc=>vg (hP c hc)
 obtain⟨t,t2,r,H⟩:=T8 neg W P E p hW0 hW' hP' hp hE.1;obtain⟨e1,e2,e3,e4,e5⟩:=XU H;have hno:=ac6 neg W P E p hW0 hW';have hne:(W++P).isEmpty=false:=by cases W with|nil=>exact absurd rfl hW0|cons c W=>rfl
 have hr:lN (fs neg W P E p)=0:=by
  unfold lN fs;rw[e1,e2,e3];unfold mh;rw[ag (by unfold fs at hl;omega),aj ⟨hE.2.1,hne⟩]
 have hN:ic (fs neg W P E p)=aM 0 (W++P):=by unfold ic fs;rw[e4,Ya]
 have hn:jk (fs neg W P E p)=neg:=e5
 have hX:dM (ic (fs neg W P E p)) (gu (fs neg W P E p))=dM (aM 0 (W++P)) (q-P.length)/\(aM 0 (W++P)≠0->gu (fs neg W P E p)=q-P.length):=by
  rw[hN]
  have hx:gu (fs neg W P E p)=if(fv (fs neg W P E p)).isEmpty=true then 0 else q-P.length:=by
   unfold gu tB fs;rw[e2,e3,hE.2.2]
  by_cases hz:aM 0 (W++P)=0
  .rw[hz];unfold dM;rw[iq,iq];exact⟨rfl,fun h=>absurd rfl h⟩
  .have hd:(fv (fs neg W P E p)).isEmpty=false:=by
    cases hh:(fv (fs neg W P E p)).isEmpty
    .rfl
    .exfalso
     apply hz;rw[<-hN];unfold ic;rw[Fo.1 hh];rfl
   rw[hd]at hx;rw[hx];exact⟨rfl,fun _=>rfl⟩
 refine⟨by unfold kj;rw[aj hk,ag hno];exact hr,?_,?_⟩
 .unfold fX
  rw[aj hk,ag (fun e=>hno (Or.inl e)),ag (fun e=>hno (Or.inr (Or.inl e))),ag (fun e=>hno (Or.inr (Or.inr e))),aj hr,hn,hX.1];by_cases hz:aM 0 (W++P)=0
  .have :dM (aM 0 (W++P)) (q-P.length)=0:=by unfold dM;rw[hz,iq]
   rw[this,(vC _ _).1,(vC _ _).1]
  .rw[hX.2 hz]
 .unfold j6
  rw[aj hk,ag hno,aj hr,hX.1];by_cases hz:aM 0 (W++P)=0
  .have :dM (aM 0 (W++P)) (q-P.length)=0:=by unfold dM;rw[hz,iq]
   rw[this,(vC 0 _).2,(vC 0 _).2]
  .rw[hX.2 hz]
theorem yV (x:Int):gW x=if decide (9223372036854775808<=x)=true then [45] else []:=by
 unfold gW;by_cases h:9223372036854775808<=x <;> simp [h]
theorem Uz {x:Int}(x0:0<=x) (x1:x<=18446744073709551615):(((ay x).toNat:Nat):Int)+(if decide (9223372036854775808<=x)=true then 9223372036854775808 else 0)=x:=by
 unfold ay;by_cases h:9223372036854775808<=x
 .simp [h];omega
 .simp [h];omega
open Nt Fm Fl
theorem Pl (a b:Nat):0<aK (a:Int) (b:Int)↔b<a:=by unfold aK;split <;> (try split) <;> omega
theorem SE (a b:Nat):aK (a:Int) (b:Int)<0↔a<b:=by unfold aK;split <;> (try split) <;> omega
theorem JT (a b:Nat):aK (a:Int) (b:Int)=0↔a=b:=by unfold aK;split <;> (try split) <;> omega
def jr (k e:Int):Nat:=10^k.toNat*2^(-e).toNat
def eY (k e:Int):Nat:=2^e.toNat*10^(-k).toNat
theorem WE (k e:Int):0<jr k e:=fm (fN (by omega)) (az _)
theorem Vz (k e:Int):0<eY k e:=fm (az _) (fN (by omega))
theorem Xa (a:Nat) (k e:Int):nG a k e=a*jr k e:=by unfold nG jr;rw[aF]
theorem IG (b:Nat) (k e:Int):mX b k e=b*eY k e:=by unfold mX eY;rw[aF]
theorem Dd (n L H:Nat) (k e:Int) (ev:Bool):nU n L H k e ev=true↔(L*eY k e<n*jr k e/\n*jr k e<H*eY k e)\/(ev=true/\(n*jr k e=L*eY k e\/n*jr k e=H*eY k e)):=by
 unfold nU tx;rw[Xa,IG,IG,jR,lT,lT,jR,da,da,dV,dV,Pl,SE,JT,JT]
theorem parts_eq {x:Int}(x0:0<=x) (x1:x<=18446744073709551615):ay x=dy x*4503599627370496+c8 x:=by unfold ay dy c8;omega
theorem XI {x:Int}(x0:0<=x) (x1:x<=18446744073709551615):aw (ay x).toNat=aP x*2^((dy x).toNat-1)/\jK (ay x).toNat=2^((dy x).toNat-1)/\bw x+1076=(((dy x).toNat-1:Nat):Int):=by
 have hp:=parts_eq x0 x1;have hf:=pX x;have he:=rQ x;unfold aP bw;generalize dy x=e at *;generalize c8 x=f at *;generalize ay x=a at *;subst hp;refine⟨?_,?_,by omega⟩
 .by_cases h:0<e
  .rw[aj h]
   have :=nT (f+4503599627370496).toNat (e.toNat-1) (Or.inl (by omega)) (by omega);rw[<-this];congr 1;omega
  .rw[ag h]
   have :=nT f.toNat 0 (Or.inr rfl) (by omega);rw[show e.toNat-1=0 by omega,<-this];congr 1;omega
 .unfold jK
  congr 2;omega
theorem wQ {x:Int}(x0:0<=x) (x1:x<=18446744073709551615) (hx:1<=ay x):
  4*jK ((ay x).toNat-1)*2=4*(4*aP x-dB x)*2^((dy x).toNat-1)/\1<=aP x:=by
 have hp:=parts_eq x0 x1;have hf:=pX x;have he:=rQ x;have hm1:1<=aP x:=by unfold aP;split <;> omega
 refine⟨?_,hm1⟩;unfold dB;have hM:(4*aP x-(if c8 x=0/\1<dy x then 4*aP x-1 else 4*aP x-2))=if c8 x=0/\1<dy x then 1 else 2:=by split <;> omega
 rw[hM];clear hM hm1;generalize dy x=e at *;generalize c8 x=f at *;generalize ay x=a at *;subst hp;unfold jK;by_cases h:f=0/\1<e
 .obtain⟨rfl,h2⟩:=h
  rw[aj ⟨rfl,h2⟩,show((e*4503599627370496+0).toNat-1)/4503599627370496-1=e.toNat-2 by omega,show e.toNat-1=(e.toNat-2)+1 by omega,bH];omega
 .rw[ag h,show((e*4503599627370496+f).toNat-1)/4503599627370496-1=e.toNat-1 by omega]
  omega
theorem ON {x:Int}(x0:0<=x) (x1:x<=18446744073709551615) (hv:dG x=true) (hx:1<=ay x) (N:Nat) (K:Int):
  nU N (dB x) (4*aP x+2) K (bw x) (decide (c8 x%2=0))=true↔rat 2 (dM N K) (fE K)=(ay x).toNat:=by
 have hMR:MR=9218868437227405312:=rfl;have hlt:(ay x).toNat<MR:=by unfold dG at hv;rw[da]at hv;omega
 obtain⟨m1,m2,m3⟩:=XI x0 x1;obtain⟨m4,m5⟩:=wQ x0 x1 hx;have s1:=sC (ay x).toNat;have s2:=sC ((ay x).toNat-1);rw[show(ay x).toNat-1+1=(ay x).toNat by omega]at s2;rw[Xf (tF K) hlt,Dd];have hpar:(ay x).toNat%2=0↔c8 x%2=0:=by have :=parts_eq x0 x1;omega
 have hL:dB x<=4*aP x:=by unfold dB;split <;> omega
 rw[da,hpar];obtain⟨g,hg⟩:∃g,g=(dy x).toNat-1:=⟨_,rfl⟩;rw[<-hg]at m1 m2 m3 m4;have hr0:¬(ay x).toNat=0:=by omega
 have eL:2*(aw ((ay x).toNat-1)+aw (ay x).toNat)=dB x*2^g:=by
  have e1:4*(4*aP x-dB x)*2^g=4*(4*(aP x*2^g))-4*(dB x*2^g):=by
   rw[aF,Nat.sub_mul,Nat.mul_sub,aF 4 (aP x)]
  have e2:dB x*2^g<=4*(aP x*2^g):=by rw[<-aF];exact bR _ hL
  rw[e1]at m4;rw[m1]at s2;omega
 have eH:2*(aw (ay x).toNat+aw ((ay x).toNat+1))=(4*aP x+2)*2^g:=by
  rw[s1,m1,m2,a_,aF];omega
 have hLH:dB x<4*aP x+2:=by omega
 have hu:=tc;have hVS:0<2^(bw x).toNat*10^(-K).toNat:=fm (az _) (fN (by omega));unfold dM fE jr eY;generalize aw ((ay x).toNat-1)+aw (ay x).toNat=l at *;generalize aw (ay x).toNat+aw ((ay x).toNat+1)=h at *;generalize dB x=L at *;generalize 4*aP x+2=H at *;generalize bw x=E at *
 have hU:2^g*2^(-E).toNat=4*u74*2^E.toNat:=by
  have h22:(2:Nat)^2=4:=rfl;have h4:4*u74=2^(ni+2):=by rw[u74,aB,h22,aW]
  rw[h4,<-aB,<-aB];have hK:ni=1074:=rfl;have hq:g+(-E).toNat=ni+2+E.toNat:=by omega
  rw[hq]
 have hW:=az (-E).toNat;have hG:=az g;generalize (10:Nat)^K.toNat=T at *;generalize (10:Nat)^(-K).toNat=S at *;generalize (2:Nat)^E.toNat=V at *;generalize (2:Nat)^(-E).toNat=W at *;generalize (2:Nat)^g=G at *;generalize u74=U at *
 have c1:l*S*(2*W)=L*(V*S)*(4*U):=by
  calc l*S*(2*W)=(2*l)*S*W:=by ac_rfl
   _=L*G*S*W:=by rw[eL]
   _=L*S*(G*W):=by ac_rfl
   _=L*S*(4*U*V):=by rw[hU]
   _=_:=by ac_rfl
 have c2:h*S*(2*W)=H*(V*S)*(4*U):=by
  calc h*S*(2*W)=(2*h)*S*W:=by ac_rfl
   _=H*G*S*W:=by rw[eH]
   _=H*S*(G*W):=by ac_rfl
   _=H*S*(4*U*V):=by rw[hU]
   _=_:=by ac_rfl
 have c3:2*(N*T*U)*(2*W)=N*(T*W)*(4*U):=by
  calc 2*(N*T*U)*(2*W)=(2*2)*(N*(T*W)*U):=by ac_rfl
   _=4*(N*(T*W)*U):=rfl
   _=_:=by ac_rfl
 have hU0:0<4*U:=by omega
 have h2W:0<2*W:=by omega
 have lt1:l*S<2*(N*T*U)↔L*(V*S)<N*(T*W):=by
  rw[<-wg h2W,c1,c3,wg hU0]
 have eq1:l*S=2*(N*T*U)↔L*(V*S)=N*(T*W):=by
  rw[<-Fp (show 2*W≠0 by omega),c1,c3,Fp (by omega)]
 have lt2:2*(N*T*U)<h*S↔N*(T*W)<H*(V*S):=by
  rw[<-wg h2W,c2,c3,wg hU0]
 have eq2:2*(N*T*U)=h*S↔N*(T*W)=H*(V*S):=by
  rw[<-Fp (show 2*W≠0 by omega),c2,c3,Fp (by omega)]
 rw[lt1,eq1,lt2,eq2];have hy:=cS hLH hVS;generalize L*(V*S)=y1 at *;generalize N*(T*W)=y2 at *;generalize H*(V*S)=y3 at *;generalize (c8 x%2=0)=ev at *;constructor
 .rintro(⟨h1,h2⟩|⟨h1,h2|h2⟩)
  .exact⟨Or.inr (Or.inl h1),Or.inl h2⟩
  .exact⟨Or.inr (Or.inr ⟨h2.symm,h1⟩),Or.inl (by omega)⟩
  .exact⟨Or.inr (Or.inl (by omega)),Or.inr ⟨h2,h1⟩⟩
 .rintro⟨h1|h1|⟨h1,h3⟩,h2|⟨h2,h4⟩⟩
  .exact absurd h1 hr0
  .exact absurd h1 hr0
  .exact Or.inl ⟨h1,h2⟩
  .exact Or.inr ⟨h4,Or.inr h2⟩
  .exact Or.inr ⟨h3,Or.inl h1.symm⟩
  .exact Or.inr ⟨h3,Or.inl h1.symm⟩
theorem XN (g:Bool) (m:Nat) (x:Int):norm g (4*m) (x-2)=norm g m x:=by
 have h1:0<=x-2+((((-x).toNat+2:Nat)):Int):=by omega
 generalize ((-x).toNat+2:Nat)=T at *;refine AH (iT _ _ _) (iT _ _ _) (mZ h1) (mZ (by omega)) ?_;rw[j9 _ _ _ _ h1,j9 _ _ _ _ (by omega)];unfold D.vl D.sm;simp only;rw[show(x+(T:Int)).toNat=2+(x-2+(T:Int)).toNat by omega,uc,<-rZ];congr 1;cases g <;> simp <;> omega
theorem Xl (a b:Bool) (m:Nat) (e:Int):(norm a m e).m=(norm b m e).m/\(norm a m e).e=(norm b m e).e:=by
 unfold norm;split <;> exact⟨rfl,rfl⟩
def cK (x:Int):D:=norm false (4*aP x) (bw x)
theorem O8 (x:Int):(cK x).m=(ai x).m/\(cK x).e=(ai x).e:=by
 unfold cK ai bw;rw[show max (dy x) 1-1077=max (dy x) 1-1075-2 by omega,XN];exact Xl _ _ _ _
theorem wU {x:Int}(x0:0<=x) (x1:x<=18446744073709551615) (hx:1<=ay x):ko (cK x)/\ko (ai x):=by
 obtain⟨h1,h2⟩:=O8 x;have hm:=(wQ x0 x1 hx).2
 have h0:(cK x).m≠0:=by
  unfold cK norm;rw[ag (by omega)];obtain⟨q,g1,g2⟩:=oR (show 4*aP x≠0 by omega)
  have :4*aP x/2^ctz (4*aP x)=q:=by
   conv=>lhs;lhs;rw[g1]
   exact ua _ (az _)
  show 4*aP x/2^ctz (4*aP x)≠0
  rw[this];omega
 rcases uH x0 x1 with h|h
 .rw[<-h1]at h;exact absurd h h0
 .exact⟨⟨h0,by rw[h1];exact h.m1,by rw[h2];exact h.e0,by rw[h2];exact h.e1⟩,h⟩
theorem Sq (x K:Int) (hm:1<=aP x):dN (cK x) (-K)*jr K (bw x)=4*aP x*eY K (bw x)*dD (cK x) (-K):=by
 obtain⟨q,g1,g2⟩:=oR (show 4*aP x≠0 by omega)
 have hdiv:4*aP x/2^ctz (4*aP x)=q:=by
  conv=>lhs;lhs;rw[g1]
  exact ua _ (az _)
 have e1:(cK x).m=q/\(cK x).e=bw x+ctz (4*aP x):=by
  unfold cK norm;rw[ag (by omega)];exact⟨hdiv,rfl⟩
 unfold dN dD jr eY;rw[e1.1,e1.2,Int.neg_neg];generalize bw x=E at *;generalize ctz (4*aP x)=z at *;rw[g1]
 have hz:2^(E+(z:Int)).toNat*2^(-E).toNat=2^z*2^E.toNat*2^(-(E+(z:Int))).toNat:=by
  rw[<-aB,<-aB,<-aB];congr 1;omega
 calc q*10^(-K).toNat*2^(E+(z:Int)).toNat*(10^K.toNat*2^(-E).toNat)=q*10^(-K).toNat*10^K.toNat*(2^(E+(z:Int)).toNat*2^(-E).toNat):=by ac_rfl
  _=q*10^(-K).toNat*10^K.toNat*(2^z*2^E.toNat*2^(-(E+(z:Int))).toNat):=by rw[hz]
  _=_:=by ac_rfl
noncomputable def bW (x:Int) (n:Nat):Int:=dK (cK x)+1-n
noncomputable def dS (x:Int) (n:Nat):Nat:=dN (cK x) (-bW x n)/dD (cK x) (-bW x n)
theorem SR (x:Int) (n:Nat) (hm:1<=aP x):dS x n*jr (bW x n) (bw x)<=4*aP x*eY (bW x n) (bw x)/\4*aP x*eY (bW x n) (bw x)<(dS x n+1)*jr (bW x n) (bw x):=by
 have hc:=Sq x (bW x n) hm;have hp:=qb (cK x) (-bW x n);have hA:=WE (bW x n) (bw x);have h1:=qH (dN (cK x) (-bW x n)) (dD (cK x) (-bW x n));have h2:=Nat.lt_div_mul_add hp (a:=dN (cK x) (-bW x n));have hQ:dS x n=dN (cK x) (-bW x n)/dD (cK x) (-bW x n):=rfl;rw[<-hQ]at h1 h2;generalize dS x n=Q at *;generalize dN (cK x) (-bW x n)=N at *;generalize dD (cK x) (-bW x n)=D at *;generalize jr (bW x n) (bw x)=α at *;generalize 4*aP x*eY (bW x n) (bw x)=s at *;constructor
 .apply jS _ hp
  rw[<-hc]
  calc Q*α*D=Q*D*α:=by ac_rfl
   _<=N*α:=bR _ h1
 .apply mR (a:=D)
  rw[<-hc]
  calc N*α<(Q*D+D)*α:=cS h2 hA
   _=(Q+1)*α*D:=by rw[a_ Q 1 α,fP,a_,a_];congr 1 <;> ac_rfl
theorem yp {x:Int}(x0:0<=x) (x1:x<=18446744073709551615) (hx:1<=ay x) (n:Nat) (hn:1<=n):10^(n-1)<=dS x n/\dS x n<10^n:=by
 have hl:=zr (wU x0 x1 hx).1;have h1:=Kx hl (n-1);have h2:=I4 hl n;have hp:=qb (cK x) (-bW x n);unfold dS;unfold bW at hp ⊢;rw[show -dK (cK x)+((n-1:Nat):Int)= -(dK (cK x)+1-(n:Int)) by omega]at h1;rw[show -(dK (cK x)+1)+(n:Int)= -(dK (cK x)+1-(n:Int)) by omega]at h2;exact⟨(qF hp).2 h1,(lU hp).2 h2⟩
def Df (x:Int):Bool:=decide (c8 x%2=0)
noncomputable def ma (x:Int) (n:Nat):Bool:=nU (dS x n) (dB x) (4*aP x+2) (bW x n) (bw x) (Df x)
noncomputable def lQ (x:Int) (n:Nat):Bool:=nU (dS x n+1) (dB x) (4*aP x+2) (bW x n) (bw x) (Df x)
noncomputable def gw (x:Int) (n:Nat):Bool:=ma x n || lQ x n
theorem EG {x:Int}(x0:0<=x) (x1:x<=18446744073709551615) (hx:1<=ay x):gw x 17=true:=by
 have hm:=(wQ x0 x1 hx).2;obtain⟨b1,b2⟩:=SR x 17 hm;obtain⟨t1,t2⟩:=yp x0 x1 hx 17 (by omega);have hB:=Vz (bW x 17) (bw x);have hf:=pX x;have hM:aP x<9007199254740992/\(c8 x=0/\1<dy x->aP x=4503599627370496):=by unfold aP;constructor;(split <;> omega);(rintro⟨h1,h2⟩;rw[aj (by omega)];omega)
 have hL:(dB x=4*aP x-2\/(dB x=4*aP x-1/\aP x=4503599627370496)):=by
  unfold dB;split
  .rename_i h;exact Or.inr ⟨rfl,hM.2 h⟩
  .exact Or.inl rfl
 have e16:(10:Nat)^(17-1)=10000000000000000:=by decide
 rw[e16]at t1;have key:10000000000000000*jr (bW x 17) (bw x)<=4*aP x*eY (bW x 17) (bw x):=ct (bR _ t1) b1;unfold gw;rw[jR];unfold ma lQ;rw[Dd,Dd];rw[a_ (dS x 17) 1,fP]at b2 ⊢;rw[aF]at b1 b2 key;rw[a_ (4*aP x) 2,aF 4 (aP x)]
 have hLb:dB x*eY (bW x 17) (bw x)+2*eY (bW x 17) (bw x)=4*(aP x*eY (bW x 17) (bw x))\/(dB x*eY (bW x 17) (bw x)+eY (bW x 17) (bw x)=4*(aP x*eY (bW x 17) (bw x))/\aP x=4503599627370496):=by
  rcases hL with h|⟨h,h2⟩
  .left
   rw[<-a_,show dB x+2=4*aP x by omega,aF]
  .right
   refine⟨?_,h2⟩
   have :dB x*eY (bW x 17) (bw x)+1*eY (bW x 17) (bw x)=4*(aP x*eY (bW x 17) (bw x)):=by
    rw[<-a_,show dB x+1=4*aP x by omega,aF]
   omega
 have hMb:aP x*eY (bW x 17) (bw x)<=9007199254740991*eY (bW x 17) (bw x):=bR _ (by omega);have hMb2:aP x=4503599627370496->aP x*eY (bW x 17) (bw x)=4503599627370496*eY (bW x 17) (bw x):=fun h=>by rw[h]
 generalize aP x*eY (bW x 17) (bw x)=s at *;generalize dB x*eY (bW x 17) (bw x)=l at *;generalize dS x 17*jr (bW x 17) (bw x)=q at *;generalize jr (bW x 17) (bw x)=α at *;generalize eY (bW x 17) (bw x)=β at *;rcases hLb with h|⟨h,h2⟩
 .by_cases g:l<q
  .left;left;omega
  .right;left;omega
 .have h3:=hMb2 h2
  by_cases g:l<q
  .left;left;omega
  .right;left;omega
def qe (f:Nat->Bool):Nat->Nat->Nat
 | 0,n=>n
 |k+1,n=>if f n=true then n else qe f k (n+1)
theorem Ig (f:Nat->Bool):∀(k n:Nat),(∃j,n<=j/\j<=n+k/\f j=true)->f (qe f k n)=true/\n<=qe f k n/\qe f k n<=n+k/\∀i,n<=i->i<qe f k n->f i=false
 | 0,n,⟨j,h1,h2,h3⟩=>by
  obtain rfl:j=n:=by omega
  exact⟨h3,ae _,ae _,fun i hi hj=>by unfold qe at hj;omega⟩
 |k+1,n,⟨j,h1,h2,h3⟩=>by
  unfold qe;by_cases h:f n=true
  .rw[aj h];exact⟨h,ae _,by omega,fun i hi hj=>by omega⟩
  .rw[ag h]
   have hj:n+1<=j:=by
    rcases eJ n j with g|g
    .exact g
    .exact absurd (show f n=true by rw[show n=j by omega];exact h3) h
   obtain⟨a1,a2,a3,a4⟩:=Ig f k (n+1) ⟨j,hj,by omega,h3⟩;refine⟨a1,by omega,by omega,fun i hi hlt=>?_⟩;rcases eJ n i with g|g
   .exact a4 i g hlt
   .obtain rfl:i=n:=by omega
    cases h5:f i
    .rfl
    .exact absurd h5 h
noncomputable def fu (x:Int):Nat:=qe (gw x) 16 1
theorem Cz {x:Int}(x0:0<=x) (x1:x<=18446744073709551615) (hx:1<=ay x):gw x (fu x)=true/\1<=fu x/\fu x<=17/\∀i,1<=i->i<fu x->gw x i=false:=by
 obtain⟨a1,a2,a3,a4⟩:=Ig (gw x) 16 1 ⟨17,by omega,by omega,EG x0 x1 hx⟩;exact⟨a1,a2,by unfold fu;omega,a4⟩
theorem Y9 {x:Int}(x0:0<=x) (x1:x<=18446744073709551615) (hx:1<=ay x) {n:Nat}(hn:1<=n):jX (cK x) n 3=decDigits (dS x n):=by
 obtain⟨t1,t2⟩:=yp x0 x1 hx n hn
 have hQ:oX (cK x) n 3=dS x n:=by
  unfold oX dQ dS bW rq;rw[show(n:Int)-1-dK (cK x)= -(dK (cK x)+1-(n:Int)) by omega];have hu:∀(neg odd:Bool) (h:Int),dY neg odd h 3=false:=fun neg odd h=>by unfold dY;simp
  rw[hu];simp
 unfold jX;rw[ag (wU x0 x1 hx).1.m0,hQ]
 have hl:(decDigits (dS x n)).length<=n:=by
  refine Nat.not_lt.1 fun h=>?_
  have h1:=oW (dS x n);obtain⟨c,l,e1,e2⟩:=Dl (dS x n) (by have :=fN (n:=n-1) (show 0<10 by omega);omega);have h3:=uV (dS x n);have h4:=AJ l (c.toNat-48);have h5:aM 0 (c::l)=aM (0*10+(c.toNat-48)) l:=rfl;have hc:=h1 c (by rw[e1];exact mT ..);unfold cF at hc;have hne:c.toNat≠48:=fun h=>e2 (uo.1 (by rw[h];rfl))
  rw[e1,h5,iq,jw,h4]at h3;rw[e1,ez]at h;have h6:10^n<=10^l.length:=aG (by omega) (by omega);have h7:1*10^l.length<=(c.toNat-48)*10^l.length:=bR _ (by omega);omega
 unfold oL;rw[ag (by omega)]
noncomputable def xI (x:Int) (n:Nat):Int:=aK (nG (dS x n+(dS x n+1)) (bW x n) (bw x+1)) (mX (4*aP x) (bW x n) (bw x+1))
noncomputable def iK (x:Int) (n:Nat):Bool:=if ma x n=true/\lQ x n=true then(decide (xI x n<0) || (xI x n==0 && decide (dS x n%2=1))) else lQ x n
noncomputable def kC (x:Int):Nat:=if iK x (fu x)=true then dS x (fu x)+1 else dS x (fu x)
noncomputable def iC (x:Int):List UInt8:=decDigits (kC x)
noncomputable def dx (x:Int):List UInt8:=Lib.trimRightB (iC x) 48
noncomputable def gi (x:Int):Int:=bW x (fu x)+((iC x).length:Int)-((dx x).length:Int)
theorem R' {x:Int}(x0:0<=x) (x1:x<=18446744073709551615) (hx:1<=ay x) {n:Nat}(h1:1<=n) (h:gw x n=true) (hi:∀i,1<=i->i<n->gw x i=false):fu x=n:=by
 obtain⟨a1,a2,a3,a4⟩:=Cz x0 x1 hx;rcases ju (fu x) n with g|g|g
 .have :=hi _ a2 g
  rw[a1]at this;exact absurd this (by decide)
 .exact g
 .have :=a4 n h1 g
  rw[h]at this;exact absurd this (by decide)
theorem rN {x:Int}(x0:0<=x) (x1:x<=18446744073709551615) (hx:1<=ay x) {n:Nat}(h1:1<=n) (h:gw x n=true) (hi:∀i,1<=i->i<n->gw x i=false) {b:Bool}(hc:iK x n=b):
  dx x=Lib.trimRightB (decDigits (if b=true then dS x n+1 else dS x n)) 48/\gi x=bW x n+((decDigits (if b=true then dS x n+1 else dS x n)).length:Int)-((dx x).length:Int):=by
 have hn:=R' x0 x1 hx h1 h hi
 have e:iC x=decDigits (if b=true then dS x n+1 else dS x n):=by
  unfold iC kC;rw[hn,hc]
 refine⟨by unfold dx;rw[e],?_⟩;unfold gi;rw[hn,e]
open Go.RowKit Nt Fm Fl
theorem Ke {neg:Bool}{L N:Nat}{K:Int}(h:400<(L:Int)+K):gz neg L N K=⟨neg,1,2000⟩:=by unfold gz;rw[aj h]
theorem JA {neg:Bool}{L N:Nat}{K:Int}(h:(L:Int)+K< -400):gz neg L N K=⟨neg,1,-2000⟩:=by unfold gz;rw[ag (by omega),aj h]
theorem FD {neg:Bool}{L N:Nat}{K:Int}(h1:(L:Int)+K<=400) (h:0<=K):gz neg L N K=norm neg (N*10^K.toNat) 0:=by unfold gz;rw[ag (by omega),ag (by omega),aj h]
theorem J8 {neg:Bool}{L N:Nat}{K:Int}(h0: -400<=(L:Int)+K) (h1:(L:Int)+K<=400) (h:K<0):gz neg L N K=d' ((norm neg (N*10^K.toNat) 0).neg !=(norm false (10^(-K).toNat) 0).neg) (norm neg (N*10^K.toNat) 0).m (norm false (10^(-K).toNat) 0).m ((norm neg (N*10^K.toNat) 0).e-(norm false (10^(-K).toNat) 0).e):=by
 unfold gz;rw[ag (by omega),ag (by omega),ag (by omega)]
theorem wT (neg:Bool) {a k0:Nat}(h0:a≠0) (h:a<2^k0):(norm neg a 0).m≠0/\(norm neg a 0).m<2^k0/\0<=(norm neg a 0).e/\(norm neg a 0).e<=k0:=by
 obtain⟨c,z,e1,e2,e3⟩:=wL (neg:=neg) h0;rw[e1];refine⟨e3,?_,by show(0:Int)<=z;omega,?_⟩
 .show c<_
  have :=ug c (az z);omega
 .show(z:Int)<=k0
  have h1:2^z<=a:=by rw[e2];exact Fk _ (by omega)
  have h2:=(lW (by decide:1<2)).1 (de h1 h);omega
theorem RJ (neg:Bool) (ds:List UInt8) (S:ByteArray) (hS:S=⟨ds.toArray⟩) (hd:∀c∈ds,cF c) (hl:ds.length<=1000) (hN0:aM 0 ds≠0) (K:Int) (K0: -2000000<=K) (K1:K<=2000000) (w:World) (hT:aQ w):
  Calls prog 31 #[.bool neg,.string S,.int .i64 K] w (iR w (gz neg ds.length (aM 0 ds) K)):=by
 have hz:S.size=ds.length:=by rw[hS];rfl
 obtain⟨L,hL⟩:∃L,L=ds.length:=⟨_,rfl⟩;rw[<-hL]at hl hz;have OF:=hid (fun w'=>dU 1 (by omega) (by omega) w');have hw:IntKind.i64.wrap ((L:Int)+K)=(L:Int)+K:=IntWalk.i64_in _ (by omega);rw[<-hL];by_cases hb:400<(L:Int)+K
 .rw[Ke hb]
  clear hS hd hN0 hL hT;go_enter func31,ntmps31;go_wp2_with fail
  refine(OF.out _).mono ?_;rintro r w1 ⟨v1,rfl,h1,hb⟩;obtain⟨a1,n1,c1,rfl⟩:=h1.shape;have Z1:=hid ((ax.new w (.bool false) (.slice none 0 0) (.int .i64 0) 68).below hb);have B1:=hid (af ((Below.refl w.heap.size w).alloc (Nat.le_refl _) _) (Nat.le_refl _) hb);have V1:=hid h1;clear h1 hb;obtain⟨s0,s1,s2,t0,t1,t2⟩:=Z1.out.cells;have hB:=B1.out.size;go_wp2;refine bodyPost_ret (v:= .agg #[.bool neg,.slice a1 n1 c1,.int .i64 2000]) (by simp [results,Tryz.results31,go_sem,s0,s1,s2]) rfl ?_;refine⟨_,rfl,⟨_,rfl,?_⟩,cJ B1.out (Nat.le_refl _) _ _ _⟩;have :=V1.out.setD Z1.out (g':=neg) (ao':=a1) (n':=n1) (c':=c1) (e':=2000)
  simpa using this
 by_cases hs:(L:Int)+K< -400
 .rw[JA hs]
  clear hS hd hN0 hL hT;go_enter func31,ntmps31;go_wp2_with fail
  refine(OF.out _).mono ?_;rintro r w1 ⟨v1,rfl,h1,hb⟩;obtain⟨a1,n1,c1,rfl⟩:=h1.shape;have Z1:=hid ((ax.new w (.bool false) (.slice none 0 0) (.int .i64 0) 68).below hb);have B1:=hid (af ((Below.refl w.heap.size w).alloc (Nat.le_refl _) _) (Nat.le_refl _) hb);have V1:=hid h1;clear h1 hb;obtain⟨s0,s1,s2,t0,t1,t2⟩:=Z1.out.cells;have hB:=B1.out.size;go_wp2;refine bodyPost_ret (v:= .agg #[.bool neg,.slice a1 n1 c1,.int .i64 (-2000)]) (by simp [results,Tryz.results31,go_sem,s0,s1,s2]) rfl ?_;refine⟨_,rfl,⟨_,rfl,?_⟩,cJ B1.out (Nat.le_refl _) _ _ _⟩;have :=V1.out.setD Z1.out (g':=neg) (ao':=a1) (n':=n1) (c':=c1) (e':= -2000)
  simpa using this
 have RN:=hid (fun w'=>Hx ds S hS hd (by omega) w');have PW:=hid (fun X w' (hX:X=((K.toNat:Nat):Int))=>uy K.toNat X w' hX (by omega));obtain⟨kb,kb0,kb1⟩:∃kb,12000<=kb/\kb<=12000:=⟨12000,by omega,by omega⟩;have hN2:=Ek ds hd;have hNb:aM 0 ds<2^kb:=aX hN2 (aG (by omega) (by omega));have hPb:10^K.toNat<2^kb:=aX (mv _) (aG (by omega) (by omega))
 have hXb:aM 0 ds*10^K.toNat<2^kb:=by
  have h1:=wm hN2 (gn (mv K.toNat)) (az _);rw[<-aB]at h1;exact aX h1 (aG (by omega) (by omega))
 have hX0:aM 0 ds*10^K.toNat≠0:=Nat.mul_ne_zero hN0 (by have :=fN (n:=K.toNat) (show 0<10 by omega);omega);have TM:=hid (fun va vb w' (ha:NV w' va (aM 0 ds)) (hb:NV w' vb (10^K.toNat))=>kB va vb _ _ kb w' ha hb hNb hPb (by omega));have NM:=hid (fun va w' (ht:aQ w') (ha:NV w' va (aM 0 ds*10^K.toNat))=>iU neg va _ kb 0 w' ht ha hXb (by omega) (by omega) (by omega));obtain⟨x1,x2,x3,x4⟩:=wT neg hX0 hXb;have hmx:=hid (show max K 0=((K.toNat:Nat):Int) by omega);have HT:=hid hT;by_cases hk:0<=K
 .rw[FD (by omega) hk]
  generalize norm neg (aM 0 ds*10^K.toNat) 0=X at *;obtain⟨gx,mx,ex⟩:=X;clear hS hd hN0 hL hT OF hN2 hNb hPb hXb hX0 x1 x2 x3 x4;go_enter func31,ntmps31;go_wp2_with fail
  refine(RN.out _).mono ?_;rintro r w1 ⟨v1,rfl,h1,hb1⟩;have Z1:=hid ((ax.new w (.bool false) (.slice none 0 0) (.int .i64 0) 68).below hb1);have B1:=hid (af ((Below.refl w.heap.size w).alloc (Nat.le_refl _) _) (Nat.le_refl _) hb1);have V1:=hid h1;clear h1 hb1;go_wp2_with fail
  refine(PW.out _ _ hmx.out).mono ?_;rintro r w2 ⟨v2,rfl,h2,hb2⟩;have Z2:=hid (Z1.out.below hb2);have B2:=hid (af B1.out (Nat.le_refl _) hb2);replace V1:=hid (V1.out.below hb2);have V2:=hid h2;clear h2 hb2 Z1 B1;go_wp2_with fail
  refine(TM.out _ _ _ V1.out V2.out).mono ?_;rintro r w3 ⟨v3,rfl,h3,hb3⟩;have Z3:=hid (Z2.out.below hb3);have B3:=hid (af B2.out (Nat.le_refl _) hb3);have V3:=hid h3;clear h3 hb3 Z2 B2 V1 V2;go_wp2_with fail
  refine(NM.out _ _ (HT.out.below B3.out) V3.out).mono ?_;rintro r w4 ⟨v4,rfl,h4,hb4⟩;obtain⟨s4,rfl,hs4⟩:=h4;obtain⟨a4,n4,c4,rfl⟩:=hs4.shape;have Z4:=hid (Z3.out.below hb4);have B4:=hid (af B3.out (Nat.le_refl _) hb4);have V4:=hid hs4;clear hs4 hb4 Z3 B3 V3;obtain⟨V,hV⟩:∃V,V=w4.alloc (.cells #[.bool gx,.slice a4 n4 c4,.int .i64 ex] 68):=⟨_,rfl⟩;have X5:Hid (ax V w4.heap.size 68 (.bool gx) (.slice a4 n4 c4) (.int .i64 ex)):=hid (by rw[hV];exact ax.new w4 (.bool gx) (.slice a4 n4 c4) (.int .i64 ex) 68);have Z5:Hid (ax V w.heap.size 68 (.bool false) (.slice none 0 0) (.int .i64 0)):=hid (by rw[hV];exact Z4.out.alloc _);have B5:Hid (Below w.heap.size w V):=hid (by rw[hV];exact B4.out.alloc B4.out.size _);have V5:Hid (NV V (.slice a4 n4 c4) mx):=hid (by rw[hV];exact V4.out.alloc _);obtain⟨s0,s1,s2,t0,t1,t2⟩:=Z5.out.cells;obtain⟨u0,u1,u2,v0,v1,v2⟩:=X5.out.cells;have hB:=B4.out.size;rw[hV]at s0 s1 s2 t0 t1 t2 u0 u1 u2 v0 v1 v2;go_wp2;rw[<-hV]at *;refine bodyPost_ret (v:= .agg #[.bool gx,.slice a4 n4 c4,.int .i64 ex]) (by simp [results,Tryz.results31,go_sem,s0,s1,s2]) rfl ?_;refine⟨_,rfl,⟨_,rfl,?_⟩,cJ B5.out (Nat.le_refl _) _ _ _⟩;have :=V5.out.setD Z5.out (g':=gx) (ao':=a4) (n':=n4) (c':=c4) (e':=ex)
  simpa using this
 .rw[J8 (by omega) (by omega) (by omega)]
  have hPp:10^(-K).toNat≠0:=by have :=fN (n:=(-K).toNat) (show 0<10 by omega);omega
  have hPb2:10^(-K).toNat<2^kb:=aX (mv _) (aG (by omega) (by omega));have PX:=hid (fun X w' (hX:X=(((-K).toNat:Nat):Int))=>uy (-K).toNat X w' hX (by omega));have NX:=hid (fun va w' (ht:aQ w') (ha:NV w' va (10^(-K).toNat))=>iU false va _ kb 0 w' ht ha hPb2 (by omega) (by omega) (by omega));obtain⟨y1,y2,y3,y4⟩:=wT false hPp hPb2;generalize norm neg (aM 0 ds*10^K.toNat) 0=X at *;obtain⟨gx,mx,ex⟩:=X;generalize norm false (10^(-K).toNat) 0=Y at *;obtain⟨gy,my,ey⟩:=Y;simp only at x1 x2 x3 x4 y1 y2 y3 y4;have RA:=hid (fun vc vd w' hc hd=>NY vc vd ⟨gx,mx,ex⟩ ⟨gy,my,ey⟩ kb w' hc hd x2 y2 y1 (by omega) (by show _<=ex;omega) (by show ex<=_;omega) (by show _<=ey;omega) (by show ey<=_;omega));clear hS hd hN0 hL hT OF hN2 hNb hPb hXb hX0 x1 x2 x3 x4 y1 y2 y3 y4 hPp hPb2;go_enter func31,ntmps31;go_wp2_with fail
  refine(RN.out _).mono ?_;rintro r w1 ⟨v1,rfl,h1,hb1⟩;have Z1:=hid ((ax.new w (.bool false) (.slice none 0 0) (.int .i64 0) 68).below hb1);have B1:=hid (af ((Below.refl w.heap.size w).alloc (Nat.le_refl _) _) (Nat.le_refl _) hb1);have V1:=hid h1;clear h1 hb1;go_wp2_with fail
  refine(PW.out _ _ hmx.out).mono ?_;rintro r w2 ⟨v2,rfl,h2,hb2⟩;have Z2:=hid (Z1.out.below hb2);have B2:=hid (af B1.out (Nat.le_refl _) hb2);replace V1:=hid (V1.out.below hb2);have V2:=hid h2;clear h2 hb2 Z1 B1;go_wp2_with fail
  refine(TM.out _ _ _ V1.out V2.out).mono ?_;rintro r w3 ⟨v3,rfl,h3,hb3⟩;have Z3:=hid (Z2.out.below hb3);have B3:=hid (af B2.out (Nat.le_refl _) hb3);have V3:=hid h3;clear h3 hb3 Z2 B2 V1 V2;go_wp2_with fail
  refine(NM.out _ _ (HT.out.below B3.out) V3.out).mono ?_;rintro r w4 ⟨v4,rfl,h4,hb4⟩;obtain⟨s4,rfl,hs4⟩:=h4;obtain⟨a4,n4,c4,rfl⟩:=hs4.shape;have Z4:=hid (Z3.out.below hb4);have B4:=hid (af B3.out (Nat.le_refl _) hb4);have V4:=hid hs4;clear hs4 hb4 Z3 B3 V3;obtain⟨V,hV⟩:∃V,V=w4.alloc (.cells #[.bool gx,.slice a4 n4 c4,.int .i64 ex] 68):=⟨_,rfl⟩;have X5:Hid (ax V w4.heap.size 68 (.bool gx) (.slice a4 n4 c4) (.int .i64 ex)):=hid (by rw[hV];exact ax.new w4 (.bool gx) (.slice a4 n4 c4) (.int .i64 ex) 68);have Z5:Hid (ax V w.heap.size 68 (.bool false) (.slice none 0 0) (.int .i64 0)):=hid (by rw[hV];exact Z4.out.alloc _);have B5:Hid (Below w.heap.size w V):=hid (by rw[hV];exact B4.out.alloc B4.out.size _);have V5:Hid (NV V (.slice a4 n4 c4) mx):=hid (by rw[hV];exact V4.out.alloc _);obtain⟨bx,hbx⟩:∃bx,bx=w4.heap.size:=⟨_,rfl⟩;have hB:w.heap.size<bx:=by rw[hbx];exact Z4.out.lt
  go_wp2_with fail
  rw[<-hV];rw[<-hbx]at X5 ⊢;clear hV hbx Z4 B4 V4;have hnk:=hid (show IntKind.i64.wrap (-K)=(((-K).toNat:Nat):Int) by rw[IntWalk.i64_in _ (by omega)];omega);obtain⟨p0,p1,p2,-,-,-⟩:=X5.out.drew.cells
  go_region_held3 (fun w'=>w'.cell? ⟨bx,0,none⟩=some (.bool gx)/\w'.cell? ⟨bx,1,none⟩=some (.slice a4 n4 c4)/\w'.cell? ⟨bx,2,none⟩=some (.int .i64 ex))
   (first
    |with_reducible exact⟨p0,p1,p2⟩
    |(obtain⟨p0,p1,p2,-,-,-⟩:=X6.out.cells;exact⟨p0,p1,p2⟩)
    |(obtain⟨p0,p1,p2,-,-,-⟩:=X7.out.cells;exact⟨p0,p1,p2⟩)
    |(obtain⟨p0,p1,p2,-,-,-⟩:=X8.out.cells;exact⟨p0,p1,p2⟩)
    |(obtain⟨p0,p1,p2,-,-,-⟩:=X9.out.cells;exact⟨p0,p1,p2⟩)
    |(go_keep;done))
   (first
    |(go_at_call 65;refine(PX.out _ _ hnk.out).mono ?_;rintro r w5 ⟨v5,rfl,h5,hb5⟩;have X6:=hid (X5.out.drew.below hb5);have Z6:=hid (Z5.out.drew.below hb5);have B6:=hid (af B5.out.drew (Nat.le_refl _) hb5);have V6:=hid h5;have E6:=hid (V5.out.drew.below hb5))
    |(go_at_call 62;refine(NX.out _ _ (HT.out.below B6.out) V6.out).mono ?_;rintro r w6 ⟨v6,rfl,h6,hb6⟩;have X7:=hid (X6.out.below hb6);have Z7:=hid (Z6.out.below hb6);have B7:=hid (af B6.out (Nat.le_refl _) hb6);have E7:=hid (E6.out.below hb6);have D7:=hid h6)
    |(go_at_call 66;refine(RA.out _ _ _ ⟨_,rfl,E7.out⟩ D7.out).mono ?_;rintro r w7 ⟨v7,rfl,h7,hb7⟩;obtain⟨s7,rfl,hs7⟩:=h7;obtain⟨a7,n7,c7,rfl⟩:=hs7.shape;have X8:=hid (X7.out.below hb7);have Z8:=hid (Z7.out.below hb7);have B8:=hid (af B7.out (Nat.le_refl _) hb7);have V8:=hid hs7;obtain⟨z0,z1,z2,zf0,zf1,zf2⟩:=Z8.out.cells;obtain⟨y0,y1,y2,yf0,yf1,yf2⟩:=Z8.out.drew.cells;have X9:=hid (((X8.out.set (b':=w.heap.size) (o:=0) (by omega) (.bool (d' (gx !=gy) mx my (ex-ey)).neg)).set (b':=w.heap.size) (o:=1) (by omega) (.slice a7 n7 c7)).set (b':=w.heap.size) (o:=2) (by omega) (.int .i64 (d' (gx !=gy) mx my (ex-ey)).e)).drew))
  have Z9:=hid ((Z8.out.set3 (.bool (d' (gx !=gy) mx my (ex-ey)).neg) (.slice a7 n7 c7) (.int .i64 (d' (gx !=gy) mx my (ex-ey)).e)));have V9:=hid ((V8.out.setD Z8.out (g':=(d' (gx !=gy) mx my (ex-ey)).neg) (ao':=a7) (n':=n7) (c':=c7) (e':=(d' (gx !=gy) mx my (ex-ey)).e)));clear z0 z1 z2 zf0 zf1 zf2 y0 y1 y2 yf0 yf1 yf2 h5 hb5 h6 hb6 hs7 hb7 p0 p1 p2;obtain⟨s0,s1,s2,t0,t1,t2⟩:=Z9.out.cells;go_wp2;refine bodyPost_ret (v:= .agg #[.bool (d' (gx !=gy) mx my (ex-ey)).neg,.slice a7 n7 c7,.int .i64 (d' (gx !=gy) mx my (ex-ey)).e]) (by simp [results,Tryz.results31,go_sem,s0,s1,s2]) rfl ?_;exact⟨_,rfl,⟨_,rfl,V9.out⟩,cJ B8.out (Nat.le_refl _) _ _ _⟩
theorem Lb {s:List UInt8}(h:(fv s).isEmpty=false):ic s≠0/\10^((fv s).length-1)<=ic s:=by
 obtain⟨h1,h2,h3⟩:=Ao s;rcases h3 with h3|⟨c,l,h3,h4⟩
 .rw[h3]at h;simp at h
 .have hc:=h1 c (by rw[h3];exact mT ..)
  unfold ic;rw[h3]at h1 ⊢;unfold cF at hc;have e1:aM 0 (c::l)=aM (0*10+(c.toNat-48)) l:=rfl;rw[e1,AJ];have h2:c.toNat≠48:=fun h=>h4 (uo.1 (by rw[h];rfl))
  have h5:1*10^l.length<=(0*10+(c.toNat-48))*10^l.length:=bR _ (by omega);have h6:=fN (n:=l.length) (show 0<10 by omega);rw[ez,kX];exact⟨by omega,by omega⟩
theorem WQ (s:List UInt8) (h:s.length<=1000): -1100000<=gu s/\gu s<=1100000:=by
 obtain⟨lw,l1,l2,lr,lp,le,ls,cV⟩:=By (Eu s);have :=LW (qX s);unfold gu tB;split <;> omega
theorem Ri {s:List UInt8}(h:lN s=0):s.length<=1000:=by
 unfold lN mh at h;split at h
 .exact absurd h (by decide)
 .omega
theorem ah0 (neg:Bool) {L N:Nat}{K:Int}(hL:L<=1000) (hN0:N≠0) (hN:N<2^(4*L+1)) (kk:Nat) (hkk:40000<=kk):
  (gz neg L N K).m<2^kk/\ -100000<=(gz neg L N K).e/\(gz neg L N K).e<=100000/\(gz neg L N K).m≠0:=by
 have h1k:(1:Nat)<2^kk:=Oy (by omega);by_cases hb:400<(L:Int)+K
 .rw[Ke hb];exact⟨h1k,by show(-100000:Int)<=2000;omega,by show(2000:Int)<=100000;omega,by show(1:Nat)≠0;omega⟩
 by_cases hs:(L:Int)+K< -400
 .rw[JA hs];exact⟨h1k,by show(-100000:Int)<= -2000;omega,by show(-2000:Int)<=100000;omega,by show(1:Nat)≠0;omega⟩
 have hX0:N*10^K.toNat≠0:=Nat.mul_ne_zero hN0 (by have :=fN (n:=K.toNat) (show 0<10 by omega);omega);obtain⟨kb,hkb⟩:∃kb:Nat,kb=12000:=⟨_,rfl⟩
 have hXb:N*10^K.toNat<2^kb:=by
  have h1:=wm hN (gn (mv K.toNat)) (az _);rw[<-aB]at h1;exact aX h1 (aG (by omega) (by omega))
 obtain⟨x1,x2,x3,x4⟩:=wT neg hX0 hXb;by_cases hk:0<=K
 .rw[FD (by omega) hk]
  exact⟨aX x2 (aG (by omega) (by omega)),by omega,by omega,x1⟩
 .rw[J8 (by omega) (by omega) (by omega)]
  have hPp:10^(-K).toNat≠0:=by have :=fN (n:=(-K).toNat) (show 0<10 by omega);omega
  have hPb2:10^(-K).toNat<2^kb:=aX (mv _) (aG (by omega) (by omega));obtain⟨y1,y2,y3,y4⟩:=wT false hPp hPb2;generalize (norm neg (N*10^K.toNat) 0).m=c at *;generalize (norm false (10^(-K).toNat) 0).m=d at *;generalize (norm neg (N*10^K.toNat) 0).e=a at *;generalize (norm false (10^(-K).toNat) 0).e=b at *;generalize ((norm neg (N*10^K.toNat) 0).neg !=(norm false (10^(-K).toNat) 0).neg)=g at *;have hq:=Ew x1 y1
  have hqk:qk c d<=80+kb:=by
   have :bl d<=kb:=by rw[<-Kk];exact nF y2
   unfold qk;omega
  have hC:c*2^qk c d<2^(kb+qk c d):=by rw[aB];exact cS x2 (az _)
  have hmk:=Fm.Bn (c*2^qk c d%d);have e0:(d' g c d (a-b)).m=4*(c*2^qk c d/d)+Fm.mark (c*2^qk c d%d):=rfl;have e1:(d' g c d (a-b)).e=a-b-qk c d-2:=rfl;rw[e0,e1];have hle:=iG (c*2^qk c d) d;have hp:4*2^(kb+qk c d)=2^(kb+qk c d+2):=by rw[aB _ _ 2];omega
  have hp2:2^(kb+qk c d+2)<=2^kk:=aG (by omega) (by omega);have h60:(0:Nat)<2^60:=by decide
  exact⟨by omega,by omega,by omega,by omega⟩
theorem YR (s:List UInt8) (mode:Int) (hk:aD mode=true) (hi:¬(s=pa\/s=oY\/s=pT)) (he:lN s=0) (hd:(fv s).isEmpty=false):
  fX s mode=aE (gz (jk s) (fv s).length (ic s) (gu s)) mode/\j6 s mode=aU (gz (jk s) (fv s).length (ic s) (gu s)):=by
 obtain⟨n1,n2⟩:=Lb hd;obtain⟨d1,d2,d3⟩:=Ao s;have hlt:=pg (fv s) 0 d1;rw[jw,fP]at hlt;obtain⟨r1,r2,r3⟩:=R_ (jk s) (gu s) n2 hlt (kd (jk s) mode);unfold fX j6 aE aU;rw[aj hk,aj hk,ag (fun e=>hi (Or.inl e)),ag (fun e=>hi (Or.inr (Or.inl e))),ag (fun e=>hi (Or.inr (Or.inr e))),aj he,ag hi,aj he,r3];unfold ic at r1 r2 ⊢;exact⟨by rw[r1],r2.symm⟩
theorem Wh (mode:Int) (w:World) (KN:Hid (∀w':World,Calls prog 28 #[.int .i64 mode] w' fun e w2=>e=.returned (.bool true)/\w'=w2)):
  Calls prog 10 #[.string ⟨#[105,110,102]⟩,.int .i64 mode] w (ei w 9218868437227405312 false 0):=by
 unfold ei;go_enter func10,ntmps10;go_wp2_with ((go_at_call 28;refine(KN.out _).mono ?_;rintro e w1 ⟨rfl,rfl⟩))
 go_ret3;exact⟨rfl,Below.refl _ _⟩
theorem QR (mode:Int) (w:World) (KN:Hid (∀w':World,Calls prog 28 #[.int .i64 mode] w' fun e w2=>e=.returned (.bool true)/\w'=w2)):
  Calls prog 10 #[.string ⟨#[45,105,110,102]⟩,.int .i64 mode] w (ei w 18442240474082181120 false 0):=by
 unfold ei;go_enter func10,ntmps10;go_wp2_with ((go_at_call 28;refine(KN.out _).mono ?_;rintro e w1 ⟨rfl,rfl⟩))
 go_ret3;exact⟨rfl,Below.refl _ _⟩
theorem Zz (mode:Int) (w:World) (KN:Hid (∀w':World,Calls prog 28 #[.int .i64 mode] w' fun e w2=>e=.returned (.bool true)/\w'=w2)):
  Calls prog 10 #[.string ⟨#[110,97,110]⟩,.int .i64 mode] w (ei w 9221120237041090560 false 0):=by
 unfold ei;go_enter func10,ntmps10;go_wp2_with ((go_at_call 28;refine(KN.out _).mono ?_;rintro e w1 ⟨rfl,rfl⟩))
 go_ret3;exact⟨rfl,Below.refl _ _⟩
theorem Zr (s:List UInt8) (mode:Int) (w:World) (KN:Hid (∀w':World,Calls prog 28 #[.int .i64 mode] w' fun e w2=>e=.returned (.bool true)/\w'=w2)) (i1:(s==[105,110,102])=false) (i2:(s==[45,105,110,102])=false) (i3:(s==[110,97,110])=false) (er:Int) (n1:(er !=0)=true)
  (PR:Hid (∀w':World,Calls prog 29 #[.string ⟨s.toArray⟩] w' (pK w' false [] 0 er))):
  Calls prog 10 #[.string ⟨s.toArray⟩,.int .i64 mode] w (ei w 0 false er):=by
 have B:Hid (Below w.heap.size w w):=hid (Below.refl _ _);unfold pK at PR;unfold ei;go_enter func10,ntmps10
 go_wp2_with (first
  |(go_at_call 28;refine(KN.out _).mono ?_;rintro e w1 ⟨rfl,rfl⟩)
  |(go_at_call 29;refine(PR.out _).mono ?_;rintro e w1 ⟨rfl,hb⟩;replace B:=hid (af B.out (Nat.le_refl _) hb);clear hb))
 go_ret3;exact⟨rfl,B.out⟩
theorem VP (s:List UInt8) (mode:Int) (w:World) (KN:Hid (∀w':World,Calls prog 28 #[.int .i64 mode] w' fun e w2=>e=.returned (.bool true)/\w'=w2)) (i1:(s==[105,110,102])=false) (i2:(s==[45,105,110,102])=false) (i3:(s==[110,97,110])=false) (ng:Bool) (K:Int)
  (PR:Hid (∀w':World,Calls prog 29 #[.string ⟨s.toArray⟩] w' (pK w' ng [] K 0))):
  Calls prog 10 #[.string ⟨s.toArray⟩,.int .i64 mode] w (ei w (if ng=true then 9223372036854775808 else 0) false 0):=by
 have B:Hid (Below w.heap.size w w):=hid (Below.refl _ _);unfold pK at PR;unfold ei;cases ng
 all_goals
  go_enter func10,ntmps10
  go_wp2_with (first
   |(go_at_call 28;refine(KN.out _).mono ?_;rintro e w1 ⟨rfl,rfl⟩)
   |(go_at_call 29;refine(PR.out _).mono ?_;rintro e w1 ⟨rfl,hb⟩;replace B:=hid (af B.out (Nat.le_refl _) hb);clear hb))
  go_ret3;exact⟨rfl,B.out⟩
theorem Qg (s:List UInt8) (mode:Int) (w:World) (KN:Hid (∀w':World,Calls prog 28 #[.int .i64 mode] w' fun e w2=>e=.returned (.bool true)/\w'=w2)) (i1:(s==[105,110,102])=false) (i2:(s==[45,105,110,102])=false) (i3:(s==[110,97,110])=false) (ng:Bool) (K:Int) (DS:ByteArray) (zD:DS.toList.isEmpty=false) (X:D)
  (PR:Hid (∀w':World,Calls prog 29 #[.string ⟨s.toArray⟩] w' fun e w2=>e=.returned (.tuple #[.bool ng,.string DS,.int .i64 K,.int .i64 0])/\Below w'.heap.size w' w2))
  (VL:Hid (∀w':World,aQ w'->Calls prog 31 #[.bool ng,.string DS,.int .i64 K] w' (iR w' X)))
  (NB:Hid (∀v (w':World),DV w' v X->Calls prog 30 #[v,.int .i64 mode] w' fun e w2=>e=.returned (.tuple #[.int .u64 (aE X mode),.bool (aU X)])/\Below w'.heap.size w' w2)) (HT:Hid (aQ w)):
  Calls prog 10 #[.string ⟨s.toArray⟩,.int .i64 mode] w (ei w (aE X mode) (aU X) 0):=by
 have B:Hid (Below w.heap.size w w):=hid (Below.refl _ _);unfold ei;generalize aE X mode=R at *;generalize aU X=C at *;go_enter func10,ntmps10
 go_wp2_with (first
  |(go_at_call 28;refine(KN.out _).mono ?_;rintro e w1 ⟨rfl,rfl⟩)
  |(go_at_call 29;refine(PR.out _).mono ?_;rintro e w1 ⟨rfl,hb⟩;replace B:=hid (af B.out (Nat.le_refl _) hb);clear hb)
  |(go_at_call 31;refine(VL.out _ (HT.out.below B.out)).mono ?_;rintro e w2 ⟨v2,rfl,hv,hb⟩;have HV:=hid hv;replace B:=hid (af B.out (Nat.le_refl _) hb);clear hb hv)
  |(go_at_call 30;refine(NB.out _ _ HV.out).mono ?_;rintro e w3 ⟨rfl,hb⟩;replace B:=hid (af B.out (Nat.le_refl _) hb);clear hb))
 go_ret3;exact⟨rfl,B.out⟩
theorem Wj (S:ByteArray) (mode:Int) (w:World) (KN:Hid (∀w':World,Calls prog 28 #[.int .i64 mode] w' fun e w2=>e=.returned (.bool false)/\w'=w2)):
  Calls prog 10 #[.string S,.int .i64 mode] w (ei w 0 false 1):=by
 unfold ei;go_enter func10,ntmps10;go_wp2_with ((go_at_call 28;refine(KN.out _).mono ?_;rintro e w1 ⟨rfl,rfl⟩))
 go_ret3;exact⟨rfl,Below.refl _ _⟩
theorem B_ (s:List UInt8) (S:ByteArray) (hS:S=⟨s.toArray⟩) (mode:Int) (w:World) (hT:aQ w):
  Calls prog 10 #[.string S,.int .i64 mode] w (ei w (fX s mode) (j6 s mode) (kj s mode)):=by
 have KN:=hid (fun w'=>dF mode w');by_cases hk:aD mode=true
 .rw[hk]at KN
  by_cases hi:s=pa\/s=oY\/s=pT
  .have eE:kj s mode=0:=by unfold kj;rw[aj hk,aj hi]
   have eC:j6 s mode=false:=by unfold j6;rw[aj hk,aj hi]
   rw[eE,eC,hS];rcases hi with rfl|rfl|rfl
   .have eV:fX pa mode=9218868437227405312:=by unfold fX;rw[aj hk,aj rfl]
    rw[eV];exact Wh mode w KN
   .have eV:fX oY mode=18442240474082181120:=by unfold fX;rw[aj hk,ag (by decide),aj rfl]
    rw[eV];exact QR mode w KN
   .have eV:fX pT mode=9221120237041090560:=by unfold fX;rw[aj hk,ag (by decide),ag (by decide),aj rfl]
    rw[eV];exact Zz mode w KN
  .have i1:(s==[105,110,102])=false:=by rw[aH];exact fun h=>hi (Or.inl h)
   have i2:(s==[45,105,110,102])=false:=by rw[aH];exact fun h=>hi (Or.inr (Or.inl h))
   have i3:(s==[110,97,110])=false:=by rw[aH];exact fun h=>hi (Or.inr (Or.inr h))
   have PR:=hid (fun w'=>aa7 (Eu s) ⟨s.toArray⟩ rfl w');have hE0:mh s (rD s) (oQ s) (qX s)=lN s:=rfl;rw[hE0]at PR;have eE:kj s mode=lN s:=by unfold kj;rw[aj hk,ag hi]
   rw[eE,hS];by_cases he:lN s=0
   .have m0:0<=mode/\mode<=4:=by unfold aD at hk;rw[da]at hk;exact hk
    have hsl:=Ri he;have hK:=WQ s hsl;have hdig:=Ao s;rw[he,aj rfl,aj rfl,aj rfl]at PR;have hX0:tB (oQ s) (qX s) (fv s)=gu s:=rfl;rw[hX0]at PR;rw[he];cases hd:(fv s).isEmpty
    .obtain⟨r1,r2⟩:=YR s mode hk hi he hd
     rw[r1,r2];obtain⟨n1,n2⟩:=Lb hd;obtain⟨DS,hDS⟩:∃T:ByteArray,T=⟨(fv s).toArray⟩:=⟨_,rfl⟩;unfold pK at PR;rw[<-hDS]at PR;have zD:=po _ _ hDS;have hNb:ic s<2^(4*(fv s).length+1):=Ek _ hdig.1;obtain⟨kk,hkk,hkk2⟩:∃kk:Nat,40000<=kk/\kk<=40000:=⟨40000,by omega,by omega⟩;obtain⟨v1,v2,v3,v4⟩:=ah0 (jk s) (L:=(fv s).length) (K:=gu s) (by omega) n1 hNb kk hkk;have VL:=hid (fun w' ht=>RJ (jk s) (fv s) DS hDS hdig.1 (by omega) n1 (gu s) (by omega) (by omega) w' ht);have hdN:aM 0 (fv s)=ic s:=rfl;rw[hdN]at VL;have NB:=hid (fun v w' h=>kS v (gz (jk s) (fv s).length (ic s) (gu s)) kk mode w' h v1 (by omega) (by omega) (by omega) (fun h=>absurd h v4) m0.1 m0.2);rw[hd]at zD;exact Qg s mode w KN i1 i2 i3 (jk s) (gu s) DS zD _ PR VL NB (hid hT)
    .have hd0:ic s=0:=by unfold ic;rw[Fo.1 hd];rfl
     have hA:dM (ic s) (gu s)=0:=by unfold dM;rw[hd0,iq]
     have eC:j6 s mode=false:=by unfold j6 jg;rw[aj hk,ag hi,aj he,hA,aj rfl]
     have eV:fX s mode=if jk s=true then 9223372036854775808 else 0:=by
      unfold fX rat;rw[aj hk,ag (fun e=>hi (Or.inl e)),ag (fun e=>hi (Or.inr (Or.inl e))),ag (fun e=>hi (Or.inr (Or.inr e))),aj he,hA,aj rfl];simp
     rw[eC,eV];rw[Fo.1 hd]at PR;exact VP s mode w KN i1 i2 i3 (jk s) _ PR
   .have eC:j6 s mode=false:=by unfold j6;rw[aj hk,ag hi,ag he]
    have eV:fX s mode=0:=by
     unfold fX;rw[aj hk,ag (fun e=>hi (Or.inl e)),ag (fun e=>hi (Or.inr (Or.inl e))),ag (fun e=>hi (Or.inr (Or.inr e))),ag he]
    rw[eC,eV];rw[ag he,ag he,ag he]at PR;exact Zr s mode w KN i1 i2 i3 (lN s) (by rw[lZ];exact he) PR
 .have hk0:aD mode=false:=by cases h:aD mode;rfl;exact absurd h hk
  have eE:kj s mode=1:=by unfold kj;rw[ag hk]
  have eC:j6 s mode=false:=by unfold j6;rw[ag hk]
  have eV:fX s mode=0:=by unfold fX;rw[ag hk]
  rw[eE,eC,eV];rw[hk0]at KN;exact Wj S mode w KN
