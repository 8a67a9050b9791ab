import Derived.Test.YtofdjfdnckmmmaaGreatDoorBits
import Derived.Test.YtofdjfdnckmmmaaGreatDoorBd
import Derived.Deep.LoopGhost
set_option linter.all false
set_option maxHeartbeats 16000000
set_option maxRecDepth 100000
open Go.Proofs.Tryz
open Go.Lib (hid)
namespace Go.Proofs.YtofdjfdnckmmmaaGreatDoor
open Go.RowKit Nt
def aC (n:Nat):Nat:=if n=0 then 0 else n.log2+1
theorem Zb {m k:Nat}(h1:2^k<=m) (h2:m<2^(k+1)):aC m=k+1:=by
 have h0:m≠0:=by have :=az k;omega
 unfold aC;rw[ag h0,(Nat.log2_eq_iff h0).2 ⟨h1,h2⟩]
theorem AW {x:Nat}(hx:x≠0) (h1:x<4294967296):∃j,j<32/\Lib.bitLen x=j+1/\2^j<=x/\x<2^(j+1):=by
 have a:=Oa hx;have b:= @EP x;have hj:x.log2<32:=(Oj hx).2 (by omega);refine⟨x.log2,hj,?_,a,b⟩;rw[Lib.bitLen_shift x.log2 x a (by omega)]
 have e:x/2^x.log2=1:=by
  have :=az x.log2;rw[bH]at b;apply Nat.div_eq_of_lt_le <;> omega
 rw[e];rfl
theorem Ck {l:List Nat}{n d:Nat}(hl:dA l) (hn:l.length=n+1) (hd:d=l.getD n 0):d≠0/\d<4294967296/\aC (val l)=32*n+Lib.bitLen d:=by
 have h1:d<4294967296:=by rw[hd];exact hl.1.getD n
 have e1:l[n]'(by omega)=d:=by rw[hd];simp [List.getD,show n<l.length by omega]
 have h0:d≠0:=by
  intro h;apply hl.2;rw[EJ,show l.length-1=n by omega,fO (by omega),e1,h]
 refine⟨h0,h1,?_⟩;obtain⟨j,hj,e,a,b⟩:=AW h0 h1;have hv:=iX l n (by omega);rw[dI (by omega),e1]at hv;have ht:=fV (hl.1.take n);rw[dj,i_ (by omega)]at ht;rw[e,<-qG];apply Zb
 .rw[hv,aB]
  have :=cZ (2^(32*n)) a;omega
 .rw[hv,qG,aB]
  have :=cZ (2^(32*n)) (Nat.succ_le_of_lt b);rw[ah7,cP]at this;omega
theorem lx (va:Value) (a k0:Nat) (w:World) (ha:NV w va a) (hka:a<2^k0) (hk0:k0<=120000000000000):
  Calls prog 59 #[va] w fun e w'=>e=.returned (.int .i64 (aC a))/\w=w':=by
 obtain⟨l,hl,el,⟨-,aa,ca,rfl,hca,hma,hA⟩,hll⟩:=ha.len hka;unfold maxLen at hma;have EL:=hid el;clear ha hka el;by_cases hl0:l.length<=0
 .have h0:aC a=0:=by rw[<-EL.out,gp.1 (by omega:l.length=0)];rfl
  rw[h0];clear h0 hA;go_enter func59,ntmps59;go_wp2;go_ret;exact⟨rfl,rfl⟩
 .rcases hA with hP|⟨bp,op,rfl,hbp,hcP⟩
  .exact absurd hP hl0
  obtain⟨d,hd⟩:∃d,d=l.getD (l.length-1) 0:=⟨_,rfl⟩;obtain⟨h1,h2,h3⟩:=Ck hl (show l.length=(l.length-1)+1 by omega) hd;rw[EL.out]at h3;have hck:=hcP (l.length-1) (by omega);rw[<-hd]at hck;have hb:=Lib.bitLen_le d 32 (by omega) (by omega);have hl1:0<l.length:=by omega
  have e3:(aC a:Int)=32*(l.length:Int)-(32-(Lib.bitLen d:Int)):=by omega
  rw[e3];clear hcP hd h3 e3 hl0;go_enter func59,ntmps59;go_wp2_with (go_at_call 97;refine(K7 _ (by omega) (by omega) _).mono ?_;rintro e w' ⟨rfl,rfl⟩)
  go_ret;exact⟨by simp,rfl⟩
open Go.RowKit Nt Fm
def aD (mode:Int):Bool:=decide (0<=mode/\mode<=4)
theorem dF (mode:Int) (w:World):
  Calls prog 28 #[.int .i64 mode] w fun e w'=>e=.returned (.bool (aD mode))/\w=w':=by
 by_cases h1:0<=mode
 .by_cases h2:mode<=4
  .have e:aD mode=true:=by unfold aD;simp;omega
   rw[e];clear e;go_enter func28,ntmps28;go_wp2;go_ret;exact⟨rfl,rfl⟩
  .have e:aD mode=false:=by unfold aD;simp;omega
   rw[e];clear e;go_enter func28,ntmps28;go_wp2;go_ret;exact⟨rfl,rfl⟩
 .have e:aD mode=false:=by unfold aD;simp;omega
  rw[e];clear e;go_enter func28,ntmps28;go_wp2;go_ret;exact⟨rfl,rfl⟩
def dY (neg odd:Bool) (half mode:Int):Bool:=
 if mode=1 then !neg else if mode=2 then neg else if mode=3 then false else if mode=4 then decide (0<=half) else decide (0<half) || (decide (half=0) && odd)
theorem ox (neg odd:Bool) (half mode:Int) (w:World) (h0:0<=mode) (h1:mode<=4):
  Calls prog 102 #[.bool neg,.bool odd,.int .i64 half,.int .i64 mode] w fun e w'=>e=.returned (.bool (dY neg odd half mode))/\w=w':=by
 have hm:mode=0\/mode=1\/mode=2\/mode=3\/mode=4:=by omega
 rcases hm with rfl|rfl|rfl|rfl|rfl
 .by_cases h2:0<half
  .have e:dY neg odd half 0=true:=by simp [dY,h2]
   rw[e];clear e;go_enter func102,ntmps102;go_wp2;go_ret;exact⟨rfl,rfl⟩
  .by_cases h3:half=0
   .subst h3
    have e:dY neg odd 0 0=odd:=by simp [dY]
    rw[e];clear e;cases odd
    all_goals
     go_enter func102,ntmps102;go_wp2;go_ret;exact⟨rfl,rfl⟩
   .have e:dY neg odd half 0=false:=by simp [dY,h2,h3]
    rw[e];clear e;have h4:(half==0)=false:=by simp [h3]
    go_enter func102,ntmps102;go_wp2;go_ret;exact⟨rfl,rfl⟩
 .have e:dY neg odd half 1= !neg:=by simp [dY]
  rw[e];clear e;go_enter func102,ntmps102;go_wp2;go_ret;exact⟨rfl,rfl⟩
 .have e:dY neg odd half 2=neg:=by simp [dY]
  rw[e];clear e;go_enter func102,ntmps102;go_wp2;go_ret;exact⟨rfl,rfl⟩
 .have e:dY neg odd half 3=false:=by simp [dY]
  rw[e];clear e;go_enter func102,ntmps102;go_wp2;go_ret;exact⟨rfl,rfl⟩
 .by_cases h2:0<=half
  .have e:dY neg odd half 4=true:=by simp [dY,h2]
   rw[e];clear e;go_enter func102,ntmps102;go_wp2;go_ret;exact⟨rfl,rfl⟩
  .have e:dY neg odd half 4=false:=by simp [dY,h2]
   rw[e];clear e;go_enter func102,ntmps102;go_wp2;go_ret;exact⟨rfl,rfl⟩
def fL (neg:Bool) (m:Nat) (k mode:Int):Nat:=
 if k<=0 then m*2^(-k).toNat
 else if m%2^k.toNat=0 then m/2^k.toNat
 else m/2^k.toNat+if dY neg (decide (m/2^k.toNat%2=1)) (aK ((m%2^k.toNat:Nat):Int) ((2^(k.toNat-1):Nat):Int)) mode then 1 else 0
def j7 (m:Nat) (k:Int):Bool:=decide (0<k) && f' m k.toNat
theorem x8 {w:World}{v:Value}{q:Nat}(h:NV w v q):∃(ao:Option Addr) (n c:Nat),v=.slice ao n c/\n<=c/\c<=maxLen/\
  ((n<=0/\q=0)\/(0<n/\∃b off d,ao=some ⟨b,off,none⟩/\b<w.heap.size/\d<4294967296/\w.cell? ⟨b,off,none⟩=some (.int .u32 ((d:Nat):Int))/\d%2=q%2)):=by
 obtain⟨l,h1,h2,h3,ao,cap,h4,h5,h6,h7⟩:=h;refine⟨ao,l.length,cap,h4,h5,h6,?_⟩;by_cases hl:l.length<=0
 .left;refine⟨hl,?_⟩
  rw[<-h2,gp.1 (by omega:l.length=0)];rfl
 .right
  refine⟨by omega,?_⟩;rcases h7 with h7|⟨b,off,e1,e2,e3⟩
  .exact absurd h7 hl
  .refine⟨b,off,l.getD 0 0,e1,e2,h1.1.getD 0,by have :=e3 0 (by omega);simpa using this,?_⟩
   rw[<-h2];cases l with
   |nil=>simp at hl
   |cons d l=>simp [val];omega
theorem FP (neg:Bool) (va:Value) (m k0:Nat) (k mode:Int) (w:World) (ha:NV w va m) (hm:m<2^k0) (hk0:k0<=40000000000000) (h0: -40000000000000<=k) (h1:k<=40000000000000) (hm0:0<=mode) (hm1:mode<=4):
  Calls prog 60 #[.bool neg,va,.int .i64 k,.int .i64 mode] w (uY w (fL neg m k mode) (j7 m k)):=by
 obtain⟨ao,n,c,rfl⟩:=ha.shape;have HA:=hid ha;have HM:=hid hm;clear ha hm;by_cases hk:k<=0
 .have e1:fL neg m k mode=m*2^(-k).toNat:=by unfold fL;rw[aj hk]
  have e2:j7 m k=false:=by unfold j7;simp;omega
  rw[e1,e2];clear e1 e2;go_enter func60,ntmps60;go_wp2_with fail
  refine(f_ _ m (-k).toNat k0 _ _ HA.out (by omega) HM.out (by omega) (by omega)).mono ?_;rintro e w1 ⟨v,rfl,hv,hb⟩;go_wp2;go_ret2;exact⟨v,rfl,hv,hb⟩
 .obtain⟨p,rfl⟩:∃p:Nat,k=p:=⟨k.toNat,by omega⟩
  have hp:0<p:=by omega
  have ec:j7 m (p:Int)=f' m p:=by unfold j7;simp [hp]
  have em:fL neg m (p:Int) mode=if m%2^p=0 then m/2^p else m/2^p+if dY neg (decide (m/2^p%2=1)) (aK ((m%2^p:Nat):Int) ((2^(p-1):Nat):Int)) mode then 1 else 0:=by
   unfold fL;rw[ag hk];simp only[gf]
  rw[ec];by_cases hl:m%2^p=0
  .have el:f' m p=false:=by unfold f';simp [hl]
   rw[aj hl]at em;rw[em,el];have EL:=hid el;clear ec em hl el;go_enter func60,ntmps60;go_wp2_with fail
   refine(rp _ m p k0 _ _ HA.out rfl HM.out (by omega) (by omega)).mono ?_;rintro e w1 ⟨v,rfl,hv,hb⟩;rw[EL.out];go_wp2;go_ret2;exact⟨v,rfl,hv,hb⟩
  .have el:f' m p=true:=by unfold f';simp [hl]
   rw[ag hl]at em;rw[el];have EL:=hid el;clear ec hl el;have hdm:=kt m (2^p);have hlt:=ew m (az p);have hq2:m/2^p*2^p<=m:=qH _ _;have hrest:m-m/2^p*2^p=m%2^p:=by rw[aW];omega
   have hq1:m/2^p<=m:=iG _ _;generalize hqd:m/2^p=q at *;generalize hrd:m%2^p=r at *;have EM:=hid em;clear em;have HQ2:=hid hq2;have HRE:=hid hrest;have HQ1:=hid hq1;have HLT:=hid hlt;have HQD:=hid hqd;have HRD:=hid hrd;clear hdm hq2 hrest hq1 hlt hqd hrd;have hqb:q<2^k0:=de HQ1.out HM.out;have HQB:=hid hqb;clear hqb;go_enter func60,ntmps60;go_wp2_with fail
   refine(rp _ m p k0 _ _ HA.out rfl HM.out (by omega) (by omega)).mono ?_;rintro e w1 ⟨vq,rfl,hvq,hb1⟩;rw[EL.out];rw[HQD.out]at hvq;obtain⟨aq,nq,cq,rfl,hnq1,hnq2,hodd⟩:=x8 hvq;unfold maxLen at hnq2;have HVQ:=hid hvq;have HODD:=hid hodd;have HB1:=hid hb1;clear hvq hodd hb1;go_wp2_with fail
   refine(f_ _ q p k0 _ _ HVQ.out rfl HQB.out (by omega) (by omega)).mono ?_;rintro e w2 ⟨v2,rfl,hv2,hb2⟩;obtain⟨a2,n2,c2,rfl⟩:=hv2.shape;have HV2:=hid hv2;have HB2:=hid hb2;clear hv2 hb2;go_wp2_with fail
   refine(re _ _ m (q*2^p) k0 _ ((HA.out.below HB1.out).below HB2.out) HV2.out HQ2.out HM.out (by omega)).mono ?_;rintro e w3 ⟨v3,rfl,hv3,hb3⟩;rw[HRE.out]at hv3;obtain⟨a3,n3,c3,rfl⟩:=hv3.shape;have HV3:=hid hv3;have HB3:=hid hb3;clear hv3 hb3;go_wp2_with fail
   refine(dU 1 (by omega) (by omega) _).mono ?_;rintro e w4 ⟨v4,rfl,hv4,hb4⟩;obtain⟨a4,n4,c4,rfl⟩:=hv4.shape;have HV4:=hid hv4;have HB4:=hid hb4;clear hv4 hb4;go_wp2_with fail
   refine(f_ _ 1 (p-1) 1 _ _ HV4.out (by omega) (by omega) (by omega) (by omega)).mono ?_;rintro e w5 ⟨v5,rfl,hv5,hb5⟩;rw[fP]at hv5;obtain⟨a5,n5,c5,rfl⟩:=hv5.shape;have HV5:=hid hv5;have HB5:=hid hb5;clear hv5 hb5;go_wp2_with fail
   refine(jF _ _ r (2^(p-1)) _ ((HV3.out.below HB4.out).below HB5.out) HV5.out).mono ?_;rintro e w6 ⟨rfl,nw,rfl⟩;generalize hhalf:aK (r:Int) ((2^(p-1):Nat):Int)=half at *
   have hb15:Below w1.heap.size w1 (w5.drewN nw):=by
    have e2:=HB2.out;have e3:=e2.trans (HB3.out.mono e2.size);have e4:=e3.trans (HB4.out.mono e3.size);have e5:=e4.trans (HB5.out.mono e4.size);exact⟨e5.os,e5.tape,e5.output,e5.size,e5.block⟩
   have hbw:Below w.heap.size w (w5.drewN nw):=HB1.out.trans (hb15.mono HB1.out.size);have hvq5:NV (w5.drewN nw) (.slice aq nq cq) q:=HVQ.out.below hb15;have hodd5:=HODD.out;rcases hodd5 with⟨o1,o2⟩|⟨o1,b,off,d,rfl,o3,o4,o5,o6⟩
   .have eo:decide (q%2=1)=false:=by rw[o2];rfl
    have EO:=hid eo;clear o2 eo;have HVQ5:=hid hvq5;have HBW:=hid hbw;clear hvq5 hbw hb15 hhalf;cases hu:dY neg false half mode
    .have HU:=hid hu
     go_wp2_with (go_at_call 102;refine(ox _ _ _ _ _ (by omega) (by omega)).mono ?_;rintro e w' ⟨rfl,rfl⟩)
     go_ret2;exact⟨_,rfl,by rw[EM.out,EO.out,HU.out];exact HVQ5.out,HBW.out⟩
    .have HU:=hid hu
     go_wp2_with (go_at_call 102;refine(ox _ _ _ _ _ (by omega) (by omega)).mono ?_;rintro e w' ⟨rfl,rfl⟩)
     refine(dU 1 (by omega) (by omega) _).mono ?_;rintro e w7 ⟨v7,rfl,hv7,hb7⟩;obtain⟨a7,n7,c7,rfl⟩:=hv7.shape;have HV7:=hid hv7;have HB7:=hid hb7;clear hv7 hb7;go_wp2_with fail
     refine(gN _ _ q 1 (k0+1) _ (HVQ5.out.below HB7.out) HV7.out (aX HQB.out (aG (by decide) (by omega))) (by have :=az k0;rw[bH];omega) (by omega)).mono ?_;rintro e w8 ⟨v8,rfl,hv8,hb8⟩;go_wp2;go_ret2;exact⟨_,rfl,by rw[EM.out,EO.out,HU.out];exact hv8,HBW.out.trans ((HB7.out.mono HBW.out.size).trans (hb8.mono (ct HBW.out.size HB7.out.size)))⟩
   .have hcell:(w5.drewN nw).cell? ⟨b,off,none⟩=some (.int .u32 ((d:Nat):Int)):=(hb15.cell (p:=⟨b,off,none⟩) o3).trans o5
    rw[World.cell?_drewN]at hcell;have HVQ5:=hid hvq5;have HBW:=hid hbw;clear hvq5 hbw hb15 hhalf;by_cases hd:d%2=1
    .have eo:decide (q%2=1)=true:=by rw[<-o6];simp [hd]
     have EO:=hid eo;have hd2:((d:Int)%2==1)=true:=by rw[dV];omega
     clear o6 eo hd o5;cases hu:dY neg true half mode
     .have HU:=hid hu
      go_wp2_with (go_at_call 102;refine(ox _ _ _ _ _ (by omega) (by omega)).mono ?_;rintro e w' ⟨rfl,rfl⟩)
      go_ret2;exact⟨_,rfl,by rw[EM.out,EO.out,HU.out];exact HVQ5.out,HBW.out⟩
     .have HU:=hid hu
      go_wp2_with (go_at_call 102;refine(ox _ _ _ _ _ (by omega) (by omega)).mono ?_;rintro e w' ⟨rfl,rfl⟩)
      refine(dU 1 (by omega) (by omega) _).mono ?_;rintro e w7 ⟨v7,rfl,hv7,hb7⟩;obtain⟨a7,n7,c7,rfl⟩:=hv7.shape;have HV7:=hid hv7;have HB7:=hid hb7;clear hv7 hb7;go_wp2_with fail
      refine(gN _ _ q 1 (k0+1) _ (HVQ5.out.below HB7.out) HV7.out (aX HQB.out (aG (by decide) (by omega))) (by have :=az k0;rw[bH];omega) (by omega)).mono ?_;rintro e w8 ⟨v8,rfl,hv8,hb8⟩;go_wp2;go_ret2;exact⟨_,rfl,by rw[EM.out,EO.out,HU.out];exact hv8,HBW.out.trans ((HB7.out.mono HBW.out.size).trans (hb8.mono (ct HBW.out.size HB7.out.size)))⟩
    .have eo:decide (q%2=1)=false:=by rw[<-o6];simp [hd]
     have EO:=hid eo;have hd2:((d:Int)%2==1)=false:=by rw[aH];omega
     clear o6 eo hd o5;cases hu:dY neg false half mode
     .have HU:=hid hu
      go_wp2_with (go_at_call 102;refine(ox _ _ _ _ _ (by omega) (by omega)).mono ?_;rintro e w' ⟨rfl,rfl⟩)
      go_ret2;exact⟨_,rfl,by rw[EM.out,EO.out,HU.out];exact HVQ5.out,HBW.out⟩
     .have HU:=hid hu
      go_wp2_with (go_at_call 102;refine(ox _ _ _ _ _ (by omega) (by omega)).mono ?_;rintro e w' ⟨rfl,rfl⟩)
      refine(dU 1 (by omega) (by omega) _).mono ?_;rintro e w7 ⟨v7,rfl,hv7,hb7⟩;obtain⟨a7,n7,c7,rfl⟩:=hv7.shape;have HV7:=hid hv7;have HB7:=hid hb7;clear hv7 hb7;go_wp2_with fail
      refine(gN _ _ q 1 (k0+1) _ (HVQ5.out.below HB7.out) HV7.out (aX HQB.out (aG (by decide) (by omega))) (by have :=az k0;rw[bH];omega) (by omega)).mono ?_;rintro e w8 ⟨v8,rfl,hv8,hb8⟩;go_wp2;go_ret2;exact⟨_,rfl,by rw[EM.out,EO.out,HU.out];exact hv8,HBW.out.trans ((HB7.out.mono HBW.out.size).trans (hb8.mono (ct HBW.out.size HB7.out.size)))⟩
def fU (neg:Bool) (mode:Int):Bool:=decide (mode=0) || (decide (mode=4) || ((decide (mode=1) && !neg) || (decide (mode=2) && neg)))
def eF (n:Nat):Nat:=if n=9007199254740992 then 4503599627370496 else n
def bJ (n:Nat) (k:Int):Int:=if n=9007199254740992 then k+1 else k
def aS (neg:Bool) (n:Nat) (k mode:Int):Int:=
 (if 971<bJ n k then(if fU neg mode then 9218868437227405312 else 9218868437227405311)
  else if eF n<4503599627370496 then(eF n:Int) else(bJ n k+1075)*4503599627370496+(eF n:Int)%4503599627370496)+if neg then 9223372036854775808 else 0
def aT (n:Nat) (k:Int) (c:Bool):Bool:=decide (971<bJ n k) || c
def aE (d:D) (mode:Int):Int:=(dw (kd d.neg mode) d.m d.e:Int)+if d.neg then 9223372036854775808 else 0
def aU (d:D):Bool:=fF d.m d.e
theorem Kk (m:Nat):aC m=bl m:=rfl
theorem PN (neg:Bool) (m:Nat) (e mode:Int) (h0:0<=mode) (h1:mode<=4) (hs:0<ss m e):
  dY neg (decide (m/2^(ss m e).toNat%2=1)) (aK ((m%2^(ss m e).toNat:Nat):Int) ((2^((ss m e).toNat-1):Nat):Int)) mode=pR (kd neg mode) m e:=by
 have eq1:m/2^(ss m e).toNat=qq m e:=by unfold qq;rw[ag (by omega)]
 have eq2:m%2^(ss m e).toNat=rr m e:=by unfold rr;rw[ag (by omega)]
 have ep:2^(ss m e).toNat=2*2^((ss m e).toNat-1):=by rw[<-zX];congr 1;omega
 rw[eq1,eq2]
 have eh:aK ((rr m e:Nat):Int) ((2^((ss m e).toNat-1):Nat):Int)=hh m e:=by
  unfold aK hh;rw[ep];generalize 2^((ss m e).toNat-1)=P;split <;> split <;> (try split) <;> omega
 rw[eh];have hm:mode=0\/mode=1\/mode=2\/mode=3\/mode=4:=by omega
 rcases hm with rfl|rfl|rfl|rfl|rfl <;> cases neg <;> simp [dY,pR,kd]
theorem Qi (neg:Bool) (m:Nat) (e mode:Int) (h0:0<=mode) (h1:mode<=4):
  fL neg m (ss m e) mode+jj m e*4503599627370496=r1 (kd neg mode) m e/\qq m e<=fL neg m (ss m e) mode/\fL neg m (ss m e) mode<=qq m e+1:=by
 unfold fL r1 r0;by_cases hs:ss m e<=0
 .rw[aj hs]
  have e1:m*2^(-ss m e).toNat=qq m e:=by unfold qq;rw[aj hs]
  have e2:rr m e=0:=by unfold rr;rw[aj hs]
  rw[e1,e2];simp
 .rw[ag hs]
  have eq1:m/2^(ss m e).toNat=qq m e:=by unfold qq;rw[ag (by omega)]
  have eq2:m%2^(ss m e).toNat=rr m e:=by unfold rr;rw[ag (by omega)]
  have hu:=PN neg m e mode h0 h1 (by omega);rw[eq1,eq2]at hu;rw[eq1,eq2];by_cases hr:rr m e=0
  .rw[aj hr];simp [hr]
  .rw[ag hr,hu]
   cases pR (kd neg mode) m e
   .simp [hr]
   .simp [hr];omega
theorem aa3 (m:Nat) (e:Int):j7 m (ss m e)=decide (rr m e≠0):=by
 unfold j7 f' rr;by_cases hs:ss m e<=0
 .simp [hs];omega
 .simp [hs];omega
theorem XL (neg:Bool) (mode:Int) (h0:0<=mode) (h1:mode<=4):(kd neg mode=0)↔(fU neg mode=false):=by
 have hm:mode=0\/mode=1\/mode=2\/mode=3\/mode=4:=by omega
 rcases hm with rfl|rfl|rfl|rfl|rfl <;> cases neg <;> simp [fU,kd]
theorem Q7 {d:D}{mode:Int}(h0:0<=mode) (h1:mode<=4) (hz:d.m=0->d.e<=1000):
  aS d.neg (fL d.neg d.m (ss d.m d.e) mode) (kk d.m d.e) mode=aE d mode/\aT (fL d.neg d.m (ss d.m d.e) mode) (kk d.m d.e) (j7 d.m (ss d.m d.e))=aU d/\fL d.neg d.m (ss d.m d.e) mode<=9007199254740992:=by
 obtain⟨a,b,c⟩:=Qi d.neg d.m d.e mode h0 h1;have hq:=Bk d.m d.e;have hj:=uN d.m d.e;have hk:=F' d.m d.e;by_cases hm:d.m=0
 .have hk2:kk d.m d.e<=971:=by unfold kk;rw[hm];have :=hz hm;simp [bl];omega
  have e1:fL d.neg d.m (ss d.m d.e) mode=0:=by
   unfold fL;rw[hm];split
   .simp
   .simp
  have e2:j7 d.m (ss d.m d.e)=false:=by unfold j7 f';rw[hm];simp
  rw[e1,e2];refine⟨?_,?_,by omega⟩
  .have en:dw (kd d.neg mode) d.m d.e=0:=by unfold dw;rw[aj hm]
   unfold aS bJ eF aE;rw[en,ag (by omega)];simp
  .have en:fF d.m d.e=false:=by unfold fF;simp [hm]
   unfold aT bJ aU;rw[en];simp;omega
 .have hg:=DH hm d.e
  refine⟨?_,?_,by omega⟩
  .unfold aS aE dw
   congr 1;rw[ag hm];have hkz:=XL d.neg mode h0 h1;unfold bJ eF;have hMR:MR=9218868437227405312:=rfl;rw[hMR];generalize fL d.neg d.m (ss d.m d.e) mode=n at *;generalize r1 (kd d.neg mode) d.m d.e=r at *;generalize kk d.m d.e=k at *;generalize jj d.m d.e=j at *;generalize qq d.m d.e=q at *;generalize kd d.neg mode=kz at *;by_cases haw:fU d.neg mode=true
   .have hk0:¬kz=0:=fun h=>by have :=hkz.1 h;rw[haw]at this;cases this
    simp only[haw,hk0,cQ,e9]
    (repeat' split) <;> omega
   .have hk0:kz=0:=hkz.2 (by simpa using haw)
    simp only[haw,hk0,cQ,ga,e9]
    (repeat' split) <;> omega
  .rw[aa3]
   unfold aT aU fF;have hMR:MR=9218868437227405312:=rfl;have hr0:r0 d.m d.e=qq d.m d.e+jj d.m d.e*4503599627370496:=rfl;have hr1:r1 (kd d.neg mode) d.m d.e=if rr d.m d.e≠0/\pR (kd d.neg mode) d.m d.e=true then r0 d.m d.e+1 else r0 d.m d.e:=rfl
   have key:(971<bJ (fL d.neg d.m (ss d.m d.e) mode) (kk d.m d.e))↔MR<=r1 (kd d.neg mode) d.m d.e:=by
    rw[hMR];unfold bJ;split <;> omega
   have hne:(decide (d.m≠0))=true:=by simp [hm]
   rw[hne,zK];by_cases hr:rr d.m d.e=0
   .rw[hr1]at key
    simp only[hr,nZ,not_true_eq_false,false_and,e9]at key;simp [hr,key]
   .simp [hr]
theorem Io {P:Program}{f:FuncId}{args:Array Value}{w:World}{n:Nat}{v:Value}(h:Calls P f args (w.drewN n) fun e w'=>e=.returned v/\w.drewN n=w'):
  Calls P f args (w.drewN n) fun e w'=>e=.returned v/\∃m,w'=w.drewN m:=h.mono fun _ _ ⟨he,hw⟩=>⟨he,n,hw.symm⟩
theorem Xo {l:List Nat}{q:Nat}(hl:dA l) (h:val l=q) (hq:q<=9007199254740992):l.length<=2:=by
 have :=hl.len (k:=54) (by rw[h];omega);omega
theorem or_zero (x:Nat) (hx:x<18446744073709551616):bits .or .u64 0 (x:Int)=(x:Int):=by
 have :=bits_or_u64_nat 0 x (by decide) hx;rw[Nat.zero_or]at this;exact this
theorem uZ (x:Int) (h0:0<=x) (h1:x<=18446744073709551615):bits .or .u64 x 0=x:=by
 obtain⟨n,rfl⟩:=gH h0;have :=bits_or_u64_nat n 0 (by omega) (by decide);rw[Nat.or_zero]at this;exact this
theorem yP (x:Int) (h0:0<=x) (h1:x<9223372036854775808):bits .or .u64 x 9223372036854775808=x+9223372036854775808:=by
 obtain⟨a,rfl⟩:=gH h0;have ha:a<2^63:=by omega
 have h:=bits_or_u64_nat a 9223372036854775808 (by omega) (by decide);rw[show((9223372036854775808:Nat):Int)=9223372036854775808 from rfl]at h;rw[h,zL];have :=ud ha 1;rw[show(2^63*1:Nat)=9223372036854775808 by decide]at this;rw[<-this];omega
theorem Im (n:Int) (h0:0<=n) (h1:n<2^64):IntKind.u64.wrap n=n:=IntWalk.u64_in n ⟨h0,by omega⟩
theorem Nz (x:Int) (h0:0<=x) (h1:x<=18446744073709551615):bits .and .u64 x 4503599627370495=x%4503599627370496:=
 bits_mask .u64 64 (by decide) Im 52 (by decide) x h0 (by omega)
theorem GL (e x:Int) (he:0<=e) (he1:e<=4095) (h0:0<=x) (h1:x<4503599627370496):bits .or .u64 (e*4503599627370496) x=e*4503599627370496+x:=
 bits_join .u64 64 (by decide) Im 52 _ _ (by omega) (by omega) (by omega) h0 (by omega) (by omega)
theorem kS (v:Value) (d:D) (k0:Nat) (mode:Int) (w:World) (hd:DV w v d) (hm:d.m<2^k0) (hk0:k0<=16000000000000) (e0: -16000000000000<=d.e) (e1:d.e<=16000000000000) (hz:d.m=0->d.e<=1000) (h0:0<=mode) (h1:mode<=4):
  Calls prog 30 #[v,.int .i64 mode] w fun e w'=>e=.returned (.tuple #[.int .u64 (aE d mode),.bool (aU d)])/\Below w.heap.size w w':=by
 obtain⟨s,rfl,hs⟩:=hd;obtain⟨ao,n,c,rfl⟩:=hs.shape;obtain⟨F1,F2,F3⟩:=Q7 h0 h1 hz;rw[<-F1,<-F2];clear F1 F2;obtain⟨neg,m,e⟩:=d;simp only at hm e0 e1 hz hs F3 ⊢
 have hbl:aC m<=k0:=by
  rcases eJ k0 (aC m) with h|h
  .exfalso
   have hne:m≠0:=by intro h2;rw[h2]at h;simp [aC]at h
   have :=oZ hne;rw[Kk]at h;have h3:2^k0<=2^(bl m-1):=aG (by decide) (by omega);omega
  .exact h
 have hK:kk m e=max ((aC m:Int)+e-53) (-1074):=rfl;have hS:ss m e=kk m e-e:=rfl;rw[hS]at F3 ⊢;have hkb: -1074<=kk m e/\kk m e<=32000000000000/\kk m e-e<=36000000000000/\ -36000000000000<=kk m e-e:=by rw[hK];omega
 obtain⟨hkb1,hkb2,hkb3,hkb4⟩:=hkb;generalize kk m e=K at *;have HM:=hid hm;have HS:=hid hs;have HK:=hid hK;clear hm hs hK hS hz;generalize hQ:fL neg m (K-e) mode=q at *;have HQ:=hid hQ;clear hQ;generalize hC:j7 m (K-e)=cc at *;have HC:=hid hC;clear hC;go_enter func30,ntmps30;go_wp2;go_quiet ((go_at_call 59;exact Io (lx _ m k0 _ (NV.drewN (NV.alloc HS.out _) _) HM.out (by omega))))
 rw[<-HK.out];go_wp2_with fail
 refine(FP neg _ m k0 (K-e) mode _ (NV.drewN (NV.alloc HS.out _) _) HM.out (by omega) (by omega) (by omega) h0 h1).mono ?_;rintro r w1 ⟨vq,rfl,hvq,hb⟩;rw[HC.out];rw[HQ.out]at hvq;have hb2:=y8 hb;obtain⟨q0,q1,q2,f0,f1,f2⟩:=tK hb2;have hbw:Below w.heap.size w w1:=(br0.alloc le0 _).trans (hb2.mono (by simp));have HBW:=hid hbw;clear hb hb2 hbw;obtain⟨l,hl,el,-,ao2,cap2,rfl,hc2,hm2,hA⟩:=hvq;have hl2:=Xo hl el F3;have EL:=hid el;unfold maxLen at hm2;clear el
 have hlen:l.length=0\/(∃x,l=[x])\/(∃x y,l=[x,y]):=by
  match l,hl2 with
  | [],_=>left;rfl
  | [x],_=>right;left;exact⟨x,rfl⟩
  | [x,y],_=>right;right;exact⟨x,y,rfl⟩
 have hcell:l.length<=0\/∃b2 o2,ao2=some ⟨b2,o2,none⟩/\∀i,i<l.length->w1.cell? ⟨b2,o2+i,none⟩=some (.int .u32 ((l.getD i 0:Nat):Int)):=by
  rcases hA with hA|⟨b2,o2,g1,_,g2⟩
  .exact Or.inl hA
  .exact Or.inr ⟨b2,o2,g1,g2⟩
 clear hA;have hlims:=hl.1;rcases hcell with hcell|⟨b2,o2,rfl,hcell⟩
 all_goals
  have HL:=hid hlen;clear hlen;go_wp2
  go_loop [9,37] (fun v i=>∃k N:Nat,k<=l.length/\i=.int .i64 k/\v=.int .u64 ((N:Nat):Int)/\N=val (l.take k)) (fun _ i=>l.length-(intOf i).toNat)
  case atStart=>exact⟨0,0,d_ _,rfl,rfl,rfl⟩
  case round=>
   obtain⟨k,N,hk,rfl,rfl,hN⟩:=hrel;have HN:=hid hN;clear hN;by_cases hkp:k<l.length
   .first
     |(exfalso;omega)
     |(obtain⟨x,hx⟩:∃x,x=l.getD k 0:=⟨_,rfl⟩
       have hx1:x<4294967296:=by rw[hx];exact hlims.getD k
       have hcx:=hcell k hkp;rw[<-hx]at hcx;have HX:=hid hx;have HC2:=hid hcell;clear hx hcell;have hk01:k=0\/k=1:=by omega
       rcases hk01 with rfl|rfl
       .obtain rfl:N=0:=HN.out
        rw[kW]at hcx;have e3:=or_zero x (by omega);go_wp2
        go_round
        case rel=>exact⟨1,x,by omega,by go_num,by simp,by rw[show(1:Nat)=0+1 from rfl,iX l 0 hkp,HX.out];simp [List.getD,hkp,val]⟩
        case measure=>simp [intOf];omega
       .have hN1:N<4294967296:=by
         rw[HN.out];have :=fV (hlims.take 1);rw[dj]at this;have h4:2^(32*min 1 l.length)<=2^32:=aG (by decide) (by omega);omega
        have e3:=Kt N x hN1 hx1;go_wp2
        go_round
        case rel=>exact⟨2,N+x*4294967296,by omega,by go_num,by simp,by rw[show(2:Nat)=1+1 from rfl,iX l 1 hkp,<-HN.out,HX.out];simp [List.getD,hkp];omega⟩
        case measure=>simp [intOf];omega)
   .have hNq:N=q:=by rw[HN.out,dI (by omega),EL.out]
    subst hNq;clear HN;try clear hcell
    have hNb:N<=9007199254740992:=F3;have hmode:mode=0\/mode=1\/mode=2\/mode=3\/mode=4:=by omega
    cases neg
    .by_cases hn:N=9007199254740992
     .subst hn
      by_cases hk:971<K+1
      .skip
       rcases hmode with rfl|rfl|rfl|rfl|rfl
       .have FR:Hid (aS false 9007199254740992 K 0=9218868437227405312):=by show aS false 9007199254740992 K 0=9218868437227405312;unfold aS bJ eF fU;simp only[cQ];rw[aj (by omega)];simp
        have FC:Hid (aT 9007199254740992 K cc=true):=by show aT 9007199254740992 K cc=true;unfold aT bJ;simp;omega
        have a1:bits .or .u64 9218868437227405312 0=9218868437227405312:=by decide
        go_wp2;go_ret2;exact⟨by rw[FR.out,FC.out];rfl,HBW.out⟩
       .have FR:Hid (aS false 9007199254740992 K 1=9218868437227405312):=by show aS false 9007199254740992 K 1=9218868437227405312;unfold aS bJ eF fU;simp only[cQ];rw[aj (by omega)];simp
        have FC:Hid (aT 9007199254740992 K cc=true):=by show aT 9007199254740992 K cc=true;unfold aT bJ;simp;omega
        have a1:bits .or .u64 9218868437227405312 0=9218868437227405312:=by decide
        go_wp2;go_ret2;exact⟨by rw[FR.out,FC.out];rfl,HBW.out⟩
       .have FR:Hid (aS false 9007199254740992 K 2=9218868437227405311):=by show aS false 9007199254740992 K 2=9218868437227405311;unfold aS bJ eF fU;simp only[cQ];rw[aj (by omega)];simp
        have FC:Hid (aT 9007199254740992 K cc=true):=by show aT 9007199254740992 K cc=true;unfold aT bJ;simp;omega
        have a1:bits .or .u64 9218868437227405311 0=9218868437227405311:=by decide
        go_wp2;go_ret2;exact⟨by rw[FR.out,FC.out];rfl,HBW.out⟩
       .have FR:Hid (aS false 9007199254740992 K 3=9218868437227405311):=by show aS false 9007199254740992 K 3=9218868437227405311;unfold aS bJ eF fU;simp only[cQ];rw[aj (by omega)];simp
        have FC:Hid (aT 9007199254740992 K cc=true):=by show aT 9007199254740992 K cc=true;unfold aT bJ;simp;omega
        have a1:bits .or .u64 9218868437227405311 0=9218868437227405311:=by decide
        go_wp2;go_ret2;exact⟨by rw[FR.out,FC.out];rfl,HBW.out⟩
       .have FR:Hid (aS false 9007199254740992 K 4=9218868437227405312):=by show aS false 9007199254740992 K 4=9218868437227405312;unfold aS bJ eF fU;simp only[cQ];rw[aj (by omega)];simp
        have FC:Hid (aT 9007199254740992 K cc=true):=by show aT 9007199254740992 K cc=true;unfold aT bJ;simp;omega
        have a1:bits .or .u64 9218868437227405312 0=9218868437227405312:=by decide
        go_wp2;go_ret2;exact⟨by rw[FR.out,FC.out];rfl,HBW.out⟩
      .have FR:Hid (aS false 9007199254740992 K mode=(K+1+1075)*4503599627370496):=by show aS false 9007199254740992 K mode=_;unfold aS bJ eF;simp only[cQ];rw[ag (by omega),ag (by omega)];simp
       have FC:Hid (aT 9007199254740992 K cc=cc):=by show aT 9007199254740992 K cc=cc;unfold aT bJ;simp;omega
       have a0:bits .and .u64 4503599627370496 4503599627370495=0:=by decide
       have a2:=uZ ((K+1+1075)*4503599627370496) (by omega) (by omega);go_wp2;go_ret2;exact⟨by rw[FR.out,FC.out];rfl,HBW.out⟩
     .have hn2:N<9007199254740992:=by omega
      have hn3:((N:Int)==9007199254740992)=false:=by rw[aH];omega
      by_cases hk:971<K
      .skip
       rcases hmode with rfl|rfl|rfl|rfl|rfl
       .have FR:Hid (aS false N K 0=9218868437227405312):=by show aS false N K 0=9218868437227405312;unfold aS bJ eF fU;rw[ag hn,aj (by omega)];simp
        have FC:Hid (aT N K cc=true):=by show aT N K cc=true;unfold aT bJ;rw[ag hn];simp;omega
        have a1:bits .or .u64 9218868437227405312 0=9218868437227405312:=by decide
        go_wp2;go_ret2;exact⟨by rw[FR.out,FC.out];rfl,HBW.out⟩
       .have FR:Hid (aS false N K 1=9218868437227405312):=by show aS false N K 1=9218868437227405312;unfold aS bJ eF fU;rw[ag hn,aj (by omega)];simp
        have FC:Hid (aT N K cc=true):=by show aT N K cc=true;unfold aT bJ;rw[ag hn];simp;omega
        have a1:bits .or .u64 9218868437227405312 0=9218868437227405312:=by decide
        go_wp2;go_ret2;exact⟨by rw[FR.out,FC.out];rfl,HBW.out⟩
       .have FR:Hid (aS false N K 2=9218868437227405311):=by show aS false N K 2=9218868437227405311;unfold aS bJ eF fU;rw[ag hn,aj (by omega)];simp
        have FC:Hid (aT N K cc=true):=by show aT N K cc=true;unfold aT bJ;rw[ag hn];simp;omega
        have a1:bits .or .u64 9218868437227405311 0=9218868437227405311:=by decide
        go_wp2;go_ret2;exact⟨by rw[FR.out,FC.out];rfl,HBW.out⟩
       .have FR:Hid (aS false N K 3=9218868437227405311):=by show aS false N K 3=9218868437227405311;unfold aS bJ eF fU;rw[ag hn,aj (by omega)];simp
        have FC:Hid (aT N K cc=true):=by show aT N K cc=true;unfold aT bJ;rw[ag hn];simp;omega
        have a1:bits .or .u64 9218868437227405311 0=9218868437227405311:=by decide
        go_wp2;go_ret2;exact⟨by rw[FR.out,FC.out];rfl,HBW.out⟩
       .have FR:Hid (aS false N K 4=9218868437227405312):=by show aS false N K 4=9218868437227405312;unfold aS bJ eF fU;rw[ag hn,aj (by omega)];simp
        have FC:Hid (aT N K cc=true):=by show aT N K cc=true;unfold aT bJ;rw[ag hn];simp;omega
        have a1:bits .or .u64 9218868437227405312 0=9218868437227405312:=by decide
        go_wp2;go_ret2;exact⟨by rw[FR.out,FC.out];rfl,HBW.out⟩
      .by_cases hs:N<4503599627370496
       .have FR:Hid (aS false N K mode=(N:Int)):=by show aS false N K mode=_;unfold aS bJ eF;rw[ag hn,ag hn,ag (by omega),aj hs];simp
        have FC:Hid (aT N K cc=cc):=by show aT N K cc=cc;unfold aT bJ;rw[ag hn];simp;omega
        have a2:=uZ (N:Int) (by omega) (by omega);have hs2:(N:Int)<4503599627370496:=by omega
        have hn4:(N:Int)<9007199254740992:=by omega
        clear hn hs hn2 hNb F3;go_wp2;go_ret2;exact⟨by rw[FR.out,FC.out];rfl,HBW.out⟩
       .obtain⟨r,hr⟩:∃r:Int,r=(N:Int)%4503599627370496:=⟨_,rfl⟩
        have hr0:0<=r:=by omega
        have hr1:r<4503599627370496:=by omega
        have FR:Hid (aS false N K mode=(K+1075)*4503599627370496+r):=by show aS false N K mode=_;unfold aS bJ eF;rw[ag hn,ag hn,ag (by omega),ag hs,hr];simp
        have FC:Hid (aT N K cc=cc):=by show aT N K cc=cc;unfold aT bJ;rw[ag hn];simp;omega
        have a0:=Nz (N:Int) (by omega) (by omega);rw[<-hr]at a0;have a2:=GL (K+1075) r (by omega) (by omega) hr0 hr1;have a3:=uZ ((K+1075)*4503599627370496+r) (by omega) (by omega);have hs2:(4503599627370496:Int)<=(N:Int):=by omega
        have hn4:(N:Int)<9007199254740992:=by omega
        have hs3:¬(N:Int)<4503599627370496:=by omega
        clear hn hs hn2 hNb F3 hr;generalize hz:(N:Int)=z at *;clear hz;go_wp2;go_ret2;exact⟨by rw[FR.out,FC.out];rfl,HBW.out⟩
    .by_cases hn:N=9007199254740992
     .subst hn
      by_cases hk:971<K+1
      .skip
       rcases hmode with rfl|rfl|rfl|rfl|rfl
       .have FR:Hid (aS true 9007199254740992 K 0=18442240474082181120):=by show aS true 9007199254740992 K 0=18442240474082181120;unfold aS bJ eF fU;simp only[cQ];rw[aj (by omega)];simp
        have FC:Hid (aT 9007199254740992 K cc=true):=by show aT 9007199254740992 K cc=true;unfold aT bJ;simp;omega
        have a1:bits .or .u64 9218868437227405312 9223372036854775808=18442240474082181120:=by decide
        go_wp2;go_ret2;exact⟨by rw[FR.out,FC.out];rfl,HBW.out⟩
       .have FR:Hid (aS true 9007199254740992 K 1=18442240474082181119):=by show aS true 9007199254740992 K 1=18442240474082181119;unfold aS bJ eF fU;simp only[cQ];rw[aj (by omega)];simp
        have FC:Hid (aT 9007199254740992 K cc=true):=by show aT 9007199254740992 K cc=true;unfold aT bJ;simp;omega
        have a1:bits .or .u64 9218868437227405311 9223372036854775808=18442240474082181119:=by decide
        go_wp2;go_ret2;exact⟨by rw[FR.out,FC.out];rfl,HBW.out⟩
       .have FR:Hid (aS true 9007199254740992 K 2=18442240474082181120):=by show aS true 9007199254740992 K 2=18442240474082181120;unfold aS bJ eF fU;simp only[cQ];rw[aj (by omega)];simp
        have FC:Hid (aT 9007199254740992 K cc=true):=by show aT 9007199254740992 K cc=true;unfold aT bJ;simp;omega
        have a1:bits .or .u64 9218868437227405312 9223372036854775808=18442240474082181120:=by decide
        go_wp2;go_ret2;exact⟨by rw[FR.out,FC.out];rfl,HBW.out⟩
       .have FR:Hid (aS true 9007199254740992 K 3=18442240474082181119):=by show aS true 9007199254740992 K 3=18442240474082181119;unfold aS bJ eF fU;simp only[cQ];rw[aj (by omega)];simp
        have FC:Hid (aT 9007199254740992 K cc=true):=by show aT 9007199254740992 K cc=true;unfold aT bJ;simp;omega
        have a1:bits .or .u64 9218868437227405311 9223372036854775808=18442240474082181119:=by decide
        go_wp2;go_ret2;exact⟨by rw[FR.out,FC.out];rfl,HBW.out⟩
       .have FR:Hid (aS true 9007199254740992 K 4=18442240474082181120):=by show aS true 9007199254740992 K 4=18442240474082181120;unfold aS bJ eF fU;simp only[cQ];rw[aj (by omega)];simp
        have FC:Hid (aT 9007199254740992 K cc=true):=by show aT 9007199254740992 K cc=true;unfold aT bJ;simp;omega
        have a1:bits .or .u64 9218868437227405312 9223372036854775808=18442240474082181120:=by decide
        go_wp2;go_ret2;exact⟨by rw[FR.out,FC.out];rfl,HBW.out⟩
      .have FR:Hid (aS true 9007199254740992 K mode=(K+1+1075)*4503599627370496+9223372036854775808):=by show aS true 9007199254740992 K mode=_;unfold aS bJ eF;simp only[cQ];rw[ag (by omega),ag (by omega)];simp
       have FC:Hid (aT 9007199254740992 K cc=cc):=by show aT 9007199254740992 K cc=cc;unfold aT bJ;simp;omega
       have a0:bits .and .u64 4503599627370496 4503599627370495=0:=by decide
       have a2:=uZ ((K+1+1075)*4503599627370496) (by omega) (by omega);have a3:=yP ((K+1+1075)*4503599627370496) (by omega) (by omega);go_wp2;go_ret2;exact⟨by rw[FR.out,FC.out];rfl,HBW.out⟩
     .have hn2:N<9007199254740992:=by omega
      have hn3:((N:Int)==9007199254740992)=false:=by rw[aH];omega
      by_cases hk:971<K
      .skip
       rcases hmode with rfl|rfl|rfl|rfl|rfl
       .have FR:Hid (aS true N K 0=18442240474082181120):=by show aS true N K 0=18442240474082181120;unfold aS bJ eF fU;rw[ag hn,aj (by omega)];simp
        have FC:Hid (aT N K cc=true):=by show aT N K cc=true;unfold aT bJ;rw[ag hn];simp;omega
        have a1:bits .or .u64 9218868437227405312 9223372036854775808=18442240474082181120:=by decide
        go_wp2;go_ret2;exact⟨by rw[FR.out,FC.out];rfl,HBW.out⟩
       .have FR:Hid (aS true N K 1=18442240474082181119):=by show aS true N K 1=18442240474082181119;unfold aS bJ eF fU;rw[ag hn,aj (by omega)];simp
        have FC:Hid (aT N K cc=true):=by show aT N K cc=true;unfold aT bJ;rw[ag hn];simp;omega
        have a1:bits .or .u64 9218868437227405311 9223372036854775808=18442240474082181119:=by decide
        go_wp2;go_ret2;exact⟨by rw[FR.out,FC.out];rfl,HBW.out⟩
       .have FR:Hid (aS true N K 2=18442240474082181120):=by show aS true N K 2=18442240474082181120;unfold aS bJ eF fU;rw[ag hn,aj (by omega)];simp
        have FC:Hid (aT N K cc=true):=by show aT N K cc=true;unfold aT bJ;rw[ag hn];simp;omega
        have a1:bits .or .u64 9218868437227405312 9223372036854775808=18442240474082181120:=by decide
        go_wp2;go_ret2;exact⟨by rw[FR.out,FC.out];rfl,HBW.out⟩
       .have FR:Hid (aS true N K 3=18442240474082181119):=by show aS true N K 3=18442240474082181119;unfold aS bJ eF fU;rw[ag hn,aj (by omega)];simp
        have FC:Hid (aT N K cc=true):=by show aT N K cc=true;unfold aT bJ;rw[ag hn];simp;omega
        have a1:bits .or .u64 9218868437227405311 9223372036854775808=18442240474082181119:=by decide
        go_wp2;go_ret2;exact⟨by rw[FR.out,FC.out];rfl,HBW.out⟩
       .have FR:Hid (aS true N K 4=18442240474082181120):=by show aS true N K 4=18442240474082181120;unfold aS bJ eF fU;rw[ag hn,aj (by omega)];simp
        have FC:Hid (aT N K cc=true):=by show aT N K cc=true;unfold aT bJ;rw[ag hn];simp;omega
        have a1:bits .or .u64 9218868437227405312 9223372036854775808=18442240474082181120:=by decide
        go_wp2;go_ret2;exact⟨by rw[FR.out,FC.out];rfl,HBW.out⟩
      .by_cases hs:N<4503599627370496
       .have FR:Hid (aS true N K mode=(N:Int)+9223372036854775808):=by show aS true N K mode=_;unfold aS bJ eF;rw[ag hn,ag hn,ag (by omega),aj hs];simp
        have FC:Hid (aT N K cc=cc):=by show aT N K cc=cc;unfold aT bJ;rw[ag hn];simp;omega
        have a2:=yP (N:Int) (by omega) (by omega);have hs2:(N:Int)<4503599627370496:=by omega
        have hn4:(N:Int)<9007199254740992:=by omega
        clear hn hs hn2 hNb F3;go_wp2;go_ret2;exact⟨by rw[FR.out,FC.out];rfl,HBW.out⟩
       .obtain⟨r,hr⟩:∃r:Int,r=(N:Int)%4503599627370496:=⟨_,rfl⟩
        have hr0:0<=r:=by omega
        have hr1:r<4503599627370496:=by omega
        have FR:Hid (aS true N K mode=(K+1075)*4503599627370496+r+9223372036854775808):=by show aS true N K mode=_;unfold aS bJ eF;rw[ag hn,ag hn,ag (by omega),ag hs,hr];simp
        have FC:Hid (aT N K cc=cc):=by show aT N K cc=cc;unfold aT bJ;rw[ag hn];simp;omega
        have a0:=Nz (N:Int) (by omega) (by omega);rw[<-hr]at a0;have a2:=GL (K+1075) r (by omega) (by omega) hr0 hr1;have a3:=yP ((K+1075)*4503599627370496+r) (by omega) (by omega);have hs2:(4503599627370496:Int)<=(N:Int):=by omega
        have hn4:(N:Int)<9007199254740992:=by omega
        have hs3:¬(N:Int)<4503599627370496:=by omega
        clear hn hs hn2 hNb F3 hr;generalize hz:(N:Int)=z at *;clear hz;go_wp2;go_ret2;exact⟨by rw[FR.out,FC.out];rfl,HBW.out⟩
def SV (w:World) (v:Value) (neg:Bool) (l:List Nat) (e:Int):Prop:= ∃s,v=.agg #[.bool neg,s,.int .i64 e]/\Lim w s l
theorem SV.below {w w':World}{v:Value}{neg:Bool}{l:List Nat}{e:Int}(h:SV w v neg l e) (hb:Below w.heap.size w w'):SV w' v neg l e:=by
 obtain⟨s,h1,h2⟩:=h;exact⟨s,h1,h2.below hb⟩
def Bv (neg:Bool) (l:List Nat) (e:Int):Int:=
 if 400<l.length\/e< -10000\/10000<e then 2 else if l.length=0 then(if e≠0\/neg=true then 3 else 0) else if l.getD (l.length-1) 0=0\/l.getD 0 0%2=0 then 3 else 0
theorem l_ {n a b:Nat}(h:n<2^a) (hab:a<=b):n<2^b:=aX h (aG (by decide) hab)
theorem Qz (v:Value) (d:D) (w:World) (h:DV w v d):
  Calls prog 201 #[v] w fun r w'=>r=.returned (.int .i64 (sign d))/\Below w.heap.size w w':=by
 obtain⟨neg,m,e⟩:=d;obtain⟨s,rfl,l,hn,hv,hl,ao,cap,rfl,hcap,hm,hc⟩:=h;simp only at hv;subst hv;unfold maxLen at hm;clear hc
 have hcases:(l.length=0/\sign ⟨neg,val l,e⟩=0)\/(1<=l.length/\neg=true/\sign ⟨neg,val l,e⟩= -1)\/(1<=l.length/\neg=false/\sign ⟨neg,val l,e⟩=1):=by
  by_cases h0:l.length=0
  .left;refine⟨h0,?_⟩;rw[gp.1 h0];rfl
  .have hz:val l≠0:=fun h=>h0 (by rw[val_eq_zero hn h];rfl)
   right;cases neg
   .right;exact⟨by omega,rfl,by simp [sign,hz]⟩
   .left;exact⟨by omega,rfl,by simp [sign,hz]⟩
 generalize sign ⟨neg,val l,e⟩=S at *;rcases hcases with⟨h0,rfl⟩|⟨h0,rfl,rfl⟩|⟨h0,rfl,rfl⟩
 all_goals
  go_enter func201,ntmps201;go_wp2;go_ret;exact⟨rfl,br0.alloc le0 _⟩
theorem vX {d:D}(h:d.Nf) (hz:d.m=0):d.e<=1000:=by
 rcases h with rfl|h
 .show(0:Int)<=1000;decide
 .omega
open Nt
structure nA (X V m n k:Nat) (U o:List Nat):Prop where
 lu:U.length=m+n
 lo:o.length=m
 ul:aI U
 ol:aI o
 hk:k<=m
 top:val (U.drop (k+n))=0
 lt:val (U.drop k)<V
 eq:val (o.drop k)*2^(32*k)*V+val U=X
theorem nA.split {X V m n j:Nat}{U o:List Nat}(h:nA X V m n (j+1) U o):
  U=U.take j++((U.drop j).take (n+1)++U.drop (j+n+1))/\(U.take j).length=j/\((U.drop j).take (n+1)).length=n+1/\
   val (U.drop (j+n+1))=0/\val ((U.drop j).take (n+1))<V*4294967296:=by
 have hlu:=h.lu;have hk:=h.hk;have e0:(U.drop j).drop (n+1)=U.drop (j+n+1):=by rw[qE];congr 1
 have e1:U.drop j=(U.drop j).take (n+1)++U.drop (j+n+1):=by rw[<-e0,nX]
 have e2:val (U.drop (j+n+1))=0:=by have :=h.top;rwa [show j+1+n=j+n+1 by omega]at this
 have e3:((U.drop j).take (n+1)).length=n+1:=by rw[dj,mS];omega
 refine⟨by rw[<-e1,nX],by rw[dj];omega,e3,e2,?_⟩;have h1:=qU U j (by omega);have h2:=h.ul.get j (by omega);have h3:=h.lt;rw[e1,rn,e2,sf,kW]at h1;omega
theorem Ur {l:List Nat}{n V:Nat}(h:val l<V) (hV:V<2^(32*n)) (hn:n<=l.length):val (l.drop n)=0:=by
 have h1:=pj l n hn;rcases fl (val (l.drop n)) with h0|h0
 .exact h0
 .have :2^(32*n)*1<=2^(32*n)*val (l.drop n):=cZ _ h0
  omega
theorem nA.step {X V m n j d:Nat}{U o u':List Nat}(h:nA X V m n (j+1) U o) (hV:V<2^(32*n)) (hd:d=val ((U.drop j).take (n+1))/V) (hl:u'.length=n+1) (hL:aI u') (hu:val u'=val ((U.drop j).take (n+1))%V):
  d<4294967296/\nA X V m n j (U.take j++(u'++U.drop (j+n+1))) (o.set j d):=by
 obtain⟨e1,e2,e3,e4,e5⟩:=h.split;have hV0:0<V:=de (d_ _) h.lt;have hlu:=h.lu;have hk:=h.hk;have hlo:=h.lo;have hdl:d<4294967296:=by rw[hd,lU hV0,aW];exact e5
 have hdr:(U.take j++(u'++U.drop (j+n+1))).drop j=u'++U.drop (j+n+1):=by
  rw[List.drop_append,e2,si,ue (by omega)];rfl
 have hvd:val (u'++U.drop (j+n+1))=val u':=by rw[rn,e4,sf,kW]
 have hlt:val u' <V:=by rw[hu];exact ew _ hV0
 have hlen:(u'++U.drop (j+n+1)).length=m+n-j:=by rw[ck,mS,hl];omega
 refine⟨hdl,⟨?_,?_,(h.ul.take j).append (hL.append (h.ul.drop _)),?_,by omega,?_,?_,?_⟩⟩
 .rw[ck,e2,hlen];omega
 .rw[uh];exact hlo
 .intro x hx
  rcases ah3 hx with hx|rfl
  .exact h.ol x hx
  .exact hdl
 .have e:(U.take j++(u'++U.drop (j+n+1))).drop (j+n)=(u'++U.drop (j+n+1)).drop n:=by
   have :=congrArg (List.drop n) hdr;rw[qE]at this;exact this
  rw[e];exact Ur (V:=V) (by rw[hvd];exact hlt) hV (by omega)
 .rw[hdr,hvd];exact hlt
 .have eo:(o.set j d).drop j=d::o.drop (j+1):=by
   rw[t_ (by rw[uh];omega)];congr 1
   .simp
   .rw[Oh (by omega)]
  have hq:=h.eq
  have hU:val U=val (U.take j)+2^(32*j)*val ((U.drop j).take (n+1)):=by
   conv=>lhs;rw[e1]
   rw[rn,rn,e2,e4,sf,kW]
  rw[rn,hvd,e2,eo];simp only[val];rw[hU,kQ]at hq;have hdm:=kt (val ((U.drop j).take (n+1))) V;rw[<-hd,<-hu]at hdm;rw[<-hdm]at hq;generalize 2^(32*j)=W at *;generalize val (o.drop (j+1))=O at *;generalize val (U.take j)=A at *;generalize val u'=R at *;rw[a_,a_];rw[cP]at hq;have a1:4294967296*O*W*V=O*(4294967296*W)*V:=by rw[aW 4294967296 O,aF O]
  have a2:W*(V*d)=d*W*V:=by rw[aW V d,<-aF,aW W d]
  omega
theorem nA.fin {X V m n:Nat}{U o:List Nat}(h:nA X V m n 0 U o):val o=X/V/\val (U.take n)=X%V:=by
 have h1:=h.eq;have h2:=h.lt;have h3:=h.top;simp only[Oi,sf,jT,fI,jw]at h1 h2 h3;have h4:=pj U n (by have :=h.lu;omega);rw[h3,sf,kW]at h4;have hV0:0<V:=de (d_ _) h2;rw[<-h4,<-h1,aW (val o),zC hV0,nY h2,EI,lV h2];exact⟨rfl,rfl⟩
structure vK (la lb:List Nat) (n s:Nat) (lu lv:List Nat):Prop where
 na:dA la
 nb:dA lb
 nu:dA lu
 nv:dA lv
 hb:lb.length=n+1
 hs:s=32-Lib.bitLen (lb.getD n 0)
 vu:val lu=val la*2^s
 vv:val lv=val lb*2^s
 le:val lb<=val la
theorem vK.facts {la lb lu lv:List Nat}{n s:Nat}(h:vK la lb n s lu lv):
  s<=31/\lv.length=n+1/\2147483648<=lv.getD n 0/\la.length<=lu.length/\lu.length<=la.length+1/\n+1<=la.length/\val lv<2^(32*(n+1)):=by
 obtain⟨d0,d1,d2⟩:=Ck h.nb h.hb rfl;obtain⟨j,hj,e,b1,b2⟩:=AW d0 d1;have hs:s=31-j:=by rw[h.hs,e];omega
 have hvb:=iX lb n (by have :=h.hb;omega);rw[dI (by have :=h.hb;omega)]at hvb;have hd:lb[n]'(by have :=h.hb;omega)=lb.getD n 0:=by simp [List.getD,show n<lb.length by have :=h.hb;omega]
 rw[hd]at hvb;have hvt:=fV (h.nb.1.take n);rw[dj,i_ (by have :=h.hb;omega)]at hvt;generalize lb.getD n 0=d at *
 have hlo:2^(32*n+j)<=val lb:=by
  rw[aB];have :=cZ (2^(32*n)) b1;omega
 have hhi:val lb<2^(32*n+(j+1)):=by
  rw[aB];have :=cZ (2^(32*n)) (Nat.succ_le_of_lt b2);rw[ah7,cP]at this;omega
 have hvlo:2^(32*n+31)<=val lv:=by
  rw[h.vv,show 32*n+31=32*n+j+s by omega,aB];exact bR _ hlo
 have hvhi:val lv<2^(32*(n+1)):=by
  rw[h.vv,show 32*(n+1)=32*n+(j+1)+s by omega,aB];exact cS hhi (az _)
 have hvl:lv.length=n+1:=by
  have h1:=h.nv.len hvhi;rcases eJ lv.length (n+1) with h2|h2
  .have h3:=fV h.nv.1
   have h4:2^(32*lv.length)<=2^(32*n+31):=aG (by decide) (by omega);omega
  .omega
 refine⟨by omega,hvl,?_,?_,?_,?_,hvhi⟩
 .have h1:=iX lv n (by omega)
  rw[dI (by omega)]at h1;have h2:=fV (h.nv.1.take n);rw[dj,i_ (by omega)]at h2;have h3:lv.getD n 0=lv[n]'(by omega):=by simp [List.getD,show n<lv.length by omega]
  rw[h3];rw[aB]at hvlo;have h4:2^(32*n)*2^31<2^(32*n)*(lv[n]'(by omega)+1):=by rw[cP];omega
  have :=ah8 h4;omega
 .rcases eJ lu.length la.length with h1|h1
  .have h2:=h.na.ge (la.length-1) (by omega)
   have h3:=fV h.nu.1;have h4:2^(32*lu.length)<=2^(32*(la.length-1)):=aG (by decide) (by omega);have h5:val la*1<=val la*2^s:=cZ _ (az _);have h6:=h.vu;omega
  .exact h1
 .have h1:=fV h.na.1
  have h2:val lu<2^(32*la.length+s):=by rw[h.vu,aB];exact cS h1 (az _)
  have :=h.nu.len h2;omega
 .rcases eJ la.length (n+1) with h1|h1
  .have h2:=yN h.na h.nb (by have :=h.hb;omega)
   have :=h.le;omega
  .exact h1
theorem Rp {l:List Nat}{k:Nat}(h1:l.length<=k) (h2:k<=l.length+1):val ((l++[0]).take k)=val l/\((l++[0]).take k).length=k:=by
 refine⟨?_,by rw[dj,ck];simp;omega⟩;rcases eJ l.length k with h|h
 .rw[dI (by rw[ck];simp;omega),nh];omega
 .have :k=l.length:=by omega
  subst this;rw[List.take_append_of_le_length le0,lX]
theorem vK.start {la lb lu lv:List Nat}{n s:Nat}(h:vK la lb n s lu lv):
  nA (val la*2^s) (val lv) (la.length-n) (n+1) (la.length-n) ((lu++[0]).take (la.length+1)) (List.replicate (la.length-n) 0):=by
 obtain⟨f1,f2,f3,f4,f5,f6,f7⟩:=h.facts;obtain⟨g1,g2⟩:=Rp (l:=lu) (k:=la.length+1) (by omega) (by omega);have hL:aI ((lu++[0]).take (la.length+1)):=aI.take (h.nu.1.snoc (by decide)) _;refine⟨by rw[g2];omega,by simp,hL,?_,ae _,?_,?_,?_⟩
 .intro x hx;rw[uf hx];decide
 .rw[ue (by rw[g2];omega)];rfl
 .have h1:=pj ((lu++[0]).take (la.length+1)) (la.length-n) (by rw[g2];omega)
  rw[g1,h.vu]at h1;have h2:=fV h.na.1;have h3:=h.nb.ge n h.hb;have h4:val la*2^s<2^(32*la.length)*2^s:=cS h2 (az _);have h5:2^(32*n)*2^s<=val lv:=by rw[h.vv];exact bR _ h3
  have h6:2^(32*la.length)*2^s=2^(32*(la.length-n))*(2^(32*n)*2^s):=by
   have e7:32*la.length=32*(la.length-n)+32*n:=by omega
   conv=>lhs;rw[e7]
   rw[aB,aF]
  rw[h6]at h4
  have h7:2^(32*(la.length-n))*val (((lu++[0]).take (la.length+1)).drop (la.length-n))<2^(32*(la.length-n))*(2^(32*n)*2^s):=by
   rw[h1]at h4;exact de (Nat.le_add_left _ _) h4
  exact aX (ah8 h7) h5
 .rw[ue (by simp),g1,h.vu];simp [val]
theorem YQ {a b s X V:Nat}(hX:X=a*2^s) (hV:V=b*2^s):X/V=a/b/\X%V/2^s=a%b:=by
 have h0:0<2^s:=az _;rw[hX,hV,Nat.mul_div_mul_right _ _ h0,Nat.mul_mod_mul_right,ua _ h0];exact⟨rfl,rfl⟩
open Go.RowKit Nt
theorem tV (n:Nat):n<2^aC n:=by
 unfold aC;split
 .omega
 .exact EP
theorem nF {n k:Nat}(h:n<2^k):aC n<=k:=by
 unfold aC;split
 .omega
 .have :=(Oj (by assumption)).2 h
  omega
def NA (w:World) (v:Value) (c:Int) (n:Nat):Prop:= ∃l,Lim w v l/\W0 l=c/\(c=0->dA l/\val l=n/\aC n<=12800)
theorem NA.below {w w':World}{v:Value}{c:Int}{n:Nat}(h:NA w v c n) (hb:Below w.heap.size w w'):NA w' v c n:=by
 obtain⟨l,h1,h2,h3⟩:=h;exact⟨l,h1.below hb,h2,h3⟩
theorem NA.alloc {w:World}{v:Value}{c:Int}{n:Nat}(h:NA w v c n) (o:Obj):NA (w.alloc o) v c n:=h.below (br0.alloc le0 o)
def e2 (x y:Int):Int:=if x=0 then y else x
open Go.RowKit Nt Fm
def Fit (d:D):Prop:=d.Nf/\d.m<2^12800/\ -10000<=d.e/\d.e<=10000
def RD (w:World) (v:Value) (c:Int) (d:D):Prop:= ∃g ao n cp x,v=.agg #[.bool g,.slice ao n cp,.int .i64 x]/\n<=cp/\cp<=9223372036854775807/\(∃l,l.length=n/\Lim w (.slice ao n cp) l/\Bv g l x=c)/\(c=0->NV w (.slice ao n cp) d.m/\g=d.neg/\x=d.e/\Fit d)/\ -9223372036854775808<=x/\x<=9223372036854775807
theorem Fit.nz:Fit nz:=⟨Or.inl rfl,@l_ 0 0 12800 (by decide) (d_ _),by decide,by decide⟩
theorem RD.below {w w':World}{v:Value}{c:Int}{d:D}(h:RD w v c d) (hb:Below w.heap.size w w'):RD w' v c d:=by
 obtain⟨g,ao,n,cp,x,h1,h2,h3,⟨l,h4,h5,h6⟩,h7,h8⟩:=h;exact⟨g,ao,n,cp,x,h1,h2,h3,⟨l,h4,h5.below hb,h6⟩,fun hc=>⟨(h7 hc).1.below hb,(h7 hc).2⟩,h8⟩
theorem Qf {d:D}{l:List Nat}(hl:dA l) (hv:val l=d.m) (hf:Fit d):Bv d.neg l d.e=0:=by
 obtain⟨h1,h2,h3,h4⟩:=hf;rw[<-hv]at h2
 have hlen:l.length<=400:=by
  have :=hl.len h2;omega
 unfold Bv;rw[ag (by omega)];by_cases h0:l.length=0
 .rw[aj h0]
  have hm:d.m=0:=by rw[<-hv,gp.1 h0];rfl
  rcases h1 with h1|h1
  .rw[h1];decide
  .omega
 .rw[ag h0,ag]
  intro h;rcases h with h|h
  .apply hl.2
   have hlt:l.length-1<l.length:=by omega
   have e:l.getD (l.length-1) 0=l[l.length-1]:=by simp [List.getD,hlt]
   rw[EJ,fO hlt,<-e,h]
  .have hodd:d.m%2=1:=by
    rcases h1 with h1|h1
    .exfalso;rw[h1]at hv
     exact h0 (by rw[val_eq_zero hl hv];rfl)
    .exact h1
   rw[<-hv]at hodd;cases l with
   |nil=>simp at h0
   |cons a l=>simp [val]at hodd h;omega
theorem Rj {w:World}{d:D}{ao:Option Addr}{n c:Nat}(hv:NV w (.slice ao n c) d.m) (hf:Fit d):RD w (.agg #[.bool d.neg,.slice ao n c,.int .i64 d.e]) 0 d:=by
 have hv':=hv;obtain⟨l,h1,h2,h3⟩:=hv;have h3':=h3;obtain⟨a1,ao',cp,a0,a2,a3,a4⟩:=h3;obtain⟨rfl,rfl,rfl⟩:ao=ao'/\n=l.length/\c=cp:=by simpa using a0
 unfold maxLen at a3;obtain⟨f1,f2,f3,f4⟩:=hf;exact⟨d.neg,_,_,_,d.e,rfl,a2,by omega,⟨l,rfl,h3',Qf h1 h2 ⟨f1,f2,f3,f4⟩⟩,fun _=>⟨hv',rfl,rfl,f1,f2,f3,f4⟩,by omega,by omega⟩
theorem RD.zero (w:World):RD w (.agg #[.bool false,.slice none 0 0,.int .i64 0]) 0 nz:=Rj (d:=nz) (NV.nil w) Fit.nz
open Go.RowKit Nt Fm Fl
theorem Wk {n:Nat}(h:n<=MR):bO (n:Int)=n/\fe (n:Int)=0:=by
 have hMR:MR=9218868437227405312:=rfl;unfold bO fe ay;omega
theorem QT {n:Nat}(h:n<=MR):bO ((n:Int)+9223372036854775808)= -n/\fe ((n:Int)+9223372036854775808)=0:=by
 have hMR:MR=9218868437227405312:=rfl;unfold bO fe ay;omega
theorem u_ (d:D) (mode:Int):bO (aE d mode)=rg d.neg mode d.m d.e/\fe (aE d mode)=0:=by
 have h:=nB (kd d.neg mode) d.m d.e;unfold aE rg;cases d.neg
 .have :=Wk (nB (kd false mode) d.m d.e)
  simpa using this
 .have :=QT (nB (kd true mode) d.m d.e)
  simpa using this
theorem uI (d:D) (t:Nat):sg t d.neg d.m d.e=d.vl (1074+t):=by
 unfold sg D.vl D.sm tt;rw[show d.e+1074+(t:Int)=d.e+((1074+t:Nat):Int) by omega];cases d.neg <;> simp [wi]
theorem W_ {c d:D}(mode:Int) (h:cmp c d<=0):bO (aE c mode)<=bO (aE d mode):=by
 rw[(u_ _ _).1,(u_ _ _).1];obtain⟨t,h1,h2⟩:=ly (c.e+1074) (d.e+1074);refine Wy h1 h2 mode ?_;have k1:0<=c.e+((1074+t:Nat):Int):=by omega
 have k2:0<=d.e+((1074+t:Nat):Int):=by omega
 rw[uI c t,uI d t];exact(I6 k1 k2).1 h
open Go.RowKit Nt Fm
def gB (neg:Bool) (m:Nat) (side:Int):Nat:=if(decide (0<side)) !=neg then m*2^64+1 else m*2^64-1
def cW (d:D) (side:Int):D:=if side=0 then d else if d.m=0 then⟨decide (side<0),1,-2000⟩ else⟨d.neg,gB d.neg d.m side,d.e-64⟩
theorem xU (v:Value) (d:D) (k0:Nat) (side:Int) (w:World) (hd:DV w v d) (hm:d.m<2^k0) (hk0:k0<=400000) (e0: -400000<=d.e) (e1:d.e<=400000):
  Calls prog 199 #[v,.int .i64 side] w (iR w (cW d side)):=by
 obtain⟨neg,m,e⟩:=d;obtain⟨s,rfl,hs⟩:=hd;simp only at hm e0 e1 hs;obtain⟨ao,n,c,rfl,hn1,hn2,hn⟩:=fD hs;by_cases h0:side=0
 .subst h0
  have q:cW ⟨neg,m,e⟩ 0=⟨neg,m,e⟩:=by unfold cW;rw[aj rfl]
  rw[q];have HS:=hid hs;clear q hs hm hn;go_enter func199,ntmps199;go_wp2;refine bodyPost_ret (v:= .agg #[.bool neg,.slice ao n c,.int .i64 e]) (by simp [results,Tryz.results199,go_sem]) rfl ?_;exact⟨_,rfl,⟨.slice ao n c,rfl,HS.out.below (by go_grown)⟩,by go_grown⟩
 .have h0b:(side==0)=false:=by rw[aH];exact h0
  rcases hn with⟨rfl,hn⟩|⟨hz,hn⟩
  .have q:cW ⟨neg,0,e⟩ side=⟨decide (side<0),1,-2000⟩:=by unfold cW;rw[ag h0];rfl
   rw[q];have hn0:((n:Int)==0)=true:=by rw[dV];omega
   clear q hs hm h0;go_enter func199,ntmps199;go_wp2_with fail
   refine(dU 1 (by omega) (by omega) _).mono ?_;rintro r w1 ⟨v,rfl,hv,hb⟩;have BX:=((ax.new (w.alloc (.cells #[.bool neg,.slice ao 0 c,.int .i64 e] 68)) (.bool false) (.slice none 0 0) (.int .i64 0) 68).below hb);rw[size_alloc]at BX;obtain⟨q0,q1,q2,f0,f1,f2⟩:=BX.cells;obtain⟨a1,n1,c1,rfl⟩:=hv.shape;have HV:=hid hv;have HB:=hid hb;have HX:=hid BX;clear hv hb BX;go_wp2;refine bodyPost_ret (v:= .agg #[.bool (decide (side<0)),.slice a1 n1 c1,.int .i64 (-2000)]) (by simp [results,Tryz.results199,go_sem,q0,q1,q2]) rfl ?_;exact⟨_,rfl,⟨.slice a1 n1 c1,rfl,HV.out.setD HX.out⟩,cJ (af ((br0.alloc le0 _).alloc (by simp) _) le0 HB.out) (by simp) _ _ _⟩
  .have hn0:((n:Int)==0)=false:=by rw[aH];omega
   have q:cW ⟨neg,m,e⟩ side=⟨neg,gB neg m side,e-64⟩:=by unfold cW;rw[ag h0,ag hz]
   rw[q];have hp:1<=m*18446744073709551616:=by omega
   obtain⟨k1,hk1,hq⟩:∃k1,k1<=500000/\m*18446744073709551616<2^k1:=⟨k0+64,by omega,by rw[aB];omega⟩
   have hcase:(0<side/\neg=false/\gB neg m side=m*2^64+1)\/(0<side/\neg=true/\gB neg m side=m*2^64-1)\/(decide (0<side)=false/\neg=true/\gB neg m side=m*2^64+1)\/(decide (0<side)=false/\neg=false/\gB neg m side=m*2^64-1):=by
    unfold gB;by_cases hs:0<side
    .cases neg
     .left;exact⟨hs,rfl,by simp [hs]⟩
     .right;left;exact⟨hs,rfl,by simp [hs]⟩
    .cases neg
     .right;right;right;exact⟨by simpa using hs,rfl,by simp [hs]⟩
     .right;right;left;exact⟨by simpa using hs,rfl,by simp [hs]⟩
   generalize gB neg m side=M at *;have HS:=hid hs;have HM:=hid hm;have HP:=hid hp;have HQ:=hid hq;clear hs hm q h0 hz hp hq;rcases hcase with⟨hc,rfl,hM⟩|⟨hc,rfl,hM⟩|⟨hc,rfl,hM⟩|⟨hc,rfl,hM⟩
   all_goals
    have HMM:=hid hM;clear hM;go_enter func199,ntmps199;go_wp2_with fail
    refine(f_ _ m 64 k0 _ _ ((HS.out.alloc _).alloc _) (by decide) HM.out (by omega) (by decide)).mono ?_;rintro r w1 ⟨v,rfl,hv,hb⟩;have BX:=((ax.new (w.alloc (.cells #[.bool _,.slice ao n c,.int .i64 e] 68)) (.bool false) (.slice none 0 0) (.int .i64 0) 68).below hb);rw[size_alloc]at BX;have BD:=(((ax.new w (.bool _) (.slice ao n c) (.int .i64 e) 68).alloc (.cells #[.bool false,.slice none 0 0,.int .i64 0] 68)).below hb);obtain⟨q0,q1,q2,f0,f1,f2⟩:=BD.cells;obtain⟨a1,n1,c1,rfl⟩:=hv.shape;have HV:=hid hv;have HB:=hid hb;have HX:=hid BX;have HD:=hid BD;clear hv hb BX BD;go_wp2_with fail
    refine(dU 1 (by omega) (by omega) _).mono ?_;rintro r w2 ⟨v,rfl,hv,hb⟩;obtain⟨a2,n2,c2,rfl⟩:=hv.shape;have HV2:=hid hv;have HB2:=hid (af HB.out le0 hb);have HX2:=hid (HX.out.below hb);have HD2:=hid (HD.out.below hb);have HV1:=hid (HV.out.below hb);obtain⟨q0,q1,q2,f0,f1,f2⟩:=HD2.out.cells;clear hv hb;go_wp2_with fail
    first
     |with_reducible refine(gN _ _ (m*2^64) 1 k1 _ HV1.out HV2.out (by simpa using HQ.out) (de HP.out HQ.out) (by omega)).mono ?_
     |with_reducible refine(re _ _ (m*2^64) 1 k1 _ HV1.out HV2.out (by simpa using HP.out) (by simpa using HQ.out) (by omega)).mono ?_
    rintro r w3 ⟨v,rfl,hv,hb⟩;obtain⟨a3,n3,c3,rfl⟩:=hv.shape;have HV3:=hid hv;have HB3:=hid (af HB2.out le0 hb);have HX3:=hid (HX2.out.below hb);have HD3:=hid (HD2.out.below hb);obtain⟨q0,q1,q2,f0,f1,f2⟩:=HD3.out.cells;obtain⟨p0,p1,p2,g0,g1,g2⟩:=HX3.out.cells;clear hv hb;go_wp2
    first
     |(refine bodyPost_ret (v:= .agg #[.bool false,.slice a3 n3 c3,.int .i64 (e-64)]) ?_ rfl ?_;focus (simp [results,Tryz.results199,go_sem,p0,p1,p2];done))
     |(refine bodyPost_ret (v:= .agg #[.bool true,.slice a3 n3 c3,.int .i64 (e-64)]) ?_ rfl ?_;focus (simp [results,Tryz.results199,go_sem,p0,p1,p2];done))
    exact⟨_,rfl,⟨.slice a3 n3 c3,rfl,by rw[HMM.out];exact HV3.out.setD HX3.out⟩,cJ (af ((br0.alloc le0 _).alloc (by simp) _) le0 HB3.out) (by simp) _ _ _⟩
