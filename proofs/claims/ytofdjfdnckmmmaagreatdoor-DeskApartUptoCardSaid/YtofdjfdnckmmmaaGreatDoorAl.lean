import Derived.Test.YtofdjfdnckmmmaaGreatDoorBd
import Derived.Deep.RegionHeld3
set_option linter.all false
set_option maxHeartbeats 8000000
set_option maxRecDepth 100000
open Go.Proofs.Tryz
open Go.Lib (hid)
namespace Go.Proofs.YtofdjfdnckmmmaaGreatDoor
open Go.RowKit Nt Fm
def VK (w:World) (a b:Nat) (x:Int) (e:Ending) (w':World):Prop:= ∃va vb,e=.returned (.tuple #[va,vb,.int .i64 x])/\NV w' va a/\NV w' vb b/\Below w.heap.size w w'
theorem Mm (vc vd:Value) (c d:D) (k0:Nat) (w:World) (hc:DV w vc c) (hd:DV w vd d) (hcm:c.m<2^k0) (hdm:d.m<2^k0) (hk0:k0<=16000000000000) (ec0: -16000000000000<=c.e) (ec1:c.e<=16000000000000) (ed0: -16000000000000<=d.e) (ed1:d.e<=16000000000000):
  Calls prog 210 #[vc,vd] w (VK w (c.m*2^(c.e-min c.e d.e).toNat) (d.m*2^(d.e-min c.e d.e).toNat) (min c.e d.e)):=by
 obtain⟨gc,mc,xc⟩:=c;obtain⟨gd,md,xd⟩:=d;obtain⟨sc,rfl,hsc⟩:=hc;obtain⟨sd,rfl,hsd⟩:=hd;simp only at *;obtain⟨ac,nc,cc,rfl⟩:=hsc.shape;obtain⟨ad,nd,cd,rfl⟩:=hsd.shape
 obtain⟨nx,ny,X,hX,h1,h2,hcase⟩:∃(nx ny:Nat) (X:Int),X=min xc xd/\nx=(xc-min xc xd).toNat/\ny=(xd-min xc xd).toNat/\((xd<xc/\X=xd/\xc-xd=nx/\xd-xd=(ny:Int))\/(xc<=xd/\X=xc/\xc-xc=(nx:Int)/\xd-xc=ny)):=
  ⟨_,_,_,rfl,rfl,rfl,by omega⟩
 rw[<-h1,<-h2,<-hX];have HSC:=hid hsc;have HSD:=hid hsd;have HCM:=hid hcm;have HDM:=hid hdm;have nb:nx<=32000000000000/\ny<=32000000000000:=by omega
 obtain⟨nb1,nb2⟩:=nb;clear hsc hsd hcm hdm hX h1 h2;rcases hcase with⟨h,hx,h1,h2⟩|⟨h,hx,h1,h2⟩
 all_goals
  have H1:=hid h1;have H2:=hid h2;have HX:=hid hx;clear h1 h2 hx;go_enter func210,ntmps210;go_wp2_with fail
  have BC:=hid (((ax.new w (.bool gc) (.slice ac nc cc) (.int .i64 xc) 68).alloc (.cells #[.bool gd,.slice ad nd cd,.int .i64 xd] 68)).drew);have BD0:=ax.new (w.alloc (.cells #[.bool gc,.slice ac nc cc,.int .i64 xc] 68)) (.bool gd) (.slice ad nd cd) (.int .i64 xd) 68;rw[size_alloc]at BD0;have BD:=hid BD0.drew;clear BD0;have B0:=hid ((((Below.refl w.heap.size w).alloc le0 (.cells #[.bool gc,.slice ac nc cc,.int .i64 xc] 68)).alloc (by simp) (.cells #[.bool gd,.slice ad nd cd,.int .i64 xd] 68)).drew)
  go_region_held3 (fun w'=>w'.cell? ⟨w.heap.size,1,none⟩=some (.slice ac nc cc)/\w'.cell? ⟨w.heap.size,2,none⟩=some (.int .i64 xc)/\w'.cell? ⟨w.heap.size+1,1,none⟩=some (.slice ad nd cd)/\w'.cell? ⟨w.heap.size+1,2,none⟩=some (.int .i64 xd))
   (first
    |go_keep
    |(obtain⟨p0,p1,p2,-,-,-⟩:=(ax.below BC.out hb1).cells
      obtain⟨r0,r1,r2,-,-,-⟩:=(ax.below BD.out hb1).cells;exact⟨p1,p2,r1,r2⟩)
    |(obtain⟨p0,p1,p2,-,-,-⟩:=(ax.below (ax.below BC.out HB1.out) hb2).cells
      obtain⟨r0,r1,r2,-,-,-⟩:=(ax.below (ax.below BD.out HB1.out) hb2).cells;exact⟨p1,p2,r1,r2⟩))
   (first
    |(go_at_call_of 98 (Value.slice ac nc cc);refine(f_ (.slice ac nc cc) mc nx k0 _ _ (HSC.out.below B0.out) (by first|exact H1.out|(rw[IntWalk.i64_in _ (by omega)];have :=H1.out;omega)) HCM.out (by omega) (by omega)).mono ?_;rintro r w1 ⟨v1,rfl,hv1,hb1⟩;have HB1:=hid hb1;have HV1:=hid hv1;have B1:=bt0 B0 hb1)
    |(go_at_call_of 98 (Value.slice ad nd cd);refine(f_ (.slice ad nd cd) md ny k0 _ _ (HSD.out.below B1.out) (by first|exact H2.out|(rw[IntWalk.i64_in _ (by omega)];have :=H2.out;omega)) HDM.out (by omega) (by omega)).mono ?_;rintro r w2 ⟨v2,rfl,hv2,hb2⟩;have HB2:=hid hb2;have HV2:=hid hv2))
  clear hb1 hb2 hv1 hv2;go_wp2;go_ret3;exact⟨v1,v2,by rw[HX.out];rfl,HV1.out.below HB2.out,HV2.out,af B1.out le0 HB2.out⟩
theorem KH {m k i j:Nat}(h:m<2^k) (hi:i<=j):m*2^i<2^(k+j):=by
 rw[aB]
 calc m*2^i<2^k*2^i:=cS h (az _)
  _<=2^k*2^j:=cZ _ (aG (by decide) hi)
theorem pW (vc vd:Value) (c d:D) (k0:Nat) (w:World) (hT:aQ w) (hc:DV w vc c) (hd:DV w vd d) (hcm:c.m<2^k0) (hdm:d.m<2^k0) (hk0:k0<=16000000000000) (ec0: -16000000000000<=c.e) (ec1:c.e<=16000000000000) (ed0: -16000000000000<=d.e) (ed1:d.e<=16000000000000):
  Calls prog 194 #[vc,vd] w (iR w (plus c d)):=by
 have hal:=fun w1 h1 h2=>Mm vc vd c d k0 w1 h1 h2 hcm hdm hk0 ec0 ec1 ed0 ed1
 have hc':=hc;have hd':=hd
 obtain⟨k1,hk1,ha,hb,hab⟩:∃k1,k1<=52000000000000/\c.m*2^(c.e-min c.e d.e).toNat<2^k1/\d.m*2^(d.e-min c.e d.e).toNat<2^k1/\c.m*2^(c.e-min c.e d.e).toNat+d.m*2^(d.e-min c.e d.e).toNat<2^(k1+1):=by
  have a1:=KH hcm (show(c.e-min c.e d.e).toNat<=32000000000000 by omega);have a2:=KH hdm (show(d.e-min c.e d.e).toNat<=32000000000000 by omega);obtain⟨q,hq⟩:∃q,q=k0+32000000000000:=⟨_,rfl⟩;rw[<-hq]at a1 a2;refine⟨q,by omega,a1,a2,?_⟩;rw[bH];omega
 have e1:=fun h=> @T7 c d h
 have e2:=fun h=> @SL c d h
 have e3:=fun h=> @Ta c d _ _ _ rfl rfl rfl h
 have e4:=fun h=> @O9 c d _ _ _ rfl rfl rfl h
 have e5:=fun h=> @O7 c d _ _ _ rfl rfl rfl h
 have hx: -16000000000000<=min c.e d.e/\min c.e d.e<=16000000000000:=by omega
 generalize plus c d=S at *;generalize c.m*2^(c.e-min c.e d.e).toNat=a at *;generalize d.m*2^(d.e-min c.e d.e).toNat=b at *;generalize min c.e d.e=x at *;obtain⟨hx0,hx1⟩:=hx;obtain⟨gc,mc,xc⟩:=c;obtain⟨gd,md,xd⟩:=d;obtain⟨sc,rfl,hsc⟩:=hc;obtain⟨sd,rfl,hsd⟩:=hd;simp only at *;obtain⟨ac,nc,cc,rfl,lc1,lc2,lcz⟩:=fD hsc;obtain⟨ad,nd,cd,rfl,ld1,ld2,ldz⟩:=fD hsd;have HT:=hid hT;have HSC:=hid hsc;have HSD:=hid hsd;have HCM:=hid hcm;have HDM:=hid hdm;have HAL:=hid hal;have HC:=hid hc';have HD:=hid hd';have HA:=hid ha;have HB:=hid hb;have HAB:=hid hab;clear hT hsc hsd hcm hdm hal hc' hd' ha hb hab;rcases lcz with⟨hz,hn⟩|⟨hz,hn⟩
 .have E:=hid (e1 hz)
  have hn0:((nc:Int)==0)=true:=by rw[dV];omega
  clear e1 e2 e3 e4 e5 hz ldz;go_enter func194,ntmps194;go_wp2_with fail
  refine(iU gd _ md k0 xd _ (HT.out.below (ff _ _ _ _)) (HSD.out.below (ff _ _ _ _)) HDM.out (by omega) (by omega) (by omega)).mono ?_;rintro r w1 ⟨v,rfl,⟨s,rfl,hv⟩,hb⟩;obtain⟨a1,n1,c1,rfl⟩:=hv.shape;rw[E.out]at hv ⊢;have HX:=hid ((ax.new3 w _ _ _ _ _ _).below hb);have HB1:=hid (af (ff w _ _ _) le0 hb);obtain⟨q0,q1,q2,f0,f1,f2⟩:=HX.out.cells;have HV:=hid hv;clear hv hb;go_wp2;refine bodyPost_ret (v:= .agg #[.bool S.neg,.slice a1 n1 c1,.int .i64 S.e]) (by simp [results,Tryz.results194,go_sem,q0,q1,q2]) rfl ?_;exact⟨_,rfl,⟨.slice a1 n1 c1,rfl,HV.out.setD HX.out⟩,cJ HB1.out (by omega) _ _ _⟩
 .have hn0:((nc:Int)==0)=false:=by rw[aH];omega
  rcases ldz with⟨hz2,hn2⟩|⟨hz2,hn2⟩
  .have hn3:((nd:Int)==0)=true:=by rw[dV];omega
   have E:=hid (e2 hz2);clear e1 e2 e3 e4 e5 hz hz2;go_enter func194,ntmps194;go_wp2_with fail
   refine(iU gc _ mc k0 xc _ (HT.out.below (ff _ _ _ _)) (HSC.out.below (ff _ _ _ _)) HCM.out (by omega) (by omega) (by omega)).mono ?_;rintro r w1 ⟨v,rfl,⟨s,rfl,hv⟩,hb⟩;obtain⟨a1,n1,c1,rfl⟩:=hv.shape;rw[E.out]at hv ⊢;have HX:=hid ((ax.new3 w _ _ _ _ _ _).below hb);have HB1:=hid (af (ff w _ _ _) le0 hb);obtain⟨q0,q1,q2,f0,f1,f2⟩:=HX.out.cells;have HV:=hid hv;clear hv hb;go_wp2;refine bodyPost_ret (v:= .agg #[.bool S.neg,.slice a1 n1 c1,.int .i64 S.e]) (by simp [results,Tryz.results194,go_sem,q0,q1,q2]) rfl ?_;exact⟨_,rfl,⟨.slice a1 n1 c1,rfl,HV.out.setD HX.out⟩,cJ HB1.out (by omega) _ _ _⟩
  .have hn3:((nd:Int)==0)=false:=by rw[aH];omega
   by_cases hs:gc=gd
   .have E:=hid (e3 hs)
    clear e1 e2 e3 e4 e5 hz hz2;subst hs;have hgg:(gc==gc)=true:=by simp
    go_enter func194,ntmps194;go_wp2_with fail
    refine(HAL.out _ (HC.out.below (ff _ _ _ _)) (HD.out.below (ff _ _ _ _))).mono ?_;rintro r w1 ⟨va,vb,rfl,hva,hvb,hb⟩;obtain⟨aa,na,ca,rfl⟩:=hva.shape;obtain⟨ab,nb,cb,rfl⟩:=hvb.shape;have B1:=hid (af (ff w _ _ _) le0 hb);have XC:=hid (((ax.new w _ _ _ _).alloc _ |>.alloc _).below hb);have XD:=hid (((ax.new2 w _ _ _ _ _).alloc _).below hb);have XR:=hid ((ax.new3 w _ _ _ _ _ _).below hb);have VA:=hid hva;have VB:=hid hvb;obtain⟨q0,q1,q2,f0,f1,f2⟩:=XC.out.cells;obtain⟨r0,r1,r2,k0',k1',k2'⟩:=XD.out.cells;clear hva hvb hb;have B1d:=hid B1.out.drew;go_wp2
    go_region_with (first
     |(go_at_call 103;refine(gN _ _ a b k1 _ VA.out.drew VB.out.drew HA.out HB.out (by omega)).mono ?_;rintro r w2 ⟨v2,rfl,hv,hb⟩;obtain⟨a2,n2,c2,rfl⟩:=hv.shape;have HV2:=hid hv;have B2:=bt0 B1d hb;have X2:=hid (XC.out.drew.below hb);have Y2:=hid (XD.out.drew.below hb);have Z2:=hid (XR.out.drew.below hb);obtain⟨q0,q1,q2,f0,f1,f2⟩:=X2.out.cells;obtain⟨r0,r1,r2,k0',k1',k2'⟩:=Y2.out.cells;clear hv hb)
     |(go_at_call 62;refine(iU gc _ _ (k1+1) x _ (HT.out.below B2.out) HV2.out HAB.out (by omega) (by omega) (by omega)).mono ?_;rintro r w3 ⟨v3,rfl,⟨s3,rfl,hv⟩,hb⟩;obtain⟨a3,n3,c3,rfl⟩:=hv.shape;rw[E.out]at hv ⊢;have HV3:=hid hv;have B3:=bt0 B2 hb;have Z3:=hid (Z2.out.below hb);obtain⟨p0,p1,p2,g0,g1,g2⟩:=Z3.out.cells;clear hv hb))
    all_goals
     go_wp2;refine bodyPost_ret (v:= .agg #[.bool S.neg,.slice a3 n3 c3,.int .i64 S.e]) (by simp [results,Tryz.results194,go_sem,p0,p1,p2]) rfl ?_;exact⟨_,rfl,⟨.slice a3 n3 c3,rfl,HV3.out.setD Z3.out⟩,cJ B3.out (by omega) _ _ _⟩
   .have hss:(gc=false/\gd=true)\/(gc=true/\gd=false):=by cases gc <;> cases gd <;> simp at hs ⊢
    have hcmp0:=fun va vb w1 h1 h2=>jF va vb a b w1 h1 h2
    by_cases hle:b<=a
    .obtain⟨K,hK,hK0⟩:∃K,K=aK (a:Int) (b:Int)/\0<=K:=⟨_,rfl,by unfold aK;split <;> (try split) <;> omega⟩
     rw[<-hK]at hcmp0;have HCMP:=hid hcmp0;have HLE:=hid hle;have HSUB:=hid (show a-b<2^k1 by have :=HA.out;omega);clear hcmp0 hK;rcases hss with⟨rfl,rfl⟩|⟨rfl,rfl⟩
     all_goals
      have E:=hid (e4 hs HLE.out);clear e1 e2 e3 e4 e5 hz hz2 hs hle;go_enter func194,ntmps194;go_wp2_with fail
      refine(HAL.out _ (HC.out.below (ff _ _ _ _)) (HD.out.below (ff _ _ _ _))).mono ?_;rintro r w1 ⟨va,vb,rfl,hva,hvb,hb⟩;obtain⟨aa,na,ca,rfl⟩:=hva.shape;obtain⟨ab,nb,cb,rfl⟩:=hvb.shape;have B1:=hid (af (ff w _ _ _) le0 hb);have XC:=hid (((ax.new w _ _ _ _).alloc _ |>.alloc _).below hb);have XD:=hid (((ax.new2 w _ _ _ _ _).alloc _).below hb);have XR:=hid ((ax.new3 w _ _ _ _ _ _).below hb);have VA:=hid hva;have VB:=hid hvb;obtain⟨q0,q1,q2,f0,f1,f2⟩:=XC.out.cells;obtain⟨r0,r1,r2,k0',k1',k2'⟩:=XD.out.cells;clear hva hvb hb;go_wp2_with (go_at_call 101;refine(HCMP.out _ _ _ VA.out VB.out).mono ?_;rintro r w' ⟨rfl,nw,rfl⟩)
      have B1e:=hid (Below.drew (dh (n:=nw) B1.out))
      go_region_with (first
       |(go_at_call 100;refine(re _ _ a b k1 _ (VA.out.drewN nw).drew (VB.out.drewN nw).drew HLE.out HA.out (by omega)).mono ?_;rintro r w2 ⟨v2,rfl,hv,hb⟩;obtain⟨a2,n2,c2,rfl⟩:=hv.shape;have HV2:=hid hv;have B2:=bt0 B1e hb;have X2:=hid ((XC.out.drewN nw).drew.below hb);have Y2:=hid ((XD.out.drewN nw).drew.below hb);have Z2:=hid ((XR.out.drewN nw).drew.below hb);obtain⟨q0,q1,q2,f0,f1,f2⟩:=X2.out.cells;obtain⟨r0,r1,r2,k0',k1',k2'⟩:=Y2.out.cells;clear hv hb)
       |(go_at_call 62;refine(iU _ _ _ k1 x _ (HT.out.below B2.out) HV2.out HSUB.out (by omega) (by omega) (by omega)).mono ?_;rintro r w3 ⟨v3,rfl,⟨s3,rfl,hv⟩,hb⟩;obtain⟨a3,n3,c3,rfl⟩:=hv.shape;rw[E.out]at hv ⊢;have HV3:=hid hv;have B3:=bt0 B2 hb;have Z3:=hid (Z2.out.below hb);obtain⟨p0,p1,p2,g0,g1,g2⟩:=Z3.out.cells;clear hv hb))
      all_goals
       go_wp2;refine bodyPost_ret (v:= .agg #[.bool S.neg,.slice a3 n3 c3,.int .i64 S.e]) (by simp [results,Tryz.results194,go_sem,p0,p1,p2]) rfl ?_;exact⟨_,rfl,⟨.slice a3 n3 c3,rfl,HV3.out.setD Z3.out⟩,cJ B3.out (by omega) _ _ _⟩
    .obtain⟨K,hK,hK0⟩:∃K,K=aK (a:Int) (b:Int)/\K<0:=⟨_,rfl,by unfold aK;split <;> (try split) <;> omega⟩
     rw[<-hK]at hcmp0;have HCMP:=hid hcmp0;have HLE:=hid (show a<=b by omega);have HSUB:=hid (show b-a<2^k1 by have :=HB.out;omega);clear hcmp0 hK;rcases hss with⟨rfl,rfl⟩|⟨rfl,rfl⟩
     all_goals
      have E:=hid (e5 hs HLE.out);clear e1 e2 e3 e4 e5 hz hz2 hs hle;go_enter func194,ntmps194;go_wp2_with fail
      refine(HAL.out _ (HC.out.below (ff _ _ _ _)) (HD.out.below (ff _ _ _ _))).mono ?_;rintro r w1 ⟨va,vb,rfl,hva,hvb,hb⟩;obtain⟨aa,na,ca,rfl⟩:=hva.shape;obtain⟨ab,nb,cb,rfl⟩:=hvb.shape;have B1:=hid (af (ff w _ _ _) le0 hb);have XC:=hid (((ax.new w _ _ _ _).alloc _ |>.alloc _).below hb);have XD:=hid (((ax.new2 w _ _ _ _ _).alloc _).below hb);have XR:=hid ((ax.new3 w _ _ _ _ _ _).below hb);have VA:=hid hva;have VB:=hid hvb;obtain⟨q0,q1,q2,f0,f1,f2⟩:=XC.out.cells;obtain⟨r0,r1,r2,k0',k1',k2'⟩:=XD.out.cells;clear hva hvb hb;go_wp2_with (go_at_call 101;refine(HCMP.out _ _ _ VA.out VB.out).mono ?_;rintro r w' ⟨rfl,nw,rfl⟩)
      have B1e:=hid (Below.drew (dh (n:=nw) B1.out))
      go_region_with (first
       |(go_at_call 100;refine(re _ _ b a k1 _ (VB.out.drewN nw).drew (VA.out.drewN nw).drew HLE.out HB.out (by omega)).mono ?_;rintro r w2 ⟨v2,rfl,hv,hb⟩;obtain⟨a2,n2,c2,rfl⟩:=hv.shape;have HV2:=hid hv;have B2:=bt0 B1e hb;have X2:=hid ((XC.out.drewN nw).drew.below hb);have Y2:=hid ((XD.out.drewN nw).drew.below hb);have Z2:=hid ((XR.out.drewN nw).drew.below hb);obtain⟨q0,q1,q2,f0,f1,f2⟩:=X2.out.cells;obtain⟨r0,r1,r2,k0',k1',k2'⟩:=Y2.out.cells;clear hv hb)
       |(go_at_call 62;refine(iU _ _ _ k1 x _ (HT.out.below B2.out) HV2.out HSUB.out (by omega) (by omega) (by omega)).mono ?_;rintro r w3 ⟨v3,rfl,⟨s3,rfl,hv⟩,hb⟩;obtain⟨a3,n3,c3,rfl⟩:=hv.shape;rw[E.out]at hv ⊢;have HV3:=hid hv;have B3:=bt0 B2 hb;have Z3:=hid (Z2.out.below hb);obtain⟨p0,p1,p2,g0,g1,g2⟩:=Z3.out.cells;clear hv hb))
      all_goals
       go_wp2;refine bodyPost_ret (v:= .agg #[.bool S.neg,.slice a3 n3 c3,.int .i64 S.e]) (by simp [results,Tryz.results194,go_sem,p0,p1,p2]) rfl ?_;exact⟨_,rfl,⟨.slice a3 n3 c3,rfl,HV3.out.setD Z3.out⟩,cJ B3.out (by omega) _ _ _⟩
theorem PM (vc vd:Value) (c d:D) (k0:Nat) (w:World) (hT:aQ w) (hc:DV w vc c) (hd:DV w vd d) (hcm:c.m<2^k0) (hdm:d.m<2^k0) (hk0:k0<=400000) (ec0: -400000<=c.e) (ec1:c.e<=400000) (ed0: -400000<=d.e) (ed1:d.e<=400000):
  Calls prog 227 #[vc,vd] w (iR w (times c d)):=by
 obtain⟨k1,hk1,hab⟩:∃k1,k1<=1300000/\c.m*d.m<2^k1:=by
  refine⟨k0+k0,by omega,?_⟩;rw[aB];exact Fu hcm hdm
 have e1:=JH c d;generalize times c d=S at *;obtain⟨gc,mc,xc⟩:=c;obtain⟨gd,md,xd⟩:=d;obtain⟨sc,rfl,hsc⟩:=hc;obtain⟨sd,rfl,hsd⟩:=hd;simp only at *;obtain⟨ac,nc,cc,rfl⟩:=hsc.shape;obtain⟨ad,nd,cd,rfl⟩:=hsd.shape;have HT:=hid hT;have HSC:=hid hsc;have HSD:=hid hsd;have HCM:=hid hcm;have HDM:=hid hdm;have HAB:=hid hab;have E:=hid e1;have HW:=hid (IntWalk.i64_in (xc+xd) (by omega));clear hT hsc hsd hcm hdm hab e1;go_enter func227,ntmps227;go_wp2_with fail
 have XC:=hid (((ax.new w (.bool gc) (.slice ac nc cc) (.int .i64 xc) 68).alloc (.cells #[.bool gd,.slice ad nd cd,.int .i64 xd] 68) |>.alloc (.cells #[.bool false,.slice none 0 0,.int .i64 0] 68)).drew);have XD:=hid (((ax.new2 w (.cells #[.bool gc,.slice ac nc cc,.int .i64 xc] 68) (.bool gd) (.slice ad nd cd) (.int .i64 xd) 68).alloc (.cells #[.bool false,.slice none 0 0,.int .i64 0] 68)).drew);have XR:=hid (ax.new3 w (.cells #[.bool gc,.slice ac nc cc,.int .i64 xc] 68) (.cells #[.bool gd,.slice ad nd cd,.int .i64 xd] 68) (.bool false) (.slice none 0 0) (.int .i64 0) 68).drew;have B0:=hid (ff w (.cells #[.bool gc,.slice ac nc cc,.int .i64 xc] 68) (.cells #[.bool gd,.slice ad nd cd,.int .i64 xd] 68) (.cells #[.bool false,.slice none 0 0,.int .i64 0] 68)).drew
 go_region_held3 (fun w'=>w'.cell? ⟨w.heap.size,0,none⟩=some (.bool gc)/\w'.cell? ⟨w.heap.size,1,none⟩=some (.slice ac nc cc)/\w'.cell? ⟨w.heap.size,2,none⟩=some (.int .i64 xc)/\w'.cell? ⟨w.heap.size+1,0,none⟩=some (.bool gd)/\w'.cell? ⟨w.heap.size+1,1,none⟩=some (.slice ad nd cd)/\w'.cell? ⟨w.heap.size+1,2,none⟩=some (.int .i64 xd))
  (first
   |(go_keep;done)
   |(obtain⟨p0,p1,p2,-,-,-⟩:=(XC.out.below hb1).cells
     obtain⟨r0,r1,r2,-,-,-⟩:=(XD.out.below hb1).cells;exact⟨p0,p1,p2,r0,r1,r2⟩)
   |(obtain⟨p0,p1,p2,-,-,-⟩:=((XC.out.below HB1.out).below hb2).cells
     obtain⟨r0,r1,r2,-,-,-⟩:=((XD.out.below HB1.out).below hb2).cells;exact⟨p0,p1,p2,r0,r1,r2⟩)
   |(obtain⟨p0,p1,p2,-,-,-⟩:=(((XC2.out.set (b':=w.heap.size+1+1) (o:=0) (by omega) _).set (b':=w.heap.size+1+1) (o:=1) (by omega) _).set (b':=w.heap.size+1+1) (o:=2) (by omega) _).cells
     obtain⟨r0,r1,r2,-,-,-⟩:=(((XD2.out.set (b':=w.heap.size+1+1) (o:=0) (by omega) _).set (b':=w.heap.size+1+1) (o:=1) (by omega) _).set (b':=w.heap.size+1+1) (o:=2) (by omega) _).cells;exact⟨p0,p1,p2,r0,r1,r2⟩))
  (first
   |(go_at_call 63;refine(kB (.slice ac nc cc) (.slice ad nd cd) mc md k0 _ (HSC.out.below B0.out) (HSD.out.below B0.out) HCM.out HDM.out (by omega)).mono ?_;rintro r w1 ⟨v1,rfl,hv1,hb1⟩;have HB1:=hid hb1;have HV1:=hid hv1;have B1:=bt0 B0 hb1)
   |(go_at_call 62;rw[HW.out];refine(iU (!(gc==gd)) v1 (mc*md) k1 (xc+xd) _ (HT.out.below B1.out) HV1.out HAB.out (by omega) (by omega) (by omega)).mono ?_;rintro r w2 ⟨v2,rfl,⟨s2,rfl,hv2⟩,hb2⟩;obtain⟨a2,n2,c2,rfl⟩:=hv2.shape;have E2:norm (!(gc==gd)) (mc*md) (xc+xd)=S:=E.out;rw[E2]at hv2 ⊢;have HB2:=hid hb2;have HV2:=hid hv2;have XC2:=hid ((XC.out.below HB1.out).below hb2);have XD2:=hid ((XD.out.below HB1.out).below hb2);have X2:=hid ((XR.out.below HB1.out).below hb2);obtain⟨s0,s1,s2,t0,t1,t2⟩:=X2.out.cells;have B2:=bt0 B1 hb2))
 clear hv1 hb1 hv2 hb2;go_wp2;refine bodyPost_ret (v:= .agg #[.bool S.neg,.slice a2 n2 c2,.int .i64 S.e]) (by simp [results,Tryz.results227,go_sem,s0,s1,s2]) rfl ?_;exact⟨_,rfl,⟨.slice a2 n2 c2,rfl,HV2.out.setD X2.out⟩,cJ B2.out (by omega) _ _ _⟩
