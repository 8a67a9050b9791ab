import Derived.Test.YtofdjfdnckmmmaaGreatDoorBm
set_option linter.all false
set_option maxHeartbeats 16000000
set_option maxRecDepth 100000
open Go.Proofs.Tryz
open Go.Lib (hid)
namespace Go.Proofs.YtofdjfdnckmmmaaGreatDoor
open Go.RowKit Nt Fm
theorem JO (neg lost:Bool) (vq:Value) (q k0:Nat) (x:Int) (w:World) (hq:NV w vq q) (hkq:q<2^k0) (hk0:k0<=900000) (x0: -4000000000000000000<=x) (x1:x<=4000000000000000000):
  Calls prog 108 #[.bool neg,vq,.bool lost,.int .i64 x] w (iR w ⟨neg,4*q+(if lost=true then 1 else 0),x-2⟩):=by
 obtain⟨m,hm⟩:∃m,m=4*q+(if lost=true then 1 else 0):=⟨_,rfl⟩;rw[<-hm];have HM:Hid (m=4*q+(if lost=true then 1 else 0)/\True):=hid ⟨hm,trivial⟩;clear hm;obtain⟨aq,nq,cq,rfl⟩:=hq.shape;have LE:=hid (fun w' (h:NV w' (.slice aq nq cq) q)=>f_ (.slice aq nq cq) q 2 k0 2 w' h rfl hkq (by omega) (by omega));have HQ:=hid hq;have K4:Hid (q*2^2<2^(k0+2)/\True):=hid ⟨by rw[aB];exact cS hkq (by decide),trivial⟩;have K1:Hid (1<2^(k0+2)/\True):=hid ⟨Oy (by omega),trivial⟩;have E4:Hid (q*2^2=4*q/\True):=hid ⟨by omega,trivial⟩;clear hq hkq;go_enter func108,ntmps108;go_wp2_with fail
 refine(LE.out _ (HQ.out.alloc _)).mono ?_;rintro r w1 ⟨v1,rfl,h1,hb⟩;obtain⟨a1,n1,c1,rfl⟩:=h1.shape;have Z1:=hid ((ax.new w (.bool false) (.slice none 0 0) (.int .i64 0) 68).below hb);have B1:=hid (af ((Below.refl w.heap.size w).alloc le0 _) le0 hb);have V1:=hid h1;clear h1 hb;cases lost
 .obtain⟨s0,s1,s2,t0,t1,t2⟩:=Z1.out.cells
  have hB:=B1.out.size;go_wp2;refine bodyPost_ret (v:= .agg #[.bool neg,.slice a1 n1 c1,.int .i64 (x-2)]) (by simp [results,Tryz.results108,go_sem,s0,s1,s2]) rfl ?_;refine⟨_,rfl,⟨_,rfl,?_⟩,cJ B1.out le0 _ _ _⟩;have :=V1.out.setD Z1.out (g':=neg) (ao':=a1) (n':=n1) (c':=c1) (e':=x-2);rw[E4.out.1]at this;rw[HM.out.1];simpa using this
 .go_wp2_with fail
  refine(dU 1 (by decide) (by decide) _).mono ?_;rintro r w2 ⟨v2,rfl,h2,hb⟩;have V2:=hid h2;have V1':=hid (V1.out.below hb);have Z2:=hid (Z1.out.below hb);have B2:=bt0 B1 hb;clear h2 hb;go_wp2_with fail
  refine(gN _ _ (q*2^2) 1 (k0+2) _ V1'.out V2.out K4.out.1 K1.out.1 (by omega)).mono ?_;rintro r w3 ⟨v3,rfl,h3,hb⟩;obtain⟨a3,n3,c3,rfl⟩:=h3.shape;have V3:=hid h3;have Z3:=hid (Z2.out.below hb);have B3:=bt0 B2 hb;clear h3 hb;obtain⟨s0,s1,s2,t0,t1,t2⟩:=Z3.out.cells;have hB:=B3.out.size;go_wp2;refine bodyPost_ret (v:= .agg #[.bool neg,.slice a3 n3 c3,.int .i64 (x-2)]) (by simp [results,Tryz.results108,go_sem,s0,s1,s2]) rfl ?_;refine⟨_,rfl,⟨_,rfl,?_⟩,cJ B3.out le0 _ _ _⟩;have :=V3.out.setD Z3.out (g':=neg) (ao':=a3) (n':=n3) (c':=c3) (e':=x-2);rw[E4.out.1]at this;rw[HM.out.1];simpa using this
theorem NY (vc vd:Value) (c d:D) (k0:Nat) (w:World) (hc:DV w vc c) (hd:DV w vd d) (hcm:c.m<2^k0) (hdm:d.m<2^k0) (hd0:d.m≠0) (hk0:k0<=100000) (ec0: -400000<=c.e) (ec1:c.e<=400000) (ed0: -400000<=d.e) (ed1:d.e<=400000):
  Calls prog 66 #[vc,vd] w (iR w (d' (c.neg !=d.neg) c.m d.m (c.e-d.e))):=by
 obtain⟨gc,mc,xc⟩:=c;obtain⟨gd,md,xd⟩:=d;obtain⟨sc,rfl,hsc⟩:=hc;obtain⟨sd,rfl,hsd⟩:=hd;simp only at *;obtain⟨ac,nc,cc,rfl⟩:=hsc.shape;obtain⟨ad,nd,cd,rfl⟩:=hsd.shape;obtain⟨lc,hlc⟩:∃lc,lc=aC mc:=⟨_,rfl⟩;obtain⟨ld,hld⟩:∃ld,ld=aC md:=⟨_,rfl⟩;have blc:lc<=k0:=by rw[hlc];exact Dy hcm
 have bld:ld<=k0:=by rw[hld];exact Dy hdm
 obtain⟨k,hk⟩:∃k,k=qk mc md:=⟨_,rfl⟩;have ek:k=80+ld-lc:=by rw[hk,hlc,hld];rfl
 have EK:Hid (k=80+ld-lc/\True):=hid ⟨ek,trivial⟩;have ek1:k<=100080:=by omega
 clear ek;have LC:=hid (fun w' h=>lx (.slice ac nc cc) mc k0 w' h hcm (by omega));have LD:=hid (fun w' h=>lx (.slice ad nd cd) md k0 w' h hdm (by omega));rw[<-hlc]at LC;rw[<-hld]at LD;have LE:=hid (fun w' x (h:NV w' (.slice ac nc cc) mc) (hx:x=(k:Int))=>f_ (.slice ac nc cc) mc k k0 x w' h hx hcm (by omega) (by omega));have hC:mc*2^k<2^(k0+k):=by rw[aB];exact cS hcm (az _)
 have OV:=hid (fun va w' (ha:NV w' va (mc*2^k)) (hb:NV w' (.slice ad nd cd) md)=>pV va _ _ md (k0+k) w' ha hb (by omega) hC (by omega));have ST:=hid (fun neg lost vq x w' (h:NV w' vq (mc*2^k/md))=>JO neg lost vq _ (k0+k) x w' h (de (iG _ _) hC) (by omega));have ER:Hid (d' (gc !=gd) mc md (xc-xd)=⟨gc !=gd,4*(mc*2^k/md)+Fm.mark (mc*2^k%md),xc-xd-k-2⟩/\True):=hid ⟨by rw[hk];rfl,trivial⟩;rw[ER.out.1];generalize mc*2^k/md=q at *;generalize mc*2^k%md=r at *;have HSC:=hid hsc;have HSD:=hid hsd;clear ER hsc hsd hC hcm hdm hd0 hlc hld hk;go_enter func66,ntmps66;go_wp2_with fail
 obtain⟨V,hV⟩:∃V,V=(((w.alloc (.cells #[.bool gc,.slice ac nc cc,.int .i64 xc] 68)).alloc (.cells #[.bool gd,.slice ad nd cd,.int .i64 xd] 68)).alloc (.cells #[.bool false,.slice none 0 0,.int .i64 0] 68)):=⟨_,rfl⟩;have XC:Hid (ax V w.heap.size 68 (.bool gc) (.slice ac nc cc) (.int .i64 xc)):=hid (by rw[hV];exact((ax.new w (.bool gc) (.slice ac nc cc) (.int .i64 xc) 68).alloc (.cells #[.bool gd,.slice ad nd cd,.int .i64 xd] 68) |>.alloc (.cells #[.bool false,.slice none 0 0,.int .i64 0] 68)));have XD:Hid (ax V (w.heap.size+1) 68 (.bool gd) (.slice ad nd cd) (.int .i64 xd)):=hid (by rw[hV];exact((ax.new2 w (.cells #[.bool gc,.slice ac nc cc,.int .i64 xc] 68) (.bool gd) (.slice ad nd cd) (.int .i64 xd) 68).alloc (.cells #[.bool false,.slice none 0 0,.int .i64 0] 68)));have XR:Hid (ax V (w.heap.size+1+1) 68 (.bool false) (.slice none 0 0) (.int .i64 0)):=hid (by rw[hV];exact(ax.new3 w (.cells #[.bool gc,.slice ac nc cc,.int .i64 xc] 68) (.cells #[.bool gd,.slice ad nd cd,.int .i64 xd] 68) (.bool false) (.slice none 0 0) (.int .i64 0) 68));have B0:Hid (Below w.heap.size w V):=hid (by rw[hV];exact ff w (.cells #[.bool gc,.slice ac nc cc,.int .i64 xc] 68) (.cells #[.bool gd,.slice ad nd cd,.int .i64 xd] 68) (.cells #[.bool false,.slice none 0 0,.int .i64 0] 68));rw[<-hV];clear hV;obtain⟨p0,p1,p2,-,-,-⟩:=XC.out.drew.cells;obtain⟨r0,r1,r2,-,-,-⟩:=XD.out.drew.cells
 go_region_held3 (fun w'=>w'.cell? ⟨w.heap.size,0,none⟩=some (.bool gc)/\w'.cell? ⟨w.heap.size,1,none⟩=some (.slice ac nc cc)/\w'.cell? ⟨w.heap.size,2,none⟩=some (.int .i64 xc)/\w'.cell? ⟨w.heap.size+1,0,none⟩=some (.bool gd)/\w'.cell? ⟨w.heap.size+1,1,none⟩=some (.slice ad nd cd)/\w'.cell? ⟨w.heap.size+1,2,none⟩=some (.int .i64 xd))
  (first
   |(go_keep;done)
   |exact⟨p0,p1,p2,r0,r1,r2⟩)
  (first
  |(go_at_call_of 59 (Value.slice ac nc cc);refine(LC.out _ (HSC.out.below B0.out.drew)).mono ?_;rintro e w' ⟨rfl,rfl⟩)
  |(go_at_call_of 59 (Value.slice ad nd cd);refine(LD.out _ (HSD.out.below B0.out.drew)).mono ?_;rintro e w' ⟨rfl,rfl⟩))
 have ek:=EK.out.1
 have ekz:max 0 (IntKind.i64.wrap (IntKind.i64.wrap (80+(ld:Int))-(lc:Int)))=(k:Int):=by
  rw[IntWalk.i64_in (80+(ld:Int)) (by omega),IntWalk.i64_in _ (by omega)];omega
 rw[ekz];clear ekz ek p0 p1 p2 r0 r1 r2;go_wp2_with fail
 obtain⟨p0,p1,p2,-,-,-⟩:=XC.out.drew.drew.cells;obtain⟨r0,r1,r2,-,-,-⟩:=XD.out.drew.drew.cells
 go_region_held3 (fun w'=>w'.cell? ⟨w.heap.size,0,none⟩=some (.bool gc)/\w'.cell? ⟨w.heap.size,1,none⟩=some (.slice ac nc cc)/\w'.cell? ⟨w.heap.size,2,none⟩=some (.int .i64 xc)/\w'.cell? ⟨w.heap.size+1,0,none⟩=some (.bool gd)/\w'.cell? ⟨w.heap.size+1,1,none⟩=some (.slice ad nd cd)/\w'.cell? ⟨w.heap.size+1,2,none⟩=some (.int .i64 xd))
  (first
   |with_reducible exact⟨p0,p1,p2,r0,r1,r2⟩
   |(obtain⟨p0,p1,p2,-,-,-⟩:=(XC.out.drew.drew.below hb1).cells
     obtain⟨r0,r1,r2,-,-,-⟩:=(XD.out.drew.drew.below hb1).cells;exact⟨p0,p1,p2,r0,r1,r2⟩)
   |(obtain⟨p0,p1,p2,-,-,-⟩:=((XC.out.drew.drew.below HB1.out).below hb2).cells
     obtain⟨r0,r1,r2,-,-,-⟩:=((XD.out.drew.drew.below HB1.out).below hb2).cells;exact⟨p0,p1,p2,r0,r1,r2⟩)
   |(go_keep;done))
  (first
  |(go_at_call 98;refine(LE.out _ _ (HSC.out.below B0.out.drew.drew) rfl).mono ?_;rintro r w1 ⟨v1,rfl,hv1,hb1⟩;have HB1:=hid hb1;have HV1:=hid hv1;have B1:=hid (af B0.out.drew.drew le0 hb1))
  |(go_at_call 107;refine(OV.out _ _ HV1.out (HSD.out.below B1.out)).mono ?_;rintro r w2 ⟨v2,v3,rfl,hv2,hv3,hb2⟩;obtain⟨a3,n3,c3,rfl,l1,l2,lz⟩:=fD hv3;have HB2:=hid hb2;have HV2:=hid hv2;have HV3:=hid hv3;have B2:=bt0 B1 hb2))
 clear hv1 hb1 hv2 hv3 hb2 p0 p1 p2 r0 r1 r2;have C2:=hid ((XC.out.drew.drew.below HB1.out).below HB2.out);have D2:=hid ((XD.out.drew.drew.below HB1.out).below HB2.out);have R2:=hid ((XR.out.drew.drew.below HB1.out).below HB2.out);obtain⟨p0,p1,p2,-,-,-⟩:=C2.out.cells;obtain⟨r0,r1,r2,-,-,-⟩:=D2.out.cells
 have hmk:(r=0/\decide (0<n3)=false)\/(r≠0/\decide (0<n3)=true):=by
  rcases lz with⟨h1,h2⟩|⟨h1,h2⟩
  .exact Or.inl ⟨h1,by rw[jx];omega⟩
  .exact Or.inr ⟨h1,by rw[da];omega⟩
 obtain⟨bz,hbz⟩:∃bz,bz=decide (0<n3):=⟨_,rfl⟩;rw[<-hbz]at hmk
 have EM:Hid ((if bz=true then 1 else 0)=Fm.mark r/\True):=hid ⟨by
  unfold Fm.mark;rcases hmk with⟨h1,h2⟩|⟨h1,h2⟩ <;> rw[h2] <;> simp [h1],trivial⟩
 have ebz:decide (0<n3)=bz:=hbz.symm;clear lz hmk hbz;have SX:=hid (fun(gg:Bool)=>ST.out gg bz v2 (xc-xd-k) w2 HV2.out (by omega) (by omega));rw[EM.out.1]at SX;go_wp2_with fail
 refine(SX.out (!(gc==gd))).mono ?_;rintro rr w4 ⟨v4,rfl,⟨s4,rfl,h4⟩,hb4⟩;obtain⟨a4,n4,c4,rfl⟩:=h4.shape;have R4:=hid (R2.out.below hb4);have H4:=hid h4;have B4:=bt0 B2 hb4;clear h4 hb4 p0 p1 p2 r0 r1 r2;obtain⟨s0,s1,s2,t0,t1,t2⟩:=R4.out.cells;have hB:=B4.out.size;go_wp2;refine bodyPost_ret (v:= .agg #[.bool (!(gc==gd)),.slice a4 n4 c4,.int .i64 (xc-xd-k-2)]) (by simp [results,Tryz.results66,go_sem,s0,s1,s2]) rfl ?_;exact⟨_,rfl,⟨_,rfl,H4.out.setD R4.out⟩,cJ B4.out (by omega) _ _ _⟩
theorem Yv (m:Nat):Fm.mark (m-bF m*bF m)=if(aK ((bF m*bF m:Nat):Int) (m:Int) !=0)=true then 1 else 0:=by
 have h:=(tT m).1;unfold Fm.mark aK;rcases eJ (bF m*bF m) m with h1|h1
 .rw[ag (by omega),aj (show((bF m*bF m:Nat):Int)<(m:Int) by omega)];rfl
 .have e:bF m*bF m=m:=by omega
  rw[e];simp
theorem Bi {x:Int}(h:x%2=0):x.tmod 2=0/\x.tdiv 2=x/2:=⟨Int.tmod_eq_zero_of_dvd (aj2 h),Int.tdiv_eq_ediv_of_dvd (aj2 h)⟩
theorem WD {x:Int}(h:x%2≠0):x.tmod 2≠0:=fun h2=>h (Int.emod_eq_zero_of_dvd (Int.dvd_of_tmod_eq_zero h2))
theorem Vt (vd:Value) (d:D) (k0:Nat) (w:World) (hd:DV w vd d) (hdm:d.m<2^k0) (hk0:k0<=100000) (ed0: -400000<=d.e) (ed1:d.e<=400000):
  Calls prog 196 #[vd] w (iR w (w_ (bF (d.m*2^rk d.e)) d.m d.e)):=by
 obtain⟨gd,md,xd⟩:=d;obtain⟨sd,rfl,hsd⟩:=hd;simp only at *;obtain⟨ad,nd,cd,rfl⟩:=hsd.shape;obtain⟨k,hk⟩:∃k,k=rk xd:=⟨_,rfl⟩
 have hk2:(k=160/\(Int.tmod (xd-160) 2 !=0)=false/\Int.tdiv (xd-160) 2=(xd-k)/2)\/(k=161/\(Int.tmod (xd-160) 2 !=0)=true/\Int.tdiv (xd-161) 2=(xd-k)/2):=by
  unfold rk at hk;split at hk
  .rename_i h
   refine Or.inl ⟨hk,?_,?_⟩
   .rw[Oz];exact(Bi h).1
   .rw[hk,(Bi h).2];rfl
  .rename_i h
   refine Or.inr ⟨hk,?_,?_⟩
   .rw[lZ];exact WD h
   .rw[hk,(Bi (show(xd-161)%2=0 by omega)).2];rfl
 rw[<-hk];have hC:md*2^k<2^(k0+k):=by rw[aB];exact cS hdm (az _)
 have hk161:k<=161:=by omega
 have ER:Hid (w_ (bF (md*2^k)) md xd=⟨false,4*bF (md*2^k)+(if(aK ((bF (md*2^k)*bF (md*2^k):Nat):Int) ((md*2^k:Nat):Int) !=0)=true then 1 else 0),(xd-k)/2-2⟩/\True):=hid ⟨by
  rw[<-Yv,hk];rfl,trivial⟩
 rw[ER.out.1];have hI:bF (md*2^k)<2^(k0+k):=aX (AN hC) (aG (by decide) (by omega));have LE:=hid (fun w' x (h:NV w' (.slice ad nd cd) md) (hx:x=(k:Int))=>f_ (.slice ad nd cd) md k k0 x w' h hx hdm (by omega) (by omega));have SQ:=hid (fun va w' (h:NV w' va (md*2^k))=>Wx va _ (k0+k) w' h hC (by omega));have TI:=hid (fun va w' (h:NV w' va (bF (md*2^k)))=>kB va va _ _ (k0+k) w' h h hI hI (by omega));have CM:=hid (fun va vb w' (h:NV w' va (bF (md*2^k)*bF (md*2^k))) (h2:NV w' vb (md*2^k))=>jF va vb _ _ w' h h2);have ST:=hid (fun lost vq x w' (h:NV w' vq (bF (md*2^k)))=>JO false lost vq _ (k0+k) x w' h hI (by omega));generalize aK ((bF (md*2^k)*bF (md*2^k):Nat):Int) ((md*2^k:Nat):Int)=sg at *;generalize bF (md*2^k)*bF (md*2^k)=sq at *;generalize bF (md*2^k)=r at *;generalize md*2^k=C at *;obtain⟨X,hX⟩:∃X,X=(xd-k)/2:=⟨_,rfl⟩;have bX: -400000<=X/\X<=400000:=by omega
 obtain⟨bX0,bX1⟩:=bX;obtain⟨Mq,hMq⟩:∃Mq,Mq=4*r+(if(sg !=0)=true then 1 else 0):=⟨_,rfl⟩;have EM:Hid (4*r+(if(sg !=0)=true then 1 else 0)=Mq/\True):=hid ⟨hMq.symm,trivial⟩;rw[EM.out.1,<-hX];rw[<-hX]at hk2;have SX:=hid (fun vq w' (h:NV w' vq r)=>ST.out (sg !=0) vq X w' h (by omega) (by omega));rw[EM.out.1]at SX;have HSD:=hid hsd;clear ER EM ST hMq hX hI hC hsd hdm hk;rcases hk2 with⟨rfl,m1,m2⟩|⟨rfl,m1,m2⟩
 all_goals
  go_enter func196,ntmps196;go_wp2_with fail
  refine(LE.out _ _ ((HSD.out.alloc _).alloc _) (by first|rfl|omega)).mono ?_;rintro e w1 ⟨v1,rfl,hv1,hb1⟩;have D1:=hid (((ax.new w (.bool gd) (.slice ad nd cd) (.int .i64 xd) 68).alloc (.cells #[.bool false,.slice none 0 0,.int .i64 0] 68)).below hb1);have R1:=hid ((ax.new2 w (.cells #[.bool gd,.slice ad nd cd,.int .i64 xd] 68) (.bool false) (.slice none 0 0) (.int .i64 0) 68).below hb1);have B1:=hid (af (gL w (.cells #[.bool gd,.slice ad nd cd,.int .i64 xd] 68) (.cells #[.bool false,.slice none 0 0,.int .i64 0] 68)) le0 hb1);have V1:=hid hv1;clear hv1 hb1;go_wp2_with fail
  refine(SQ.out _ _ V1.out).mono ?_;rintro e w2 ⟨v2,rfl,hv2,hb2⟩;have D2:=hid (D1.out.below hb2);have R2:=hid (R1.out.below hb2);have B2:=bt0 B1 hb2;have V2:=hid hv2;have V1':=hid (V1.out.below hb2);clear hv2 hb2;go_wp2_with fail
  obtain⟨p0,p1,p2,-,-,-⟩:=D2.out.drew.cells;have HW1:=hid (IntWalk.i64_in (xd-160) (by omega));have HW2:=hid (IntWalk.i64_in (xd-161) (by omega));have HW3:=hid (IntWalk.i64_in X (by omega));have M2:=hid m2;clear m1 m2
  go_region_held3 (fun w'=>w'.cell? ⟨w.heap.size,0,none⟩=some (.bool gd)/\w'.cell? ⟨w.heap.size,1,none⟩=some (.slice ad nd cd)/\w'.cell? ⟨w.heap.size,2,none⟩=some (.int .i64 xd))
   (first
    |with_reducible exact⟨p0,p1,p2⟩
    |(obtain⟨p0,p1,p2,-,-,-⟩:=(D2.out.drew.below hb3).cells
      exact⟨p0,p1,p2⟩)
    |(obtain⟨p0,p1,p2,-,-,-⟩:=((D2.out.drew.below HB3.out).drewN n4).cells
      exact⟨p0,p1,p2⟩)
    |(obtain⟨p0,p1,p2,-,-,-⟩:=(((D2.out.drew.below HB3.out).drewN n4).below hb5).cells
      exact⟨p0,p1,p2⟩)
    |(obtain⟨p0,p1,p2,-,-,-⟩:=(((D5.out.set (b':=w.heap.size+1) (o:=0) (by omega) _).set (b':=w.heap.size+1) (o:=1) (by omega) _).set (b':=w.heap.size+1) (o:=2) (by omega) _).cells
      exact⟨p0,p1,p2⟩)
    |(go_keep;done))
   (first
    |(go_at_call 63;refine(TI.out v2 _ V2.out.drew).mono ?_;rintro r w3 ⟨v3,rfl,hv3,hb3⟩;have HB3:=hid hb3;have HV3:=hid hv3;have B3:=hid (af B2.out.drew le0 hb3);have V1'':=hid (V1'.out.drew.below hb3);have V2'':=hid (V2.out.drew.below hb3))
    |(go_at_call 101;refine(CM.out v3 v1 _ HV3.out V1''.out).mono ?_;rintro r w4 ⟨rfl,n4,rfl⟩)
    |(go_at_call 108;(try rw[HW1.out]);(try rw[HW2.out]);(try rw[M2.out]);(try rw[HW3.out])
      refine(SX.out v2 _ (V2''.out.drewN n4)).mono ?_;rintro r w5 ⟨v5,rfl,⟨s5,rfl,hv5⟩,hb5⟩;obtain⟨a5,n5,c5,rfl⟩:=hv5.shape;have D5:=hid (((D2.out.drew.below HB3.out).drewN n4).below hb5);have X5:=hid (((R2.out.drew.below HB3.out).drewN n4).below hb5);obtain⟨s0,s1,s2,t0,t1,t2⟩:=X5.out.cells;have HV5:=hid hv5;have B5:=hid (af (dh B3.out) le0 hb5)))
  clear hv3 hb3 hv5 hb5;have hB:=B5.out.size;go_wp2;refine bodyPost_ret (v:= .agg #[.bool false,.slice a5 n5 c5,.int .i64 (X-2)]) (by simp [results,Tryz.results196,go_sem,s0,s1,s2]) rfl ?_;exact⟨_,rfl,⟨_,rfl,HV5.out.setD X5.out⟩,cJ B5.out (by omega) _ _ _⟩
open Go.RowKit Nt Fm Fl
theorem Py {m:Nat}(h:m<2^53):bl m<=53:=by
 rcases fl m with h0|h0
 .subst h0;decide
 .have h1:=oZ (show m≠0 by omega)
  have h2:=(lW (by decide:1<2)).1 (de h1 h);omega
theorem KK (r:Nat):Fm.mark r<=1:=Fm.Bn r
theorem VD {x y:Int}(x0:0<=x) (x1:x<=18446744073709551615) (y0:0<=y) (y1:y<=18446744073709551615) (hx:(ai x).m≠0) (hy:(ai y).m≠0):
  (iZ x y).m<2^190/\ -3000<=(iZ x y).e/\(iZ x y).e<=3000/\(iZ x y).m≠0:=by
 obtain⟨f1,f2,f3,f4,-⟩:=dR x x0 x1;obtain⟨g1,g2,g3,g4,-⟩:=dR y y0 y1;have e0:(iZ x y).m=4*((ai x).m*2^qk (ai x).m (ai y).m/(ai y).m)+Fm.mark ((ai x).m*2^qk (ai x).m (ai y).m%(ai y).m):=rfl;have e1:(iZ x y).e=(ai x).e-(ai y).e-qk (ai x).m (ai y).m-2:=rfl;have hb:=Ew hx hy;have hq:qk (ai x).m (ai y).m<=133:=by have :=Py g2;unfold qk;omega
 have hmk:=KK ((ai x).m*2^qk (ai x).m (ai y).m%(ai y).m)
 have hlt:(ai x).m*2^qk (ai x).m (ai y).m/(ai y).m<2^186:=by
  refine de (iG _ _) ?_;have h1:2^qk (ai x).m (ai y).m<=2^133:=aG (by decide) hq
  calc(ai x).m*2^qk (ai x).m (ai y).m<=(ai x).m*2^133:=cZ _ h1
   _<2^53*2^133:=cS f2 (by decide)
   _=2^186:=by rw[<-aB]
 generalize (ai x).m*2^qk (ai x).m (ai y).m/(ai y).m=q at *;rw[e0,e1];refine⟨?_,by omega,by omega,by omega⟩;have :(2:Nat)^190=16*2^186:=by decide
 omega
theorem O' {x:Int}(x0:0<=x) (x1:x<=18446744073709551615) (hx:(ai x).m≠0):
  (iW x).m<2^190/\ -3000<=(iW x).e/\(iW x).e<=3000/\(iW x).m≠0:=by
 obtain⟨f1,f2,f3,f4,-⟩:=dR x x0 x1;have hr:=tT ((ai x).m*2^rk (ai x).e);have hb:=UX hx hr;have e0:(iW x).m=4*bF ((ai x).m*2^rk (ai x).e)+Fm.mark ((ai x).m*2^rk (ai x).e-bF ((ai x).m*2^rk (ai x).e)*bF ((ai x).m*2^rk (ai x).e)):=rfl;have e1:(iW x).e=((ai x).e-rk (ai x).e)/2-2:=rfl;have hk:rk (ai x).e<=161:=by unfold rk;split <;> omega
 have hC:(ai x).m*2^rk (ai x).e<2^214:=by
  have h1:2^rk (ai x).e<=2^161:=aG (by decide) hk
  calc(ai x).m*2^rk (ai x).e<=(ai x).m*2^161:=cZ _ h1
   _<2^53*2^161:=cS f2 (by decide)
   _=2^214:=by rw[<-aB]
 have hI:=AN hC;have hmk:=KK ((ai x).m*2^rk (ai x).e-bF ((ai x).m*2^rk (ai x).e)*bF ((ai x).m*2^rk (ai x).e));rw[e0,e1];generalize bF ((ai x).m*2^rk (ai x).e)=q at *;refine⟨?_,by omega,by omega,by omega⟩;have h1:(2:Nat)^((214+1)/2)=2^107:=by decide
 have h2:(2:Nat)^190=2^83*2^107:=by decide
 omega
def Nc (a b s:Int):Int:=if a=5\/b=5\/(a=4/\b=4)\/(a=1/\b=1) then 9221120237041090560 else if a=4\/b=1 then 9218868437227405312+s else s
theorem Jk {a b:Int}{c d:Bool}{e:Int}(h:a=b) (k:c=d):Ending.returned (.tuple #[.int .u64 a,.bool c,.int .i64 e])=.returned (.tuple #[.int .u64 b,.bool d,.int .i64 e]):=by rw[h,k]
theorem Wz (x y mode:Int) (x0:0<=x) (x1:x<=18446744073709551615) (y0:0<=y) (y1:y<=18446744073709551615) (w:World) (hT:aQ w):
  Calls prog 148 #[.int .u64 x,.int .u64 y,.int .i64 mode] w fun e w'=>e=.returned (.tuple #[.int .u64 (pO x y mode),.bool (uG x y mode),.int .i64 (dv mode)])/\Below w.heap.size w w':=by
 cases hk:aD mode
 .obtain⟨e1,e2,e3⟩:= @Su x y mode hk
  rw[e1,e2,e3];clear e1 e2 e3 hT;go_enter func148,ntmps148;go_wp2_with (go_at_call 28;refine(dF _ _).mono ?_;rintro e w' ⟨rfl,rfl⟩)
  go_ret3;exact⟨rfl,Below.refl _ _⟩
 .obtain⟨e1,e2,e3⟩:= @UC x y mode hk
  rw[e1,e2,e3];clear e1 e2 e3;have hm:0<=mode/\mode<=4:=by unfold aD at hk;simpa using hk
  have h3:=NG x y;have CX:=hid (fun w'=>fB x x0 x1 w');have CY:=hid (fun w'=>fB y y0 y1 w');have SG:=hid (fun w'=>vF x y x0 x1 y0 y1 w');by_cases hS:tN x y=true
  .have e1:qV x y mode=Nc (ak x) (ak y) (cX x y):=by unfold qV;rw[aj hS];rfl
   have e2:tD x y=false:=by unfold tD;rw[aj hS]
   have e4:ak x=5\/ak y=5\/ak x=4\/ak y=4\/ak x=1\/ak y=1:=by unfold tN at hS;simpa only[jR,da] using hS
   rw[e1,e2];clear e1 e2 hS hT;generalize cX x y=s at *;generalize ak x=a at *;generalize ak y=b at *;go_enter func148,ntmps148
   go_wp2_with (first
    |(go_at_call 28;refine(dF _ _).mono ?_;rintro e w' ⟨rfl,rfl⟩)
    |(go_at_call 8;first|((with_reducible refine(CX.out _).mono ?_);rintro e w' ⟨rfl,rfl⟩)|((with_reducible refine(CY.out _).mono ?_);rintro e w' ⟨rfl,rfl⟩))
    |(go_at_call 193;(with_reducible refine(SG.out _).mono ?_);rintro e w' ⟨rfl,rfl⟩)
    |(go_at_call 79;exfalso;clear CX CY SG;simp only[dV,aH,nZ]at *;omega))
   all_goals
    go_ret3;refine⟨Jk ?_ rfl,Below.refl _ _⟩
   all_goals (clear CX CY SG;try simp only[dV,aH,nZ]at *)
   all_goals (unfold Nc;first|rw[aj (by omega)]|rw[ag (by omega),aj (by omega)]|rw[ag (by omega),ag (by omega)])
  .obtain⟨a5,b5,a4,b4,a1,b1⟩:=ag8 hS
   have e1:qV x y mode=aE (iZ x y) mode:=by unfold qV;rw[ag hS]
   have e2:tD x y=aU (iZ x y):=by unfold tD;rw[ag hS]
   rw[e1,e2];have hmx:=zq x0 x1 a5 a4 a1;have hmy:=zq y0 y1 b5 b4 b1;obtain⟨d1,d2,d3,d4⟩:=VD x0 x1 y0 y1 hmx hmy;obtain⟨f1,f2,f3,f4,-⟩:=dR x x0 x1;obtain⟨g1,g2,g3,g4,-⟩:=dR y y0 y1;have VX:=hid (fun w' h=>ia x x0 x1 w' h);have VY:=hid (fun w' h=>ia y y0 y1 w' h);have RA:=hid (fun vc vd w' (hc:DV w' vc (ai x)) (hd:DV w' vd (ai y))=>NY vc vd (ai x) (ai y) 53 w' hc hd f2 g2 hmy (by omega) (by omega) (by omega) (by omega) (by omega));have hRD:d' ((ai x).neg !=(ai y).neg) (ai x).m (ai y).m ((ai x).e-(ai y).e)=iZ x y:=rfl;rw[hRD]at RA;have NU:=hid (fun v w' (h:DV w' v (iZ x y))=>kS v (iZ x y) 190 mode w' h d1 (by omega) (by omega) (by omega) (fun h=>absurd h d4) hm.1 hm.2);have c1:(ak x==5)=false:=by rw[aH];exact a5
   have c2:(ak y==5)=false:=by rw[aH];exact b5
   have c3:(ak x==4)=false:=by rw[aH];exact a4
   have c4:(ak y==4)=false:=by rw[aH];exact b4
   have c5:(ak x==1)=false:=by rw[aH];exact a1
   have c6:(ak y==1)=false:=by rw[aH];exact b1
   have HT:=hid hT;clear hT e1 e2 hS hRD d1 d2 d3 d4 f1 f2 f3 f4 g1 g2 g3 g4 hmx hmy a5 b5 a4 b4 a1 b1;generalize aE (iZ x y) mode=nR at *;generalize aU (iZ x y)=nC at *;generalize iZ x y=Q at *;generalize ai x=vx at *;generalize ai y=vy at *;generalize ak x=a at *;generalize ak y=b at *;generalize cX x y=s at *;go_enter func148,ntmps148
   go_wp2_with (first
    |(go_at_call 28;refine(dF _ _).mono ?_;rintro e w' ⟨rfl,rfl⟩)
    |(go_at_call 8;first|((with_reducible refine(CX.out _).mono ?_);rintro e w' ⟨rfl,rfl⟩)|((with_reducible refine(CY.out _).mono ?_);rintro e w' ⟨rfl,rfl⟩))
    |(go_at_call 193;(with_reducible refine(SG.out _).mono ?_);rintro e w' ⟨rfl,rfl⟩))
   refine(VX.out _ HT.out).mono ?_;rintro r w1 ⟨v1,rfl,h1,hb⟩;have V1:=hid h1;have B1:Hid (Below w.heap.size w w1):=hid hb;clear h1 hb;go_wp2_with fail
   refine(VY.out _ (HT.out.below B1.out)).mono ?_;rintro r w2 ⟨v2,rfl,h2,hb⟩;have V1':=hid (V1.out.below hb);have V2:=hid h2;have B2:=bt0 B1 hb;clear h2 hb;go_wp2_with fail
   refine(RA.out _ _ _ V1'.out V2.out).mono ?_;rintro r w3 ⟨v3,rfl,h3,hb⟩;have V3:=hid h3;have B3:=bt0 B2 hb;clear h3 hb;go_wp2_with fail
   refine(NU.out _ _ V3.out).mono ?_;rintro r w4 ⟨rfl,hb⟩;have B4:=bt0 B3 hb;clear hb;go_wp2;go_ret3;exact⟨rfl,B4.out⟩
def MK (a:Int) (n:Bool) (x:Int):Int:=if a=5\/(n=true/\a≠1) then 9221120237041090560 else x
theorem Ps (x mode:Int) (x0:0<=x) (x1:x<=18446744073709551615) (w:World) (hT:aQ w):
  Calls prog 150 #[.int .u64 x,.int .i64 mode] w fun e w'=>e=.returned (.tuple #[.int .u64 (pG x mode),.bool (uF x mode),.int .i64 (dv mode)])/\Below w.heap.size w w':=by
 cases hk:aD mode
 .obtain⟨e1,e2,e3⟩:= @PK x mode hk
  rw[e1,e2,e3];clear e1 e2 e3 hT;go_enter func150,ntmps150;go_wp2_with (go_at_call 28;refine(dF _ _).mono ?_;rintro e w' ⟨rfl,rfl⟩)
  go_ret3;exact⟨rfl,Below.refl _ _⟩
 .obtain⟨e1,e2,e3⟩:= @RI x mode hk
  rw[e1,e2,e3];clear e1 e2 e3;have hm:0<=mode/\mode<=4:=by unfold aD at hk;simpa using hk
  have CX:=hid (fun w'=>fB x x0 x1 w')
  have hsg:((x/9223372036854775808)==1)=di x:=by
   unfold di;by_cases h:9223372036854775808<=x
   .rw[fR h,dV];omega
   .rw[e_ h,aH];omega
  by_cases hS:tq x=true
  .have e1:ry x mode=MK (ak x) (di x) x:=by unfold ry;rw[aj hS];rfl
   have e2:tI x=false:=by unfold tI;rw[aj hS]
   have e4:ak x=5\/di x=true\/ak x=1\/ak x=4:=by unfold tq at hS;simpa only[jR,da] using hS
   rw[e1,e2];clear e1 e2 hS hT;generalize di x=n at *;generalize ak x=a at *;cases n
   all_goals
    go_enter func150,ntmps150
    go_wp2_with (first
     |(go_at_call 28;refine(dF _ _).mono ?_;rintro e w' ⟨rfl,rfl⟩)
     |(go_at_call 8;(with_reducible refine(CX.out _).mono ?_);rintro e w' ⟨rfl,rfl⟩)
     |(go_at_call 79;exfalso;clear CX hsg;simp only[dV,aH,nZ,lZ,Oz,ga,false_or]at *;omega))
   all_goals
    go_ret3;refine⟨Jk ?_ rfl,Below.refl _ _⟩
   all_goals (clear CX hsg;try simp only[dV,aH,nZ,lZ,Oz]at *)
   all_goals first|(exfalso;omega)|(unfold MK;first|rw[aj (by simp;omega)]|rw[ag (by simp;omega)]|rw[aj (by omega)]|rw[ag (by omega)])
  .obtain⟨a5,n0,a1,a4⟩:=Sb hS
   have e1:ry x mode=aE (iW x) mode:=by unfold ry;rw[ag hS]
   have e2:tI x=aU (iW x):=by unfold tI;rw[ag hS]
   rw[e1,e2];have hmx:=zq x0 x1 a5 a4 a1;obtain⟨d1,d2,d3,d4⟩:=O' x0 x1 hmx;obtain⟨f1,f2,f3,f4,-⟩:=dR x x0 x1;have VX:=hid (fun w' h=>ia x x0 x1 w' h);have RA:=hid (fun vc w' (hc:DV w' vc (ai x))=>Vt vc (ai x) 53 w' hc f2 (by omega) (by omega) (by omega));have hRD:w_ (bF ((ai x).m*2^rk (ai x).e)) (ai x).m (ai x).e=iW x:=rfl;rw[hRD]at RA;have NU:=hid (fun v w' (h:DV w' v (iW x))=>kS v (iW x) 190 mode w' h d1 (by omega) (by omega) (by omega) (fun h=>absurd h d4) hm.1 hm.2);have c1:(ak x==5)=false:=by rw[aH];exact a5
   have c3:(ak x==4)=false:=by rw[aH];exact a4
   have c5:(ak x==1)=false:=by rw[aH];exact a1
   rw[n0]at hsg;have HT:=hid hT;clear hT e1 e2 hS hRD d1 d2 d3 d4 f1 f2 f3 f4 hmx a5 a4 a1 n0;generalize aE (iW x) mode=nR at *;generalize aU (iW x)=nC at *;generalize iW x=Q at *;generalize ai x=vx at *;generalize ak x=a at *;go_enter func150,ntmps150
   go_wp2_with (first
    |(go_at_call 28;refine(dF _ _).mono ?_;rintro e w' ⟨rfl,rfl⟩)
    |(go_at_call 8;(with_reducible refine(CX.out _).mono ?_);rintro e w' ⟨rfl,rfl⟩))
   refine(VX.out _ HT.out).mono ?_;rintro r w1 ⟨v1,rfl,h1,hb⟩;have V1:=hid h1;have B1:Hid (Below w.heap.size w w1):=hid hb;clear h1 hb;go_wp2_with fail
   refine(RA.out _ _ V1.out).mono ?_;rintro r w3 ⟨v3,rfl,h3,hb⟩;have V3:=hid h3;have B3:=bt0 B1 hb;clear h3 hb;go_wp2_with fail
   refine(NU.out _ _ V3.out).mono ?_;rintro r w4 ⟨rfl,hb⟩;have B4:=bt0 B3 hb;clear hb;go_wp2;go_ret3;exact⟨rfl,B4.out⟩
def jt (x y:Int):Int:=min (ai (ay x)).e (ai (ay y)).e
def mN (x y:Int):Nat:=(ai (ay x)).m*2^((ai (ay x)).e-jt x y).toNat
def lE (x y:Int):Nat:=(ai (ay y)).m*2^((ai (ay y)).e-jt x y).toNat
def mY (m n:Nat):Bool:=decide (n<2*(m%n)) || (decide (2*(m%n)=n) && decide (m/n%2=1))
def o7 (m n:Nat):Nat:=if mY m n=true then n-m%n else m%n
def zk (x y:Int):Int:=if o7 (mN x y) (lE x y)=0 then(if di x=true then 9223372036854775808 else 0) else aE (norm (di x !=mY (mN x y) (lE x y)) (o7 (mN x y) (lE x y)) (jt x y)) 0
def uO (x y:Int):Bool:=decide (ak x=5) || (decide (ak y=5) || (decide (ak x=4) || (decide (ak y=4) || (decide (ak x=1) || decide (ak y=1)))))
def yG (a b x:Int):Int:=if a=5\/b=5\/a=4\/b=1 then 9221120237041090560 else x
def pQ (x y:Int):Int:=if uO x y=true then yG (ak x) (ak y) x else zk x y
theorem Qw (x:Int):ay (ay x)=ay x:=by unfold ay;omega
theorem D8 (x:Int):ak (ay x)=ak x:=by unfold ak;rw[Qw]
theorem Yy {x y:Int}(x0:0<=x) (x1:x<=18446744073709551615):0<=pQ x y/\pQ x y<=18446744073709551615:=by
 have c:=qQ (norm (di x !=mY (mN x y) (lE x y)) (o7 (mN x y) (lE x y)) (jt x y)) 0;unfold pQ zk yG;split
 .split <;> omega
 .split
  .split <;> omega
  .omega
theorem Tx {x y:Int}(h:¬uO x y=true):ak x≠5/\ak y≠5/\ak x≠4/\ak y≠4/\ak x≠1/\ak y≠1:=by
 unfold uO at h;simp only[jR,da]at h;omega
theorem TC {x:Int}(x0:0<=x) (x1:x<=18446744073709551615):bits .and .u64 x 9223372036854775808=if di x=true then 9223372036854775808 else 0:=by
 have h:=Cs x0 x1 (show(0:Int)<=0 by decide) (by decide)
 have e:bits .xor .u64 x 0=x:=by
  obtain⟨a,rfl⟩:=gH x0;have :=u64_xor_nat a 0 (by omega) (by decide)
  simpa using this
 rw[e]at h;rw[h];unfold cX;cases hf:di x
 .rfl
 .rfl
theorem RC (x y:Int) {K:Nat}(hK:K=2300):mN x y<2^K/\lE x y<2^K/\ -1074<=jt x y/\jt x y<=1100:=by
 have hx:=gV x;have hy:=gV y;obtain⟨f1,f2,f3,f4,-⟩:=dR (ay x) hx.1 (by omega);obtain⟨g1,g2,g3,g4,-⟩:=dR (ay y) hy.1 (by omega)
 have key:∀(m:Nat) (e:Int),m<2^53-> -1074<=e->e<=1100->m*2^(e-jt x y).toNat<2^K:=by
  intro m e h1 h2 h3;have h4:(e-jt x y).toNat<=K-53:=by unfold jt;omega
  have h5:2^(e-jt x y).toNat<=2^(K-53):=aG (by decide) h4
  calc m*2^(e-jt x y).toNat<=m*2^(K-53):=cZ _ h5
   _<2^53*2^(K-53):=cS h1 (az _)
   _=2^K:=by rw[<-aB];congr 1;omega
 refine⟨key _ _ f2 f3 f4,key _ _ g2 g3 g4,?_,?_⟩ <;> unfold jt <;> omega
theorem ZR (x y:Int) (x0:0<=x) (x1:x<=18446744073709551615) (y0:0<=y) (y1:y<=18446744073709551615) (w:World) (hT:aQ w):
  Calls prog 157 #[.int .u64 x,.int .u64 y] w fun e w'=>e=.returned (.int .u64 (pQ x y))/\Below w.heap.size w w':=by
 have CX:=hid (fun w'=>fB x x0 x1 w');have CY:=hid (fun w'=>fB y y0 y1 w');by_cases hS:uO x y=true
 .have e1:pQ x y=yG (ak x) (ak y) x:=by unfold pQ;rw[aj hS]
  have e4:ak x=5\/ak y=5\/ak x=4\/ak y=4\/ak x=1\/ak y=1:=by unfold uO at hS;simpa only[jR,da] using hS
  rw[e1];clear e1 hS hT;generalize ak x=a at *;generalize ak y=b at *;go_enter func157,ntmps157
  go_wp2_with (first
   |(go_at_call 8;first|((with_reducible refine(CX.out _).mono ?_);rintro e w' ⟨rfl,rfl⟩)|((with_reducible refine(CY.out _).mono ?_);rintro e w' ⟨rfl,rfl⟩))
   |(go_at_call 25;exfalso;clear CX CY;simp only[dV,aH,nZ]at *;omega))
  all_goals
   go_ret;refine⟨congrArg (fun z=>Ending.returned (.int .u64 z)) ?_,Below.refl _ _⟩
  all_goals (clear CX CY;try simp only[dV,aH,nZ]at *)
  all_goals (unfold yG;first|(exfalso;omega)|rw[aj (by omega)]|rw[ag (by omega)])
 .obtain⟨a5,b5,a4,b4,a1,b1⟩:=Tx hS
  have e1:pQ x y=zk x y:=by unfold pQ;rw[ag hS]
  rw[e1];have hbx:=gV x;have hby:=gV y;have AX:=hid (fun w'=>pN x x0 x1 w');have AY:=hid (fun w'=>pN y y0 y1 w');have VX:=hid (fun w' h=>ia (ay x) hbx.1 (by omega) w' h);have VY:=hid (fun w' h=>ia (ay y) hby.1 (by omega) w' h);obtain⟨f1,f2,f3,f4,-⟩:=dR (ay x) hbx.1 (by omega);obtain⟨g1,g2,g3,g4,-⟩:=dR (ay y) hby.1 (by omega);have AL:=hid (fun vc vd w' (hc:DV w' vc (ai (ay x))) (hd:DV w' vd (ai (ay y)))=>Mm vc vd (ai (ay x)) (ai (ay y)) 53 w' hc hd f2 g2 (by omega) (by omega) (by omega) (by omega) (by omega));have er1:(ai (ay x)).m*2^((ai (ay x)).e-min (ai (ay x)).e (ai (ay y)).e).toNat=mN x y:=rfl;have qa:(ai (ay y)).m*2^((ai (ay y)).e-min (ai (ay x)).e (ai (ay y)).e).toNat=lE x y:=rfl;have er3:min (ai (ay x)).e (ai (ay y)).e=jt x y:=rfl;rw[er1,qa,er3]at AL;obtain⟨K,hK⟩:∃K,K=2300:=⟨_,rfl⟩;obtain⟨m1,m2,m3,m4⟩:=RC x y hK;have hK1:K<=2300:=by omega
  clear hK
  have hn0:lE x y≠0:=by
   intro h;rcases pB.1 h with h|h
   .exact zq hby.1 (by omega) (by rw[D8];exact b5) (by rw[D8];exact b4) (by rw[D8];exact b1) h
   .have :=az ((ai (ay y)).e-jt x y).toNat;omega
  have hsg:((x/9223372036854775808)==1)=di x:=by
   unfold di;by_cases h:9223372036854775808<=x
   .rw[fR h,dV];omega
   .rw[e_ h,aH];omega
  have hand:=TC x0 x1;have e2:zk x y=if o7 (mN x y) (lE x y)=0 then(if di x=true then 9223372036854775808 else 0) else aE (norm (di x !=mY (mN x y) (lE x y)) (o7 (mN x y) (lE x y)) (jt x y)) 0:=rfl
  rw[e2];generalize mN x y=M at *;generalize lE x y=N at *;generalize jt x y=E at *;generalize hsgn:(if di x=true then(9223372036854775808:Int) else 0)=SG at *;have OV:=hid (fun va vb w' (ha:NV w' va M) (hb:NV w' vb N)=>pV va vb M N K w' ha hb (by omega) m1 (by omega));have hr:M%N<N:=ew _ (by omega);have LE:=hid (fun va w' (h:NV w' va (M%N))=>f_ va (M%N) 1 K 1 w' h rfl (wu hr m2) (by omega) (by decide));rw[Nat.pow_one]at LE;have CM:=hid (fun va vb w' (h:NV w' va (M%N*2)) (h2:NV w' vb N)=>jF va vb _ _ w' h h2);have MI:=hid (fun va vb w' (h:NV w' va N) (h2:NV w' vb (M%N))=>re va vb N (M%N) K w' h h2 (gn hr) m2 (by omega));have NO:=hid (fun neg va r w' hT' (h:NV w' va r) (hlt:r<2^K)=>iU neg va r K E w' hT' h hlt (by omega) (by omega) (by omega))
  have NU:=hid (fun neg v r w' (hlt:r<2^K) (h:DV w' v (norm neg r E))=>kS v (norm neg r E) K 0 w' h (de (oT neg E hlt).1 hlt) (by omega)
   (by rcases(oT neg E hlt).2 with h|h
       .rw[h];decide
       .omega)
   (by rcases(oT neg E hlt).2 with h|h
       .rw[h];decide
       .omega) (vX (iT neg r E)) (by decide) (by decide))
  have RB:Hid (M%N<2^K/\N-M%N<2^K/\N-M%N≠0):=hid ⟨wu hr m2,de (Fi _ _) m2,by omega⟩
  have hcase:(mY M N=true/\o7 M N=N-M%N/\(0<aK ((M%N*2:Nat):Int) (N:Int)\/(aK ((M%N*2:Nat):Int) (N:Int)=0/\M/N%2=1)))\/
    (mY M N=false/\o7 M N=M%N/\(aK ((M%N*2:Nat):Int) (N:Int)<0\/(aK ((M%N*2:Nat):Int) (N:Int)=0/\M/N%2=0))):=by
   unfold o7;cases hu:mY M N
   .right
    refine⟨rfl,rfl,?_⟩;unfold mY at hu;simp only[wh,Bool.and_eq_false_iff,jx]at hu;unfold aK;rcases ju (M%N*2) N with h|h|h
    .left;rw[aj (by omega)];decide
    .right;rw[ag (by omega),ag (by omega)];exact⟨rfl,by omega⟩
    .exfalso;omega
   .left
    refine⟨rfl,rfl,?_⟩;unfold mY at hu;simp only[jR,lT,da]at hu;unfold aK;rcases ju (M%N*2) N with h|h|h
    .exfalso;omega
    .right;rw[ag (by omega),ag (by omega)];exact⟨rfl,by omega⟩
    .left;rw[ag (by omega),aj (by omega)];decide
  generalize aK ((M%N*2:Nat):Int) (N:Int)=sg at *;generalize M%N*2=r2 at *;generalize M%N=r at *;generalize M/N=q at *;have c1:(ak x==5)=false:=by rw[aH];exact a5
  have c2:(ak y==5)=false:=by rw[aH];exact b5
  have c3:(ak x==4)=false:=by rw[aH];exact a4
  have c4:(ak y==4)=false:=by rw[aH];exact b4
  have c5:(ak x==1)=false:=by rw[aH];exact a1
  have c6:(ak y==1)=false:=by rw[aH];exact b1
  have HT:=hid hT;have HCASE:=hid hcase;clear hT e1 e2 hS f1 f2 f3 f4 g1 g2 g3 g4 a5 b5 a4 b4 a1 b1 er1 qa er3 hcase hr hn0 m1 m2 m3 m4 hbx hby
  generalize mY M N=up at *;generalize o7 M N=rr at *;generalize di x=n at *;generalize ak x=a at *;generalize ak y=b at *;generalize ay x=fx at *;generalize ay y=fy at *;obtain⟨OUT,hOUT⟩:∃OUT,OUT=(if rr=0 then SG else aE (norm (n !=up) rr E) 0):=⟨_,rfl⟩;rw[<-hOUT];have HOUT:Hid (OUT=(if rr=0 then SG else aE (norm (n !=up) rr E) 0)/\True):=hid ⟨hOUT,trivial⟩;clear hOUT;go_enter func157,ntmps157
  go_wp2_with (first
   |(go_at_call 8;first|((with_reducible refine(CX.out _).mono ?_);rintro e w' ⟨rfl,rfl⟩)|((with_reducible refine(CY.out _).mono ?_);rintro e w' ⟨rfl,rfl⟩))
   |(go_at_call 25;first|((with_reducible refine(AX.out _).mono ?_);rintro e w' ⟨rfl,rfl⟩)|((with_reducible refine(AY.out _).mono ?_);rintro e w' ⟨rfl,rfl⟩)))
  refine(VX.out _ HT.out).mono ?_;rintro r0 w1 ⟨v1,rfl,h1,hb⟩;have V1:=hid h1;have B1:Hid (Below w.heap.size w w1):=hid hb;clear h1 hb;go_wp2_with (go_at_call 25;first|((with_reducible refine(AX.out _).mono ?_);rintro e w' ⟨rfl,rfl⟩)|((with_reducible refine(AY.out _).mono ?_);rintro e w' ⟨rfl,rfl⟩))
  refine(VY.out _ (HT.out.below B1.out)).mono ?_;rintro r0 w2 ⟨v2,rfl,h2,hb⟩;have V1':=hid (V1.out.below hb);have V2:=hid h2;have B2:=bt0 B1 hb;clear h2 hb;go_wp2_with fail
  refine(AL.out _ _ _ V1'.out V2.out).mono ?_;rintro r0 w3 ⟨vm,vn,rfl,h3,h3',hb⟩;have VM:=hid h3;have VN:=hid h3';have B3:=bt0 B2 hb;clear h3 h3' hb;go_wp2_with fail
  refine(OV.out _ _ _ VM.out VN.out).mono ?_;rintro r0 w4 ⟨vq,vr,rfl,h4,h4',hb⟩;have VQ:=hid h4;have VR:=hid h4';have VN4:=hid (VN.out.below hb);have B4:=bt0 B3 hb;clear h4 h4' hb;go_wp2_with fail
  refine(LE.out _ _ VR.out).mono ?_;rintro r0 w5 ⟨v5,rfl,h5,hb⟩;have V5:=hid h5;have VQ5:=hid (VQ.out.below hb);have VR5:=hid (VR.out.below hb);have VN5:=hid (VN4.out.below hb);have B5:=bt0 B4 hb;clear h5 hb;go_wp2_with fail
  refine(CM.out _ _ _ V5.out VN5.out).mono ?_;rintro r0 w6 ⟨rfl,n6,rfl⟩;obtain⟨aq,nq,cq,rfl,hnq1,hnq2,hodd⟩:=x8 (VQ5.out.drewN n6);obtain⟨ar,nr,cr,rfl,l1,l2,lz⟩:=fD (VR5.out.drewN n6);have VR6:=hid (VR5.out.drewN n6);have VN6:=hid (VN5.out.drewN n6);have B6:=hid (dh (n:=n6) B5.out);rcases HCASE.out with⟨h1,h2,h3⟩|⟨h1,h2,h3⟩
  all_goals
   rw[h1,h2]at HOUT;clear h1 h2
  .have EO:Hid (OUT=aE (norm (!n) (N-r) E) 0/\True):=hid ⟨by
    have :=HOUT.out.1;rw[ag RB.out.2.2]at this;rw[this];cases n <;> rfl,trivial⟩
   have hway:0<sg\/(sg=0/\0<nq/\∃b off d,aq=some ⟨b,off,none⟩/\(w5.drewN n6).cell? ⟨b,off,none⟩=some (.int .u32 ((d:Nat):Int))/\((d:Int)%2==1)=true/\d<4294967296):=by
    rcases h3 with h|⟨h,h'⟩
    .exact Or.inl h
    .right
     rcases hodd with⟨k1,k2⟩|⟨k1,b,off,d,k2,k3,k4,k5,k6⟩
     .exfalso;omega
     .exact⟨h,k1,b,off,d,k2,k5,by rw[dV];omega,k4⟩
   clear h3 hodd lz HCASE HOUT;rcases hway with hsg|⟨rfl,hnq,bq,oq,d,rfl,hcd,hd1,hd2⟩
   all_goals
    go_wp2_with fail
    refine(MI.out _ _ _ VN6.out VR6.out).mono ?_;rintro r0 w7 ⟨v7,rfl,h7,hb⟩;obtain⟨a7,n7,c7,rfl,k1,k2,kz⟩:=fD h7;have hn7:1<=n7:=by have :=RB.out.2.2;omega
    have V7:=hid h7;have B7:=bt0 B6 hb;clear h7 hb kz;go_wp2_with fail
    refine(NO.out _ _ _ _ (HT.out.below B7.out) V7.out RB.out.2.1).mono ?_;rintro r0 w8 ⟨v8,rfl,h8,hb⟩;have V8:=hid h8;have B8:=bt0 B7 hb;clear h8 hb;go_wp2_with fail
    refine(NU.out _ _ _ _ RB.out.2.1 V8.out).mono ?_;rintro r0 w9 ⟨rfl,hb⟩;have B9:=bt0 B8 hb;clear hb;go_wp2;go_ret;exact⟨by rw[EO.out.1];try rfl,B9.out⟩
  .have hway:sg<0\/(sg=0/\nq<=0)\/(sg=0/\0<nq/\∃b off d,aq=some ⟨b,off,none⟩/\(w5.drewN n6).cell? ⟨b,off,none⟩=some (.int .u32 ((d:Nat):Int))/\((d:Int)%2==1)=false/\d<4294967296):=by
    rcases h3 with h|⟨h,h'⟩
    .exact Or.inl h
    .right
     rcases hodd with⟨k1,k2⟩|⟨k1,b,off,d,k2,k3,k4,k5,k6⟩
     .exact Or.inl ⟨h,k1⟩
     .exact Or.inr ⟨h,k1,b,off,d,k2,k5,by rw[aH];omega,k4⟩
   have hrz:(r=0/\nr=0/\Hid (OUT=SG/\True))\/(1<=nr/\Hid (OUT=aE (norm n r E) 0/\True)):=by
    have :=HOUT.out.1;rcases lz with⟨k1,k2⟩|⟨k1,k2⟩
    .left;rw[aj k1]at this;exact⟨k1,k2,hid ⟨this,trivial⟩⟩
    .right;rw[ag k1]at this;exact⟨k2,hid ⟨by rw[this];cases n <;> rfl,trivial⟩⟩
   clear h3 hodd lz HCASE HOUT;rcases hrz with⟨rfl,rfl,EO⟩|⟨hnr,EO⟩
   .rcases hway with hsg|⟨rfl,hnq⟩|⟨rfl,hnq,bq,oq,d,rfl,hcd,hd1,hd2⟩
    all_goals
     go_wp2_with fail
     go_ret;exact⟨by rw[EO.out.1];try rfl,B6.out⟩
   .rcases hway with hsg|⟨rfl,hnq⟩|⟨rfl,hnq,bq,oq,d,rfl,hcd,hd1,hd2⟩
    all_goals
     go_wp2_with fail
     refine(NO.out _ _ _ _ (HT.out.below B6.out) VR6.out RB.out.1).mono ?_;rintro r0 w8 ⟨v8,rfl,h8,hb⟩;have V8:=hid h8;have B8:=bt0 B6 hb;clear h8 hb;go_wp2_with fail
     refine(NU.out _ _ _ _ RB.out.1 V8.out).mono ?_;rintro r0 w9 ⟨rfl,hb⟩;have B9:=bt0 B8 hb;clear hb;go_wp2;go_ret;exact⟨by rw[EO.out.1];try rfl,B9.out⟩
