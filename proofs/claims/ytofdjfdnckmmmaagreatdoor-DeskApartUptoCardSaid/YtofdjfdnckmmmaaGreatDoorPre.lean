import Derived.Test.YtofdjfdnckmmmaaGreatDoorPrb
import Derived.Test.YtofdjfdnckmmmaaGreatDoorBw
import Derived.Test.YtofdjfdnckmmmaaGreatDoorBh
set_option linter.all false
set_option maxHeartbeats 8000000
set_option maxRecDepth 100000
open Go.Proofs.Tryz
open Go.Lib (hid)
namespace Go.Proofs.YtofdjfdnckmmmaaGreatDoor
open Go.RowKit Nt Fm
open Ea (Pr iF cy eU jN dz cN)
def nM (w:World) (c d:D) (e:Ending) (w':World):Prop:= ∃v u,e=.returned (.tuple #[v,u])/\DV w' v c/\DV w' u d/\Below w.heap.size w w'
theorem Hq (v:Value) (x:Pr) (p k0:Nat) (P:Int) (w:World) (hT:aQ w) (hv:PV w v x) (hP:P=(p:Int)) (hl:x.l<2^k0) (hh:x.h<2^k0) (hk0:k0<=110000000000000) (hp:p<=40000000000000):
  Calls prog 230 #[v,.int .i64 P] w (nM w (norm false x.l (-(p:Int))) (norm false x.h (-(p:Int)))):=by
 subst hP;obtain⟨a1,n1,c1,a2,n2,c2,rfl,h1,h2⟩:=hv.parts;obtain⟨xl,xh⟩:=x;simp only at *;have N1:Hid (∀(x:Int) w',x= -(p:Int)->aQ w'->NV w' (.slice a1 n1 c1) xl->Calls prog 62 #[.bool false,.slice a1 n1 c1,.int .i64 x] w' (iR w' (norm false xl (-(p:Int))))):=hid (fun x w' hx ht ha=>by subst hx;exact iU false (.slice a1 n1 c1) xl k0 (-(p:Int)) w' ht ha hl (by omega) (by omega) (by omega));have N2:Hid (∀(x:Int) w',x= -(p:Int)->aQ w'->NV w' (.slice a2 n2 c2) xh->Calls prog 62 #[.bool false,.slice a2 n2 c2,.int .i64 x] w' (iR w' (norm false xh (-(p:Int))))):=hid (fun x w' hx ht ha=>by subst hx;exact iU false (.slice a2 n2 c2) xh k0 (-(p:Int)) w' ht ha hh (by omega) (by omega) (by omega));generalize norm false xl (-(p:Int))=C at *;generalize norm false xh (-(p:Int))=E at *;have H1:=hid h1;have H2:=hid h2;have HT:=hid hT;clear h1 h2 hv hl hh hT;go_enter func230,ntmps230;go_wp2_with fail
 obtain⟨V,hV⟩:∃V,V=(((w.alloc (.cells #[.slice a1 n1 c1,.slice a2 n2 c2] 238)).alloc (.cells #[.bool false,.slice none 0 0,.int .i64 0] 68)).alloc (.cells #[.bool false,.slice none 0 0,.int .i64 0] 68)):=⟨_,rfl⟩;have XC:Hid (Bp V w.heap.size (.slice a1 n1 c1) (.slice a2 n2 c2)):=hid (by rw[hV];exact((Bp.new w (.slice a1 n1 c1) (.slice a2 n2 c2)).alloc _ |>.alloc _));have XD:Hid (ax V (w.heap.size+1) 68 (.bool false) (.slice none 0 0) (.int .i64 0)):=hid (by rw[hV];exact((ax.new2 w _ (.bool false) (.slice none 0 0) (.int .i64 0) 68).alloc _));have XE:Hid (ax V (w.heap.size+1+1) 68 (.bool false) (.slice none 0 0) (.int .i64 0)):=hid (by rw[hV];exact(ax.new3 w _ _ (.bool false) (.slice none 0 0) (.int .i64 0) 68));have B0:Hid (Below w.heap.size w V):=hid (by rw[hV];exact ff w _ _ _);rw[<-hV];clear hV;obtain⟨p0,p1,-,-⟩:=XC.out.drew.cells
 go_region_held3 (fun w'=>w'.cell? ⟨w.heap.size,0,none⟩=some (.slice a1 n1 c1)/\w'.cell? ⟨w.heap.size,1,none⟩=some (.slice a2 n2 c2))
  (first
   |with_reducible exact⟨p0,p1⟩
   |(obtain⟨p0,p1,-,-⟩:=(XC.out.drew.below hb1).cells
     with_reducible exact⟨p0,p1⟩)
   |(obtain⟨p0,p1,-,-⟩:=((XC.out.drew.below HB1.out).below hb2).cells
     with_reducible exact⟨p0,p1⟩)
   |(obtain⟨p0,p1,-,-⟩:=(((((XC.out.drew.below HB1.out).below HB2.out).set (b':=w.heap.size+1) (o:=0) (by omega) (.bool C.neg)).set (b':=w.heap.size+1) (o:=1) (by omega) (.slice e1 f1 g1)).set (b':=w.heap.size+1) (o:=2) (by omega) (.int .i64 C.e)).cells
     with_reducible exact⟨p0,p1⟩)
   |(obtain⟨p0,p1,-,-⟩:=((((((((XC.out.drew.below HB1.out).below HB2.out).set (b':=w.heap.size+1) (o:=0) (by omega) (.bool C.neg)).set (b':=w.heap.size+1) (o:=1) (by omega) (.slice e1 f1 g1)).set (b':=w.heap.size+1) (o:=2) (by omega) (.int .i64 C.e)).set (b':=w.heap.size+1+1) (o:=0) (by omega) (.bool E.neg)).set (b':=w.heap.size+1+1) (o:=1) (by omega) (.slice e2 f2 g2)).set (b':=w.heap.size+1+1) (o:=2) (by omega) (.int .i64 E.e)).cells
     with_reducible exact⟨p0,p1⟩)
   |(go_keep;done))
  (first
  |(go_at_call_of 62 (Value.slice a1 n1 c1);refine(N1.out _ _ (IntWalk.i64_in _ (by omega)) (HT.out.below B0.out.drew) (H1.out.below B0.out.drew)).mono ?_;rintro r w1 ⟨v1,rfl,⟨s1,rfl,hv1⟩,hb1⟩;obtain⟨e1,f1,g1,rfl⟩:=hv1.shape;have HB1:=hid hb1;have HV1:=hid hv1;have B1:=hid (af B0.out.drew le0 hb1))
  |(go_at_call_of 62 (Value.slice a2 n2 c2);refine(N2.out _ _ (IntWalk.i64_in _ (by omega)) (HT.out.below B1.out) (H2.out.below B1.out)).mono ?_;rintro r w2 ⟨v2,rfl,⟨s2,rfl,hv2⟩,hb2⟩;obtain⟨e2,f2,g2,rfl⟩:=hv2.shape;have HB2:=hid hb2;have HV2:=hid hv2;have HV12:=hid (HV1.out.below hb2);have B2:=bt0 B1 hb2;have D2:=hid ((XD.out.drew.below HB1.out).below hb2);have E2:=hid ((XE.out.drew.below HB1.out).below hb2);obtain⟨z0,z1,z2,z3,z4,z5⟩:=D2.out.cells;obtain⟨y0,y1,y2,y3,y4,y5⟩:=((((E2.out.set (b':=w.heap.size+1) (o:=0) (by omega) (.bool C.neg)).set (b':=w.heap.size+1) (o:=1) (by omega) (.slice e1 f1 g1)).set (b':=w.heap.size+1) (o:=2) (by omega) (.int .i64 C.e))).cells))
 have D3:=hid (((((D2.out.set3 (.bool C.neg) (.slice e1 f1 g1) (.int .i64 C.e))).set (b':=w.heap.size+1+1) (o:=0) (by omega) (.bool E.neg)).set (b':=w.heap.size+1+1) (o:=1) (by omega) (.slice e2 f2 g2)).set (b':=w.heap.size+1+1) (o:=2) (by omega) (.int .i64 E.e));have E3:=hid ((((E2.out.set (b':=w.heap.size+1) (o:=0) (by omega) (.bool C.neg)).set (b':=w.heap.size+1) (o:=1) (by omega) (.slice e1 f1 g1)).set (b':=w.heap.size+1) (o:=2) (by omega) (.int .i64 C.e)));have E4:=hid (E3.out.set3 (.bool E.neg) (.slice e2 f2 g2) (.int .i64 E.e));have K1:=hid ((HV12.out.setD (g':=C.neg) (ao':=e1) (n':=f1) (c':=g1) (e':=C.e) D2.out).setD (g':=E.neg) (ao':=e2) (n':=f2) (c':=g2) (e':=E.e) E3.out);have K2:=hid ((HV2.out.setD (g':=C.neg) (ao':=e1) (n':=f1) (c':=g1) (e':=C.e) D2.out).setD (g':=E.neg) (ao':=e2) (n':=f2) (c':=g2) (e':=E.e) E3.out);clear z0 z1 z2 z3 z4 z5 y0 y1 y2 y3 y4 y5 hb1 hb2 hv1 hv2 p0 p1;obtain⟨s0,s1,s2,t0,t1,t2⟩:=D3.out.cells;obtain⟨r0,r1,r2,u0,u1,u2⟩:=E4.out.cells;go_wp2;refine bodyPost_ret (v:= .tuple #[.agg #[.bool C.neg,.slice e1 f1 g1,.int .i64 C.e],.agg #[.bool E.neg,.slice e2 f2 g2,.int .i64 E.e]]) (by simp [results,Tryz.results230,go_sem,s0,s1,s2,r0,r1,r2]) rfl ?_;exact⟨_,_,rfl,⟨_,rfl,K1.out⟩,⟨_,rfl,K2.out⟩,cJ (cJ B2.out (by omega) _ _ _) (by omega) _ _ _⟩
open Go.RowKit Nt Fm
open Ea (Pr iF cy eU jN dz cN bZ cY cG cD nE)
def fT (neg:Bool) (m:Nat) (e:Int) (p k s:Nat):Pr:=if neg then nE (cD m e p k s) p else cD m e p k s
def Gj (w:World) (d:D) (p s:Nat) (r:Ending) (w':World):Prop:=
 ∃k,k<=p/\(bZ (dz d.m (d.e-s) p) p k).h<=1/\nM w (norm false (fT d.neg d.m d.e p k s).l (-(p:Int))) (norm false (fT d.neg d.m d.e p k s).h (-(p:Int))) r w'
theorem Re {m b p k s:Nat}{e:Int}(hm:m<2^b) (hs:(b:Int)+e-s<= -16) (hp:16<=p) (hk:k<=p) (hend:(bZ (dz m (e-s) p) p k).h<=1):
  2^p<=(cD m e p k s).l/\2^p<=(cD m e p k s).h/\(cD m e p k s).l<2^(p+3*2^s)/\(cD m e p k s).h<2^(p+3*2^s):=by
 obtain⟨h1,h2,-,h4,-⟩:=Ea.FY hm hs hp hk hend;have e8:2^p*8^2^s=2^(p+3*2^s):=by rw[show(8:Nat)=2^3 by decide,<-jU,<-aB]
 rw[e8]at h4;omega
theorem Mv (v:Value) (d:D) (b p s:Nat) (P:Int) (w:World) (hT:aQ w) (hd:DV w v d) (hP:P=(p:Int)) (hm:d.m<2^b) (hb:b<=20000000) (e0: -20000000<=d.e) (e1:d.e<=20000000) (hp:p<=19000000000000) (hp0:16<=p)
  (hs:(s:Int)=max 0 (aC d.m+d.e+16)) (hs1:s<=27):
  Calls prog 206 #[v,.int .i64 P] w (Gj w d p s):=by
 subst hP;obtain⟨neg,m,e⟩:=d;obtain⟨sl,rfl,hv⟩:=hd;obtain⟨a1,n1,c1,rfl⟩:=hv.shape;simp only at *;have h2s:2^s<=134217728:=aG (show 0<2 by decide) hs1;have GR:=hid (fun w' hv=>Pb (.slice a1 n1 c1) m b p s e p w' hv rfl hm hb e0 e1 (by omega) hp0 hs hs1);have BT:=hid (fun k hk hend=>Re (k:=k) (tQ m) (show((aC m:Nat):Int)+e-s<= -16 by omega) hp0 hk hend);have HV:=hid hv;have HT:=hid hT;have DY:=hid (fun v x k0 w' ht hv hl hh hk=>Hq v x p k0 p w' ht hv rfl hl hh hk (by omega));have OF:=hid (fun w'=>dU 1 (by omega) (by omega) w');have LE:=hid (fun v x w' ha (hx:x=((2*p:Nat):Int))=>f_ v 1 (2*p) 1 x w' ha hx (by decide) (by omega) (by omega));have EO:Hid (1*2^(2*p)=2^(2*p)/\True):=hid ⟨fP _,trivial⟩;rw[EO.out.1]at LE;have HPB:Hid ((2^(2*p)<2^(2*p+1)/\1<2^(2*p+1))/\True):=hid ⟨⟨by rw[bH];have :=az (2*p);omega,by rw[bH];have :=az (2*p);omega⟩,trivial⟩;have POS:Hid (0<2^p/\True):=hid ⟨az p,trivial⟩;have OVc:=hid (fun va vb x w' ha hb (hx:0<x)=>pV va vb (2^(2*p)) x (2*p+1) w' ha hb hx HPB.out.1.1 (by omega));have PLc:=hid (fun va vb x w' ha hb=>gN va vb (2^(2*p)/x) 1 (2*p+1) w' ha hb (de (iG _ _) HPB.out.1.1) HPB.out.1.2 (by omega));have h2h:Hid (2^s<=134217728/\True):=hid ⟨h2s,trivial⟩;unfold Gj fT;simp only;clear hv hT hm hs h2s;cases neg
 all_goals
  go_enter func206,ntmps206;go_wp2_with fail
  refine(GR.out _ (HV.out.below (ff _ _ _ _))).mono ?_;rintro r w1 ⟨k,v1,rfl,hk,hend,hp1,hb1⟩;obtain⟨x1,y1,z1,x2,y2,z2,rfl,hv1,hv2⟩:=hp1.parts;obtain⟨q1,q2,q3,q4⟩:=BT.out k hk hend;have HK:=hid (show(k<=p/\(bZ (dz m (e-s) p) p k).h<=1)/\True from⟨⟨hk,hend⟩,trivial⟩);have HQ:=hid (show(2^p<=(cD m e p k s).l/\2^p<=(cD m e p k s).h/\(cD m e p k s).l<2^(p+3*2^s)/\(cD m e p k s).h<2^(p+3*2^s))/\True from⟨⟨q1,q2,q3,q4⟩,trivial⟩);have B1:=hid (af (ff w _ _ _) le0 hb1)
 .clear LE OVc PLc OF EO
  obtain⟨V1,hV1⟩:∃V,V=w1.alloc (.cells #[.slice x1 y1 z1,.slice x2 y2 z2] 238):=⟨_,rfl⟩;have XD1:Hid (ax V1 w.heap.size 68 (.bool false) (.slice a1 n1 c1) (.int .i64 e)):=hid (by rw[hV1];exact((((ax.new w (.bool false) (.slice a1 n1 c1) (.int .i64 e) 68).alloc _ |>.alloc _).below hb1).alloc _));have XR1:Hid (ax V1 (w.heap.size+1) 68 (.bool false) (.slice none 0 0) (.int .i64 0)):=hid (by rw[hV1];exact(((ax.new2 w _ (.bool false) (.slice none 0 0) (.int .i64 0) 68).alloc _).below hb1).alloc _);have XS1:Hid (ax V1 (w.heap.size+1+1) 68 (.bool false) (.slice none 0 0) (.int .i64 0)):=hid (by rw[hV1];exact((ax.new3 w _ _ (.bool false) (.slice none 0 0) (.int .i64 0) 68).below hb1).alloc _);have hz1:w.heap.size+1+1<w1.heap.size:=((ax.new3 w _ _ (.bool false) (.slice none 0 0) (.int .i64 0) 68).below hb1).lt;have XP1:Hid (Bp V1 w1.heap.size (.slice x1 y1 z1) (.slice x2 y2 z2)):=hid (by rw[hV1];exact Bp.new w1 _ _);have BV1:Hid (Below w.heap.size w V1):=hid (by rw[hV1];exact B1.out.alloc (by omega) _);have VL1:Hid (NV V1 (.slice x1 y1 z1) (cD m e p k s).l):=hid (by rw[hV1];exact hv1.alloc _);have VH1:Hid (NV V1 (.slice x2 y2 z2) (cD m e p k s).h):=hid (by rw[hV1];exact hv2.alloc _);have XD0:Hid (ax w1 w.heap.size 68 (.bool false) (.slice a1 n1 c1) (.int .i64 e)):=hid (((ax.new w (.bool false) (.slice a1 n1 c1) (.int .i64 e) 68).alloc _ |>.alloc _).below hb1);obtain⟨j0,j1,j2,-,-,-⟩:=(XD0.out.alloc (.cells #[.slice x1 y1 z1,.slice x2 y2 z2] 238)).cells;obtain⟨b8,hb8⟩:∃b8,b8=w1.heap.size:=⟨_,rfl⟩
  rw[<-hb8]at XP1 hz1;clear hv1 hv2 hp1 hb1 hk hend q1 q2 q3 q4 B1 XD0;go_wp2_with fail
  rw[<-hV1];clear hV1 j0 j1 j2 hb8;have PVX:=hid (show PV V1 (.agg #[.slice x1 y1 z1,.slice x2 y2 z2]) (cD m e p k s) from⟨_,_,rfl,VL1.out,VH1.out⟩);refine(DY.out _ _ (p+3*2^s) _ (HT.out.below BV1.out) PVX.out HQ.out.1.2.2.1 HQ.out.1.2.2.2 (by have :=h2h.out.1;omega)).mono ?_;rintro r w2 ⟨u1,u2,rfl,⟨s1,rfl,hs1'⟩,⟨s2,rfl,hs2'⟩,hb2⟩;obtain⟨e1,f1,g1,rfl⟩:=hs1'.shape;obtain⟨e2,f2,g2,rfl⟩:=hs2'.shape;obtain⟨C,hC⟩:∃C,C=norm false (cD m e p k s).l (-(p:Int)):=⟨_,rfl⟩;obtain⟨E,hE⟩:∃E,E=norm false (cD m e p k s).h (-(p:Int)):=⟨_,rfl⟩;have HC:=hid (show(C=norm false (cD m e p k s).l (-(p:Int))/\E=norm false (cD m e p k s).h (-(p:Int)))/\True from⟨⟨hC,hE⟩,trivial⟩);rw[<-hC,<-hE];rw[<-hC]at hs1';rw[<-hE]at hs2';have D2:=hid (XR1.out.below hb2);have E2:=hid (XS1.out.below hb2);have B2:=bt0 BV1 hb2;have HV1:=hid hs1';have HV2:=hid hs2';clear hs1' hs2' hb2 hC hE PVX;obtain⟨z0,z1,z2,z3,z4,z5⟩:=D2.out.cells;have E3:=hid ((((E2.out.set (b':=w.heap.size+1) (o:=0) (by omega) (.bool C.neg)).set (b':=w.heap.size+1) (o:=1) (by omega) (.slice e1 f1 g1)).set (b':=w.heap.size+1) (o:=2) (by omega) (.int .i64 C.e)));obtain⟨y0,y1,y2,y3,y4,y5⟩:=E3.out.cells;clear GR BT DY;go_wp2_with fail
  clear z0 z1 z2 z3 z4 z5 y0 y1 y2 y3 y4 y5;have D3:=hid (((((D2.out.set3 (.bool C.neg) (.slice e1 f1 g1) (.int .i64 C.e))).set (b':=w.heap.size+1+1) (o:=0) (by omega) (.bool E.neg)).set (b':=w.heap.size+1+1) (o:=1) (by omega) (.slice e2 f2 g2)).set (b':=w.heap.size+1+1) (o:=2) (by omega) (.int .i64 E.e));have E4:=hid (E3.out.set3 (.bool E.neg) (.slice e2 f2 g2) (.int .i64 E.e));have K1:=hid ((HV1.out.setD (g':=C.neg) (ao':=e1) (n':=f1) (c':=g1) (e':=C.e) D2.out).setD (g':=E.neg) (ao':=e2) (n':=f2) (c':=g2) (e':=E.e) E3.out);have K2:=hid ((HV2.out.setD (g':=C.neg) (ao':=e1) (n':=f1) (c':=g1) (e':=C.e) D2.out).setD (g':=E.neg) (ao':=e2) (n':=f2) (c':=g2) (e':=E.e) E3.out);obtain⟨s0,s1,s2,t0,t1,t2⟩:=D3.out.cells;obtain⟨r0,r1,r2,u0,u1,u2⟩:=E4.out.cells;refine bodyPost_ret (v:= .tuple #[.agg #[.bool C.neg,.slice e1 f1 g1,.int .i64 C.e],.agg #[.bool E.neg,.slice e2 f2 g2,.int .i64 E.e]]) (by simp [results,Tryz.results206,go_sem,s0,s1,s2,r0,r1,r2]) rfl ?_;refine⟨k,HK.out.1.1,HK.out.1.2,?_⟩;have e1:=HC.out.1.1;have e2:=HC.out.1.2;rw[<-e1,<-e2];exact⟨_,_,rfl,⟨_,rfl,K1.out⟩,⟨_,rfl,K2.out⟩,cJ (cJ B2.out (by omega) _ _ _) (by omega) _ _ _⟩
 .obtain⟨V1,hV1⟩:∃V,V=w1.alloc (.cells #[.slice x1 y1 z1,.slice x2 y2 z2] 238):=⟨_,rfl⟩
  have XD1:Hid (ax V1 w.heap.size 68 (.bool true) (.slice a1 n1 c1) (.int .i64 e)):=hid (by rw[hV1];exact((((ax.new w (.bool true) (.slice a1 n1 c1) (.int .i64 e) 68).alloc _ |>.alloc _).below hb1).alloc _));have XR1:Hid (ax V1 (w.heap.size+1) 68 (.bool false) (.slice none 0 0) (.int .i64 0)):=hid (by rw[hV1];exact(((ax.new2 w _ (.bool false) (.slice none 0 0) (.int .i64 0) 68).alloc _).below hb1).alloc _);have XS1:Hid (ax V1 (w.heap.size+1+1) 68 (.bool false) (.slice none 0 0) (.int .i64 0)):=hid (by rw[hV1];exact((ax.new3 w _ _ (.bool false) (.slice none 0 0) (.int .i64 0) 68).below hb1).alloc _);have hz1:w.heap.size+1+1<w1.heap.size:=((ax.new3 w _ _ (.bool false) (.slice none 0 0) (.int .i64 0) 68).below hb1).lt;have XP1:Hid (Bp V1 w1.heap.size (.slice x1 y1 z1) (.slice x2 y2 z2)):=hid (by rw[hV1];exact Bp.new w1 _ _);have BV1:Hid (Below w.heap.size w V1):=hid (by rw[hV1];exact B1.out.alloc (by omega) _);have VL1:Hid (NV V1 (.slice x1 y1 z1) (cD m e p k s).l):=hid (by rw[hV1];exact hv1.alloc _);have VH1:Hid (NV V1 (.slice x2 y2 z2) (cD m e p k s).h):=hid (by rw[hV1];exact hv2.alloc _);have XD0:Hid (ax w1 w.heap.size 68 (.bool true) (.slice a1 n1 c1) (.int .i64 e)):=hid (((ax.new w (.bool true) (.slice a1 n1 c1) (.int .i64 e) 68).alloc _ |>.alloc _).below hb1);obtain⟨j0,j1,j2,-,-,-⟩:=(XD0.out.alloc (.cells #[.slice x1 y1 z1,.slice x2 y2 z2] 238)).cells;obtain⟨b8,hb8⟩:∃b8,b8=w1.heap.size:=⟨_,rfl⟩;rw[<-hb8]at XP1 hz1;clear hv1 hv2 hp1 hb1 hk hend q1 q2 q3 q4 B1 XD0;go_wp2_with fail
  rw[<-hV1,<-hb8];clear hV1 j0 j1 j2 hb8 XD1;refine(OF.out _).mono ?_;rintro r w2 ⟨v2,rfl,hv2,hb2⟩;have B2:=bt0 BV1 hb2;have XR2:=hid (XR1.out.below hb2);have XS2:=hid (XS1.out.below hb2);have XP2:=hid (XP1.out.below hb2);have VL2:=hid (VL1.out.below hb2);have VH2:=hid (VH1.out.below hb2);have O2:=hid hv2;clear hv2 hb2 XR1 XS1 XP1 VL1 VH1 BV1;go_wp2_with fail
  refine(LE.out _ _ _ O2.out (by omega)).mono ?_;rintro r w3 ⟨v3,rfl,hv3,hb3⟩;have B3:=bt0 B2 hb3;have XR3:=hid (XR2.out.below hb3);have XS3:=hid (XS2.out.below hb3);have XP3:=hid (XP2.out.below hb3);have VL3:=hid (VL2.out.below hb3);have VH3:=hid (VH2.out.below hb3);have O3:=hid hv3;clear hv3 hb3 XR2 XS2 XP2 VL2 VH2 B2 O2;obtain⟨c0,c1,-,-⟩:=XP3.out.cells;go_wp2_with fail
  refine(OVc.out _ _ _ _ O3.out VH3.out (by have :=HQ.out.1.2.1;have :=POS.out.1;omega)).mono ?_;rintro r w4 ⟨v4,v4r,rfl,hv4,hv4r,hb4⟩;have B4:=bt0 B3 hb4;have XR4:=hid (XR3.out.below hb4);have XS4:=hid (XS3.out.below hb4);have XP4:=hid (XP3.out.below hb4);have VL4:=hid (VL3.out.below hb4);have O4:=hid (O3.out.below hb4);have LO4:=hid hv4;clear hv4 hv4r hb4 XR3 XS3 XP3 VL3 VH3 B3 O3 c0 c1;obtain⟨c0,c1,-,-⟩:=XP4.out.cells;go_wp2_with fail
  refine(OVc.out _ _ _ _ O4.out VL4.out (by have :=HQ.out.1.1;have :=POS.out.1;omega)).mono ?_;rintro r w5 ⟨v5,v5r,rfl,hv5,hv5r,hb5⟩;have B5':=bt0 B4 hb5;have XR5':=hid (XR4.out.below hb5);have XS5':=hid (XS4.out.below hb5);have LO5:=hid (LO4.out.below hb5);have HI5:=hid hv5;clear hv5 hv5r hb5 XR4 XS4 XP4 VL4 B4 O4 c0 c1 LO4;go_wp2_with fail
  refine(OF.out _).mono ?_;rintro r w6 ⟨v6,rfl,hv6,hb6⟩;have B6:=hid (af B5'.out le0 hb6);have XR6:=hid (XR5'.out.below hb6);have XS6:=hid (XS5'.out.below hb6);have LO6:=hid (LO5.out.below hb6);have HI6:=hid (HI5.out.below hb6);have O6:=hid hv6;clear hv6 hb6 XR5' XS5' B5' LO5 HI5;go_wp2_with fail
  refine(PLc.out _ _ _ _ HI6.out O6.out).mono ?_;rintro r w7 ⟨v7,rfl,hv7,hb7⟩;have B5:=bt0 B6 hb7;have XR5:=hid (XR6.out.below hb7);have XS5:=hid (XS6.out.below hb7);have LO7:=hid (LO6.out.below hb7);have HI7:=hid hv7;clear hv7 hb7 XR6 XS6 B6 LO6 HI6 O6;obtain⟨g4,g5,g6,rfl⟩:=LO7.out.shape;obtain⟨g7,g8,g9,rfl⟩:=HI7.out.shape;have PVX:=hid (show PV w7 (.agg #[.slice g4 g5 g6,.slice g7 g8 g9]) ⟨2^(2*p)/(cD m e p k s).h,2^(2*p)/(cD m e p k s).l+1⟩ from⟨_,_,rfl,LO7.out,HI7.out⟩);go_wp2_with fail
  refine(DY.out _ _ (2*p+2) _ (HT.out.below B5.out) PVX.out (by
   have h1:=iG (2^(2*p)) (cD m e p k s).h
   show 2^(2*p)/(cD m e p k s).h<_
   rw[aB];have :=HPB.out.1.1;have :=az (2*p);omega) (by
   have h1:=iG (2^(2*p)) (cD m e p k s).l
   show 2^(2*p)/(cD m e p k s).l+1<_
   rw[aB];have :=HPB.out.1.1;have :=az (2*p);omega) (by omega)).mono ?_
  rintro r w8 ⟨u1,u2,rfl,⟨s1,rfl,hs1'⟩,⟨s2,rfl,hs2'⟩,hb2⟩;obtain⟨e1,f1,g1,rfl⟩:=hs1'.shape;obtain⟨e2,f2,g2,rfl⟩:=hs2'.shape;obtain⟨C,hC⟩:∃C,C=norm false (2^(2*p)/(cD m e p k s).h) (-(p:Int)):=⟨_,rfl⟩;obtain⟨E,hE⟩:∃E,E=norm false (2^(2*p)/(cD m e p k s).l+1) (-(p:Int)):=⟨_,rfl⟩;have HC:=hid (show(C=norm false (2^(2*p)/(cD m e p k s).h) (-(p:Int))/\E=norm false (2^(2*p)/(cD m e p k s).l+1) (-(p:Int)))/\True from⟨⟨hC,hE⟩,trivial⟩);rw[<-hC,<-hE];rw[<-hC]at hs1';rw[<-hE]at hs2';have D2:=hid (XR5.out.below hb2);have E2:=hid (XS5.out.below hb2);have B2:=bt0 B5 hb2;have HV1:=hid hs1';have HV2:=hid hs2';clear hs1' hs2' hb2 hC hE;obtain⟨z0,z1,z2,z3,z4,z5⟩:=D2.out.cells;have E3:=hid ((((E2.out.set (b':=w.heap.size+1) (o:=0) (by omega) (.bool C.neg)).set (b':=w.heap.size+1) (o:=1) (by omega) (.slice e1 f1 g1)).set (b':=w.heap.size+1) (o:=2) (by omega) (.int .i64 C.e)));obtain⟨y0,y1,y2,y3,y4,y5⟩:=E3.out.cells;clear GR BT DY;go_wp2_with fail
  clear z0 z1 z2 z3 z4 z5 y0 y1 y2 y3 y4 y5;have D3:=hid (((((D2.out.set3 (.bool C.neg) (.slice e1 f1 g1) (.int .i64 C.e))).set (b':=w.heap.size+1+1) (o:=0) (by omega) (.bool E.neg)).set (b':=w.heap.size+1+1) (o:=1) (by omega) (.slice e2 f2 g2)).set (b':=w.heap.size+1+1) (o:=2) (by omega) (.int .i64 E.e));have E4:=hid (E3.out.set3 (.bool E.neg) (.slice e2 f2 g2) (.int .i64 E.e));have K1:=hid ((HV1.out.setD (g':=C.neg) (ao':=e1) (n':=f1) (c':=g1) (e':=C.e) D2.out).setD (g':=E.neg) (ao':=e2) (n':=f2) (c':=g2) (e':=E.e) E3.out);have K2:=hid ((HV2.out.setD (g':=C.neg) (ao':=e1) (n':=f1) (c':=g1) (e':=C.e) D2.out).setD (g':=E.neg) (ao':=e2) (n':=f2) (c':=g2) (e':=E.e) E3.out);obtain⟨s0,s1,s2,t0,t1,t2⟩:=D3.out.cells;obtain⟨r0,r1,r2,u0,u1,u2⟩:=E4.out.cells;refine bodyPost_ret (v:= .tuple #[.agg #[.bool C.neg,.slice e1 f1 g1,.int .i64 C.e],.agg #[.bool E.neg,.slice e2 f2 g2,.int .i64 E.e]]) (by simp [results,Tryz.results206,go_sem,s0,s1,s2,r0,r1,r2]) rfl ?_;refine⟨k,HK.out.1.1,HK.out.1.2,?_⟩;have e1:=HC.out.1.1;have e2:=HC.out.1.2
  show nM w (norm false (2^(2*p)/(cD m e p k s).h) (-(p:Int))) (norm false (2^(2*p)/(cD m e p k s).l+1) (-(p:Int))) _ _
  rw[<-e1,<-e2];exact⟨_,_,rfl,⟨_,rfl,K1.out⟩,⟨_,rfl,K2.out⟩,cJ (cJ B2.out (by omega) _ _ _) (by omega) _ _ _⟩
open Go.RowKit Nt Fm
open Ea (Pr)
theorem NV.dr {w:World}{v:Value}{n:Nat}(h:NV w v n):NV w.drew v n:=h
def GD (w:World) (b:Nat) (d:D):Prop:= ∃a n c,ax w b 68 (.bool d.neg) (.slice a n c) (.int .i64 d.e)/\NV w (.slice a n c) d.m
theorem GD.below {w w':World}{b:Nat}{d:D}(h:GD w b d) (hb:Below w.heap.size w w'):GD w' b d:=by
 obtain⟨a,n,c,h1,h2⟩:=h;exact⟨a,n,c,h1.below hb,h2.below hb⟩
theorem GD.lt {w:World}{b:Nat}{d:D}(h:GD w b d):b<w.heap.size:=by obtain⟨a,n,c,h1,h2⟩:=h;exact h1.lt
theorem GD.drew {w:World}{b:Nat}{d:D}(h:GD w b d):GD w.drew b d:=h
theorem GD.drewN {w:World}{b:Nat}{d:D}(h:GD w b d) (n:Nat):GD (w.drewN n) b d:=h
theorem GD.alloc {w:World}{b:Nat}{d:D}(h:GD w b d) (o:Obj):GD (w.alloc o) b d:=h.below (br0.alloc le0 o)
theorem GD.new {w:World}{d:D}{a:Option Addr}{n c:Nat}(h:NV w (.slice a n c) d.m):GD (w.alloc (.cells #[.bool d.neg,.slice a n c,.int .i64 d.e] 68)) w.heap.size d:=⟨a,n,c,ax.new w _ _ _ _,h.alloc _⟩
theorem GD.new2 {w:World}{o:Obj}{d:D}{a:Option Addr}{n c:Nat}(h:NV w (.slice a n c) d.m):GD ((w.alloc o).alloc (.cells #[.bool d.neg,.slice a n c,.int .i64 d.e] 68)) (w.heap.size+1) d:=by
 have :=GD.new (h.alloc o)
 rwa [size_alloc]at this
theorem GD.nil (w:World):GD (w.alloc (.cells #[.bool false,.slice none 0 0,.int .i64 0] 68)) w.heap.size nz:=GD.new (d:=nz) (NV.nil w)
theorem GD.nil2 (w:World) (o:Obj):GD ((w.alloc o).alloc (.cells #[.bool false,.slice none 0 0,.int .i64 0] 68)) (w.heap.size+1) nz:=GD.new2 (d:=nz) (NV.nil w)
theorem GD.nil3 (w:World) (o p:Obj):GD (((w.alloc o).alloc p).alloc (.cells #[.bool false,.slice none 0 0,.int .i64 0] 68)) (w.heap.size+1+1) nz:=by
 have :=GD.nil2 (w.alloc o) p
 rwa [size_alloc]at this
theorem GD.store {w:World}{b b':Nat}{d e:D}(h:GD w b d) (h':GD w b' e) (hne:b≠b') (g:Bool) (a':Option Addr) (n' c':Nat) (x:Int):
  GD (((w.setCell ⟨b',0,none⟩ (.bool g)).setCell ⟨b',1,none⟩ (.slice a' n' c')).setCell ⟨b',2,none⟩ (.int .i64 x)) b d:=by
 obtain⟨a,n,c,h1,h2⟩:=h;obtain⟨a2,n2,c2,h3,h4⟩:=h';exact⟨a,n,c,((h1.set hne _).set hne _).set hne _,h2.setD h3⟩
theorem GD.put {w:World}{b:Nat}{d e:D}(h:GD w b d) {a':Option Addr}{n' c':Nat}(hv:NV w (.slice a' n' c') e.m):
  GD (((w.setCell ⟨b,0,none⟩ (.bool e.neg)).setCell ⟨b,1,none⟩ (.slice a' n' c')).setCell ⟨b,2,none⟩ (.int .i64 e.e)) b e:=by
 obtain⟨a,n,c,h1,h2⟩:=h;exact⟨a',n',c',h1.set3 _ _ _,hv.setD h1⟩
theorem GD.keep {w:World}{b:Nat}{d:D}(h:GD w b d) {v:Value}{m:Nat}(hv:NV w v m) (g:Bool) (a':Option Addr) (n' c':Nat) (x:Int):
  NV (((w.setCell ⟨b,0,none⟩ (.bool g)).setCell ⟨b,1,none⟩ (.slice a' n' c')).setCell ⟨b,2,none⟩ (.int .i64 x)) v m:=by
 obtain⟨a,n,c,h1,h2⟩:=h;exact hv.setD h1
theorem ax.st {w:World}{b b':Nat}{T:TypeId}{x y z:Value}(h:ax w b T x y z) (hne:b≠b') (u v t:Value):ax (((w.setCell ⟨b',0,none⟩ u).setCell ⟨b',1,none⟩ v).setCell ⟨b',2,none⟩ t) b T x y z:=((h.set hne _).set hne _).set hne _
theorem DV.parts {w:World}{v:Value}{d:D}(h:DV w v d):∃a n c,v=.agg #[.bool d.neg,.slice a n c,.int .i64 d.e]/\NV w (.slice a n c) d.m:=by
 obtain⟨s,h1,h2⟩:=h;obtain⟨a,n,c,rfl⟩:=h2.shape;exact⟨a,n,c,h1,h2⟩
theorem GD.two {u:World}{b c:Nat}{x y:D}(h:GD u b x) (h':GD u c y) (hne:c≠b) (p q r:Value):∃a n k,
  (((u.setCell ⟨b,0,none⟩ p).setCell ⟨b,1,none⟩ q).setCell ⟨b,2,none⟩ r).cell? ⟨c,0,none⟩=some (.bool y.neg)/\
  (((u.setCell ⟨b,0,none⟩ p).setCell ⟨b,1,none⟩ q).setCell ⟨b,2,none⟩ r).cell? ⟨c,1,none⟩=some (.slice a n k)/\
  (((u.setCell ⟨b,0,none⟩ p).setCell ⟨b,1,none⟩ q).setCell ⟨b,2,none⟩ r).cell? ⟨c,2,none⟩=some (.int .i64 y.e)/\
  (((u.setCell ⟨b,0,none⟩ p).setCell ⟨b,1,none⟩ q).setCell ⟨b,2,none⟩ r).frozen? ⟨c,0,none⟩=false/\
  (((u.setCell ⟨b,0,none⟩ p).setCell ⟨b,1,none⟩ q).setCell ⟨b,2,none⟩ r).frozen? ⟨c,1,none⟩=false/\
  (((u.setCell ⟨b,0,none⟩ p).setCell ⟨b,1,none⟩ q).setCell ⟨b,2,none⟩ r).frozen? ⟨c,2,none⟩=false:=by
 obtain⟨a,n,k,h1,-⟩:=h';exact⟨a,n,k,(h1.st hne p q r).cells⟩
theorem GD.cells {u:World}{c:Nat}{y:D}(h:GD u c y):∃a n k,u.cell? ⟨c,0,none⟩=some (.bool y.neg)/\u.cell? ⟨c,1,none⟩=some (.slice a n k)/\u.cell? ⟨c,2,none⟩=some (.int .i64 y.e)/\
  u.frozen? ⟨c,0,none⟩=false/\u.frozen? ⟨c,1,none⟩=false/\u.frozen? ⟨c,2,none⟩=false:=by
 obtain⟨a,n,k,h1,-⟩:=h;exact⟨a,n,k,h1.cells⟩
theorem QI {V P:World}(h:Below V.heap.size V P) (o:Obj):Below V.heap.size V (P.alloc o):=h.alloc h.size o
theorem mA (V:World):Below V.heap.size V V:=Below.refl _ _
def gh (V w:World) (b c:Nat) (C E:D):Prop:=b≠c/\V.heap.size<=b/\V.heap.size<=c/\Below V.heap.size V w/\GD w b C/\GD w c E
theorem yT {V u:World}{b c:Nat}{C E:D}{a1:Option Addr}{n1 c1:Nat}{a2:Option Addr}{n2 c2:Nat}{x1 y1:D}(h:Below V.heap.size V u) (hb:GD u b x1) (hc:GD u c y1) (hne:b≠c) (h1:V.heap.size<=b) (h2:V.heap.size<=c) (hC:NV u (.slice a1 n1 c1) C.m) (hE:NV u (.slice a2 n2 c2) E.m):
  gh V (((((((u.setCell ⟨b,0,none⟩ (.bool C.neg)).setCell ⟨b,1,none⟩ (.slice a1 n1 c1)).setCell ⟨b,2,none⟩ (.int .i64 C.e)).setCell ⟨c,0,none⟩ (.bool E.neg)).setCell ⟨c,1,none⟩ (.slice a2 n2 c2)).setCell ⟨c,2,none⟩ (.int .i64 E.e))) b c C E:=
 ⟨hne,h1,h2,cJ (cJ h h1 _ _ _) h2 _ _ _,(hb.put hC).store (hc.store hb (gX hne) _ _ _ _ _) hne _ _ _ _ _,(hc.store hb (gX hne) _ _ _ _ _).put (hb.keep hE _ _ _ _ _)⟩
theorem Nk (v:Value) (x:Pr) (neg:Bool) (p k0:Nat) (P:Int) (w:World) (hT:aQ w) (hv:PV w v x) (hP:P=(p:Int)) (hl:x.l<2^k0) (hh:x.h<2^k0) (hk0:k0<=15000000000000) (hp:p<=15000000000000):
  Calls prog 245 #[v,.bool neg,.int .i64 P] w
   (nM w (if neg then aO (norm false x.h (-(p:Int))) else norm false x.l (-(p:Int))) (if neg then aO (norm false x.l (-(p:Int))) else norm false x.h (-(p:Int)))):=by
 subst hP;obtain⟨a1,n1,c1,a2,n2,c2,rfl,h1,h2⟩:=hv.parts;have DY:=hid (fun w' ht hv=>Hq (.agg #[.slice a1 n1 c1,.slice a2 n2 c2]) x p k0 p w' ht hv rfl hl hh (by omega) (by omega));have hCm:(norm false x.l (-(p:Int))).m<2^k0:=de (tU _ _ _) hl;have hEm:(norm false x.h (-(p:Int))).m<2^k0:=de (tU _ _ _) hh;generalize norm false x.l (-(p:Int))=C at *;generalize norm false x.h (-(p:Int))=E at *;have OC:=hid (fun v w' hd=>yR v C k0 w' hd hCm (by omega));have OE:=hid (fun v w' hd=>yR v E k0 w' hd hEm (by omega));have HP:=hid hv;have HT:=hid hT;clear h1 h2 hv hl hh hT hCm hEm;cases neg
 .simp only[ga,e9]
  clear OC OE;go_enter func245,ntmps245;go_wp2_with fail
  refine(DY.out _ (HT.out.below (ff _ _ _ _)) (HP.out.below (ff _ _ _ _))).mono ?_;rintro r w1 ⟨u1,u2,rfl,hu1,hu2,hb1⟩;obtain⟨e1,f1,g1,rfl,hv1⟩:=hu1.parts;obtain⟨e2,f2,g2,rfl,hv2⟩:=hu2.parts;have B1:=af (ff w _ _ _) le0 hb1;have L1:=((GD.nil2 w (.cells #[.slice a1 n1 c1,.slice a2 n2 c2] 238)).alloc (.cells #[.bool false,.slice none 0 0,.int .i64 0] 68)).below hb1;have M1:=(GD.nil3 w (.cells #[.slice a1 n1 c1,.slice a2 n2 c2] 238) (.cells #[.bool false,.slice none 0 0,.int .i64 0] 68)).below hb1;have hz:w.heap.size+1+1<w1.heap.size:=M1.lt;obtain⟨V1,hV1⟩:∃V,V=((w1.alloc (.cells #[.bool C.neg,.slice e1 f1 g1,.int .i64 C.e] 68)).alloc (.cells #[.bool E.neg,.slice e2 f2 g2,.int .i64 E.e] 68)):=⟨_,rfl⟩;have HL:=hid (show GD V1 (w.heap.size+1) nz from by rw[hV1];exact(L1.alloc _).alloc _);have HM:=hid (show GD V1 (w.heap.size+1+1) nz from by rw[hV1];exact(M1.alloc _).alloc _);have HC:=hid (show ax V1 w1.heap.size 68 (.bool C.neg) (.slice e1 f1 g1) (.int .i64 C.e) from by rw[hV1];exact(ax.new w1 _ _ _ _).alloc _);have HE:=hid (show ax V1 (w1.heap.size+1) 68 (.bool E.neg) (.slice e2 f2 g2) (.int .i64 E.e) from by rw[hV1];exact ax.new2 w1 _ _ _ _ _);have NC:=hid (show NV V1 (.slice e1 f1 g1) C.m from by rw[hV1];exact(hv1.alloc _).alloc _);have NE:=hid (show NV V1 (.slice e2 f2 g2) E.m from by rw[hV1];exact(hv2.alloc _).alloc _);have BB:=hid (show Below w.heap.size w V1 from by rw[hV1];exact(B1.alloc (by omega) _).alloc (by simp;omega) _);obtain⟨b8,hb8⟩:∃b8,b8=w1.heap.size:=⟨_,rfl⟩;rw[<-hb8]at HC HE hz
  clear hu1 hu2 hb1 hv1 hv2 B1 L1 M1;go_wp2_with fail
  rw[<-hV1,<-hb8];clear hV1 hb8;obtain⟨q0,q1,q2,-,-,-⟩:=HC.out.drew.cells;obtain⟨r0,r1,r2,-,-,-⟩:=HE.out.drew.cells;obtain⟨y1,y2,y3,hY,-⟩:=HL.out.drew;have HY:=hid hY;obtain⟨z1,z2,z3,hZ,-⟩:=(HM.out.store HL.out (by omega) C.neg e1 f1 g1 C.e).drew;have HZ:=hid hZ;obtain⟨s0,s1,s2,t0,t1,t2⟩:=HY.out.cells;obtain⟨x0,x1,x2,x3,x4,x5⟩:=HZ.out.cells;have HY0:=hid (show ax V1 _ _ _ _ _ from HY.out);have HZ0:=hid (show ax (((V1.setCell ⟨w.heap.size+1,0,none⟩ (.bool C.neg)).setCell ⟨w.heap.size+1,1,none⟩ (.slice e1 f1 g1)).setCell ⟨w.heap.size+1,2,none⟩ (.int .i64 C.e)) _ _ _ _ _ from HZ.out);obtain⟨sa0,sa1,sa2,ta0,ta1,ta2⟩:=HY0.out.cells;obtain⟨xa0,xa1,xa2,xa3,xa4,xa5⟩:=HZ0.out.cells;clear hY hZ
  go_region_held3 (fun w'=>(w'.cell? ⟨b8,0,none⟩=some (.bool C.neg)/\w'.cell? ⟨b8,1,none⟩=some (.slice e1 f1 g1)/\w'.cell? ⟨b8,2,none⟩=some (.int .i64 C.e))/\(w'.cell? ⟨b8+1,0,none⟩=some (.bool E.neg)/\w'.cell? ⟨b8+1,1,none⟩=some (.slice e2 f2 g2)/\w'.cell? ⟨b8+1,2,none⟩=some (.int .i64 E.e)))
   (first
    |with_reducible exact⟨⟨q0,q1,q2⟩,⟨r0,r1,r2⟩⟩
    |(obtain⟨q0,q1,q2,-,-,-⟩:=(HC.out.st (b':=w.heap.size+1) (by omega) (.bool C.neg) (.slice e1 f1 g1) (.int .i64 C.e)).drew.cells
      obtain⟨r0,r1,r2,-,-,-⟩:=(HE.out.st (b':=w.heap.size+1) (by omega) (.bool C.neg) (.slice e1 f1 g1) (.int .i64 C.e)).drew.cells
      with_reducible exact⟨⟨q0,q1,q2⟩,⟨r0,r1,r2⟩⟩)
    |(obtain⟨q0,q1,q2,-,-,-⟩:=((HC.out.st (b':=w.heap.size+1) (by omega) (.bool C.neg) (.slice e1 f1 g1) (.int .i64 C.e)).st (b':=w.heap.size+1+1) (by omega) (.bool E.neg) (.slice e2 f2 g2) (.int .i64 E.e)).drew.cells
      obtain⟨r0,r1,r2,-,-,-⟩:=((HE.out.st (b':=w.heap.size+1) (by omega) (.bool C.neg) (.slice e1 f1 g1) (.int .i64 C.e)).st (b':=w.heap.size+1+1) (by omega) (.bool E.neg) (.slice e2 f2 g2) (.int .i64 E.e)).drew.cells
      with_reducible exact⟨⟨q0,q1,q2⟩,⟨r0,r1,r2⟩⟩))
   (fail)
  clear q0 q1 q2 r0 r1 r2 s0 s1 s2 t0 t1 t2 x0 x1 x2 x3 x4 x5 sa0 sa1 sa2 ta0 ta1 ta2 xa0 xa1 xa2 xa3 xa4 xa5;go_wp2;have K0:=hid (HM.out.store HL.out (by omega) C.neg e1 f1 g1 C.e);have K1:=hid (((HL.out.put (e:=C) NC.out).store K0.out (by omega) E.neg e2 f2 g2 E.e).drew);have K2:=hid ((K0.out.put (e:=E) (HL.out.keep NE.out C.neg e1 f1 g1 C.e)).drew);have R1:=hid (((HY0.out.set3 (.bool C.neg) (.slice e1 f1 g1) (.int .i64 C.e)).st (b':=w.heap.size+1+1) (by omega) (.bool E.neg) (.slice e2 f2 g2) (.int .i64 E.e)).drew);have R2:=hid ((HZ0.out.set3 (.bool E.neg) (.slice e2 f2 g2) (.int .i64 E.e)).drew);have N1:=hid (K0.out.keep (HL.out.keep NC.out C.neg e1 f1 g1 C.e) E.neg e2 f2 g2 E.e);have N2:=hid (K0.out.keep (HL.out.keep NE.out C.neg e1 f1 g1 C.e) E.neg e2 f2 g2 E.e);obtain⟨W,hW⟩:∃W,W=((((((V1.setCell ⟨w.heap.size+1,0,none⟩ (.bool C.neg)).setCell ⟨w.heap.size+1,1,none⟩ (.slice e1 f1 g1)).setCell ⟨w.heap.size+1,2,none⟩ (.int .i64 C.e)).setCell ⟨w.heap.size+1+1,0,none⟩ (.bool E.neg)).setCell ⟨w.heap.size+1+1,1,none⟩ (.slice e2 f2 g2)).setCell ⟨w.heap.size+1+1,2,none⟩ (.int .i64 E.e)).drew:=⟨_,rfl⟩;have BBW:=hid (show Below w.heap.size w W from by rw[hW];exact(cJ (cJ BB.out (by omega) _ _ _) (by omega) _ _ _).drew);have RW1:=hid (show ax W (w.heap.size+1) 68 (.bool C.neg) (.slice e1 f1 g1) (.int .i64 C.e) from by rw[hW];exact R1.out);have RW2:=hid (show ax W (w.heap.size+1+1) 68 (.bool E.neg) (.slice e2 f2 g2) (.int .i64 E.e) from by rw[hW];exact R2.out);have NW1:=hid (show NV W (.slice e1 f1 g1) C.m from by rw[hW];exact N1.out.dr)
  have NW2:=hid (show NV W (.slice e2 f2 g2) E.m from by rw[hW];exact N2.out.dr);rw[<-hW];clear hW R1 R2 N1 N2 K0 K1 K2;obtain⟨s0,s1,s2,-,-,-⟩:=RW1.out.cells;obtain⟨r0,r1,r2,-,-,-⟩:=RW2.out.cells;refine bodyPost_ret (v:= .tuple #[.agg #[.bool C.neg,.slice e1 f1 g1,.int .i64 C.e],.agg #[.bool E.neg,.slice e2 f2 g2,.int .i64 E.e]]) (by simp [results,Tryz.results245,go_sem,s0,s1,s2,r0,r1,r2]) rfl ?_;exact⟨_,_,rfl,⟨_,rfl,NW1.out⟩,⟨_,rfl,NW2.out⟩,BBW.out⟩
 .simp only[cQ]
  go_enter func245,ntmps245;go_wp2_with fail
  refine(DY.out _ (HT.out.below (ff _ _ _ _)) (HP.out.below (ff _ _ _ _))).mono ?_;rintro r w1 ⟨u1,u2,rfl,hu1,hu2,hb1⟩;obtain⟨e1,f1,g1,rfl,hv1⟩:=hu1.parts;obtain⟨e2,f2,g2,rfl,hv2⟩:=hu2.parts;have B1:=af (ff w _ _ _) le0 hb1;have L1:=((GD.nil2 w (.cells #[.slice a1 n1 c1,.slice a2 n2 c2] 238)).alloc (.cells #[.bool false,.slice none 0 0,.int .i64 0] 68)).below hb1;have M1:=(GD.nil3 w (.cells #[.slice a1 n1 c1,.slice a2 n2 c2] 238) (.cells #[.bool false,.slice none 0 0,.int .i64 0] 68)).below hb1;have hz:w.heap.size+1+1<w1.heap.size:=M1.lt;obtain⟨V1,hV1⟩:∃V,V=((w1.alloc (.cells #[.bool C.neg,.slice e1 f1 g1,.int .i64 C.e] 68)).alloc (.cells #[.bool E.neg,.slice e2 f2 g2,.int .i64 E.e] 68)):=⟨_,rfl⟩;have HL:=hid (show GD V1 (w.heap.size+1) nz from by rw[hV1];exact(L1.alloc _).alloc _);have HM:=hid (show GD V1 (w.heap.size+1+1) nz from by rw[hV1];exact(M1.alloc _).alloc _);have HC:=hid (show ax V1 w1.heap.size 68 (.bool C.neg) (.slice e1 f1 g1) (.int .i64 C.e) from by rw[hV1];exact(ax.new w1 _ _ _ _).alloc _);have HE:=hid (show ax V1 (w1.heap.size+1) 68 (.bool E.neg) (.slice e2 f2 g2) (.int .i64 E.e) from by rw[hV1];exact ax.new2 w1 _ _ _ _ _);have NC:=hid (show NV V1 (.slice e1 f1 g1) C.m from by rw[hV1];exact(hv1.alloc _).alloc _);have NE:=hid (show NV V1 (.slice e2 f2 g2) E.m from by rw[hV1];exact(hv2.alloc _).alloc _);have BB:=hid (show Below w.heap.size w V1 from by rw[hV1];exact(B1.alloc (by omega) _).alloc (by simp;omega) _);obtain⟨b8,hb8⟩:∃b8,b8=w1.heap.size:=⟨_,rfl⟩;rw[<-hb8]at HC HE hz
  clear hu1 hu2 hb1 hv1 hv2 B1 L1 M1;go_wp2_with fail
  rw[<-hV1,<-hb8];clear hV1 hb8;obtain⟨q0,q1,q2,-,-,-⟩:=HC.out.drew.cells;obtain⟨r0,r1,r2,-,-,-⟩:=HE.out.drew.cells
  go_region_held3 (fun w'=>(w'.cell? ⟨b8,0,none⟩=some (.bool C.neg)/\w'.cell? ⟨b8,1,none⟩=some (.slice e1 f1 g1)/\w'.cell? ⟨b8,2,none⟩=some (.int .i64 C.e))/\(w'.cell? ⟨b8+1,0,none⟩=some (.bool E.neg)/\w'.cell? ⟨b8+1,1,none⟩=some (.slice e2 f2 g2)/\w'.cell? ⟨b8+1,2,none⟩=some (.int .i64 E.e)))
   (first
    |with_reducible exact⟨⟨q0,q1,q2⟩,⟨r0,r1,r2⟩⟩
    |(obtain⟨q0,q1,q2,-,-,-⟩:=(HC.out.drew.below hb2).cells
      obtain⟨r0,r1,r2,-,-,-⟩:=(HE.out.drew.below hb2).cells
      with_reducible exact⟨⟨q0,q1,q2⟩,⟨r0,r1,r2⟩⟩)
    |(obtain⟨q0,q1,q2,-,-,-⟩:=((HC.out.drew.below HB2.out).below hb3).cells
      obtain⟨r0,r1,r2,-,-,-⟩:=((HE.out.drew.below HB2.out).below hb3).cells
      with_reducible exact⟨⟨q0,q1,q2⟩,⟨r0,r1,r2⟩⟩)
    |(obtain⟨q0,q1,q2,-,-,-⟩:=(((HC.out.drew.below HB2.out).below HB3.out).st (b':=w.heap.size+1) (by omega) (.bool (aO E).neg) (.slice k1 k2 k3) (.int .i64 (aO E).e)).cells
      obtain⟨r0,r1,r2,-,-,-⟩:=(((HE.out.drew.below HB2.out).below HB3.out).st (b':=w.heap.size+1) (by omega) (.bool (aO E).neg) (.slice k1 k2 k3) (.int .i64 (aO E).e)).cells
      with_reducible exact⟨⟨q0,q1,q2⟩,⟨r0,r1,r2⟩⟩)
    |(obtain⟨q0,q1,q2,-,-,-⟩:=((((HC.out.drew.below HB2.out).below HB3.out).st (b':=w.heap.size+1) (by omega) (.bool (aO E).neg) (.slice k1 k2 k3) (.int .i64 (aO E).e)).st (b':=w.heap.size+1+1) (by omega) (.bool (aO C).neg) (.slice k4 k5 k6) (.int .i64 (aO C).e)).cells
      obtain⟨r0,r1,r2,-,-,-⟩:=((((HE.out.drew.below HB2.out).below HB3.out).st (b':=w.heap.size+1) (by omega) (.bool (aO E).neg) (.slice k1 k2 k3) (.int .i64 (aO E).e)).st (b':=w.heap.size+1+1) (by omega) (.bool (aO C).neg) (.slice k4 k5 k6) (.int .i64 (aO C).e)).cells
      with_reducible exact⟨⟨q0,q1,q2⟩,⟨r0,r1,r2⟩⟩))
   (first
    |(go_at_call_of 207 (Value.slice e2 f2 g2);refine(OE.out _ _ ⟨_,rfl,NE.out.dr⟩).mono ?_;rintro r w2 ⟨v2,rfl,hu2,hb2⟩;obtain⟨k1,k2,k3,rfl,hv2⟩:=hu2.parts;have HB2:=hid hb2;have HV2:=hid hv2;have B2:=hid (af BB.out.drew le0 hb2))
    |(go_at_call_of 207 (Value.slice e1 f1 g1);refine(OC.out _ _ ⟨_,rfl,NC.out.dr.below HB2.out⟩).mono ?_;rintro r w3 ⟨v3,rfl,hu3,hb3⟩;obtain⟨k4,k5,k6,rfl,hv3⟩:=hu3.parts;have HB3:=hid hb3;have HV3:=hid hv3;have HV23:=hid (HV2.out.below hb3);have B3:=bt0 B2 hb3;have HL3:=hid ((HL.out.drew.below HB2.out).below hb3);have HM3:=hid ((HM.out.drew.below HB2.out).below hb3);obtain⟨y1,y2,y3,hY,-⟩:=HL3.out;have HY:=hid hY;obtain⟨z1,z2,z3,hZ,-⟩:=(HM3.out.store HL3.out (by omega) (aO E).neg k1 k2 k3 (aO E).e);have HZ:=hid hZ;obtain⟨s0,s1,s2,t0,t1,t2⟩:=HY.out.cells;obtain⟨x0,x1,x2,x3,x4,x5⟩:=HZ.out.cells;clear hY hZ))
  clear q0 q1 q2 r0 r1 r2 s0 s1 s2 t0 t1 t2 x0 x1 x2 x3 x4 x5 hb2 hb3 hv2 hv3 hu2 hu3;go_wp2;have K0:=hid (HM3.out.store HL3.out (by omega) (aO E).neg k1 k2 k3 (aO E).e);have R1:=hid ((HY.out.set3 (.bool (aO E).neg) (.slice k1 k2 k3) (.int .i64 (aO E).e)).st (b':=w.heap.size+1+1) (by omega) (.bool (aO C).neg) (.slice k4 k5 k6) (.int .i64 (aO C).e));have R2:=hid (HZ.out.set3 (.bool (aO C).neg) (.slice k4 k5 k6) (.int .i64 (aO C).e));have N1:=hid (K0.out.keep (HL3.out.keep HV23.out (aO E).neg k1 k2 k3 (aO E).e) (aO C).neg k4 k5 k6 (aO C).e);have N2:=hid (K0.out.keep (HL3.out.keep HV3.out (aO E).neg k1 k2 k3 (aO E).e) (aO C).neg k4 k5 k6 (aO C).e);obtain⟨s0,s1,s2,t0,t1,t2⟩:=R1.out.cells;obtain⟨r0,r1,r2,u0,u1,u2⟩:=R2.out.cells;refine bodyPost_ret (v:= .tuple #[.agg #[.bool (aO E).neg,.slice k1 k2 k3,.int .i64 (aO E).e],.agg #[.bool (aO C).neg,.slice k4 k5 k6,.int .i64 (aO C).e]]) (by simp [results,Tryz.results245,go_sem,s0,s1,s2,r0,r1,r2]) rfl ?_;exact⟨_,_,rfl,⟨_,rfl,N1.out⟩,⟨_,rfl,N2.out⟩,cJ (cJ B3.out (by omega) _ _ _) (by omega) _ _ _⟩
open Go.RowKit Nt Fm
open Ea (Pr cD nE ts)
theorem rz (n p:Nat): -(p:Int)<=(norm false n (-(p:Int))).e:=by
 rcases @J3 false n (-(p:Int)) with h|h
 .rw[h];unfold nz;simp only;omega
 .exact h
theorem sP (n p:Nat):(norm false n (-(p:Int))).vl p=(n:Int):=by
 rw[j9 _ _ _ _ (by omega)];unfold D.vl D.sm;simp only[ga,e9];rw[show(-(p:Int)+(p:Int)).toNat=0 by omega];simp
open Go.RowKit Nt Fm
open Ea (Pr cD nE ts tw PB)
def rv (d:D):Rat:=(d.sm:Rat)*tw d.e
theorem jd {m:Nat}{e:Int} :rv ⟨false,m,e⟩=(m:Rat)*tw e:=rfl
theorem rb {m:Nat}{e:Int} :rv ⟨true,m,e⟩= -((m:Rat)*tw e):=by
 show((-(m:Int):Int):Rat)*tw e=_
 rw[Af]
 show -(m:Rat)*tw e=_
 rw[Fw]
theorem Bz {neg:Bool}{m p k s b:Nat}{e:Int}(hm:m<2^b) (hs:(b:Int)+e-s<= -16) (hp:16<=p) (hk:k<=p) (hend:(Ea.bZ (Ea.dz m (e-s) p) p k).h<=1):
  Ea.Good (rv ⟨neg,m,e⟩) p (fT neg m e p k s)/\(fT neg m e p k s).l<=(fT neg m e p k s).h/\(fT neg m e p k s).h<=(fT neg m e p k s).l+(2*Ea.Ww k s+1)/\(fT neg m e p k s).h<2^(p+3*2^s+1):=by
 obtain⟨h1,h2,h3,h4,h5⟩:=Ea.FY hm hs hp hk hend;have e8:2^p*8^2^s=2^(p+3*2^s):=by rw[show(8:Nat)=2^3 by decide,<-jU,<-aB]
 rw[e8]at h4;have h6:2^(p+3*2^s+1)=2*2^(p+3*2^s):=by rw[bH];omega
 have h7:2^p<=2^(p+3*2^s):=aG (by decide) (by omega);have h8:=az p;unfold fT;cases neg
 .simp only[ga,e9]
  exact⟨by rw[jd];exact h5,h2,by omega,by omega⟩
 .simp only[cQ]
  obtain⟨n1,n2,n3⟩:=Ea.ZJ (w:=Ea.Ww k s) h5 h1 h2 (by omega);refine⟨by rw[rb];exact n1,?_,by omega,by omega⟩
  show 2^(2*p)/(cD m e p k s).h<=2^(2*p)/(cD m e p k s).l+1
  have :=Nat.div_le_div_left (a:=2^(2*p)) h2 (show 0<(cD m e p k s).l by omega);omega
open Go.RowKit Nt Fm
open Ea (Pr ts tw PB)
theorem oV (d:D) {T:Nat}(h:0<=d.e+T):rv d*2^T=((d.vl T:Int):Rat):=by
 unfold rv D.vl;rw[iu,<-Ea.bN,<-Ea.fM,sk,show d.e+(T:Int)=(((d.e+T).toNat:Nat):Int) by omega,Ea.bN];congr 1;rw[gf,Rat.intCast_pow];rfl
theorem Jo {c d:D} :cmp c d<=0↔rv c<=rv d:=by
 obtain⟨T,h1,h2⟩:=ly c.e d.e;have hP:=Ea.two_pos T;rw[La c d T h1 h2];have e:rv c<=rv d↔rv c*2^T<=rv d*2^T:=⟨fun h=>aV h (aJ hP),fun h=>iw h hP⟩;rw[e,oV c h1,oV d h2,pE];rcases Ox (c.vl T-d.vl T) 0 with h|h|h
 .rw[Ob h];omega
 .rw[h];simp;omega
 .rw[EV h];omega
theorem o0 (g:Bool) (m:Nat) (e:Int):rv (norm g m e)=rv ⟨g,m,e⟩:=by
 obtain⟨T,h1,-⟩:=ly e e;have hP:=Ea.two_pos T;have a:=oV (norm g m e) (mZ h1);have b:=oV (⟨g,m,e⟩:D) (T:=T) h1;rw[j9 _ _ _ _ h1,<-b]at a;have :(rv (norm g m e)-rv ⟨g,m,e⟩)*2^T=0:=by grind
 rcases gr.1 this with h|h
 .grind
 .grind
theorem Xi (q e:Int):rv (ofInt q e)=(q:Rat)*tw e:=by
 unfold ofInt;rw[o0];unfold rv D.sm;congr 2;simp only[da];split <;> omega
theorem we {a k l:Nat}(h:2^l<=a) (hk:k<=l):2^k<=a:=ct (aG (by decide) hk) h
theorem RD.size {w:World}{g:Bool}{ao:Option Addr}{n cp:Nat}{x:Int}{d:D}(h:RD w (.agg #[.bool g,.slice ao n cp,.int .i64 x]) 0 d):(n<=40/\d.m<2^1280)\/(40<n/\2^1280<=d.m):=by
 obtain⟨g',ao',n',cp',x',e,-,-,-,h7,-⟩:=h;obtain⟨rfl,⟨rfl,rfl,rfl⟩,rfl⟩:g=g'/\(ao=ao'/\n=n'/\cp=cp')/\x=x':=by simpa using e
 obtain⟨⟨l,h1,h2,-,ao2,c2,e2,-⟩,-⟩:=h7 rfl;obtain⟨-,rfl,-⟩:ao=ao2/\n=l.length/\cp=c2:=by simpa using e2
 by_cases hn:l.length<=40
 .left
  refine⟨hn,?_⟩;rw[<-h2];exact l_ (b:=1280) (fV h1.1) (by omega)
 .right
  refine⟨by omega,?_⟩;rw[<-h2];have :=h1.ge (l.length-1) (by omega);exact we (k:=1280) this (by omega)
open Go.RowKit Nt Fm
open Ea (tw)
theorem ta (d:D):rv (aO d)= -rv d:=by
 unfold rv;rw[IZ,Af,Fw];rfl
theorem ib (c d:D):rv (plus c d)=rv c+rv d:=by
 obtain⟨T,h1,h2⟩:=ly c.e d.e;have hP:=Ea.two_pos T;have a:=oV (plus c d) (uW h1 h2);rw[qt c d T h1 h2,wz,<-oV c h1,<-oV d h2]at a;have :(rv (plus c d)-(rv c+rv d))*2^T=0:=by grind
 rcases gr.1 this with h|h <;> grind
theorem P8 (c d:D):rv (times c d)=rv c*rv d:=by
 unfold times;rw[Xi,sk,Ea.fM];unfold rv;grind
theorem qN (n:Rat) (p:Nat):n*tw (-(p:Int))=n/2^p:=by
 have hP:=Ea.two_pos p;have h1:n/2^p*2^p=n:=bM (cR hP);have h2:tw (-(p:Int))*2^p=1:=by rw[<-Ea.bN,Ea.mE]
 have h3:(n*tw (-(p:Int))-n/2^p)*2^p=0:=by grind
 rcases gr.1 h3 with h|h <;> grind
