import Derived.Test.YtofdjfdnckmmmaaGreatDoorOv
import Derived.Deep.RegionHeld3
import Derived.Deep.DeepCutAuto
set_option linter.all false
set_option maxHeartbeats 8000000
set_option maxRecDepth 100000
open Go.Proofs.Tryz
open Go.Lib (hid)
namespace Go.Proofs.YtofdjfdnckmmmaaGreatDoor
open Go.RowKit Nt Fm
open Ea (Pr iF cy eU jN dz cN)
theorem LJ {a b k:Nat}(ha:a<2^k) (hb:b<2^k):a*b<2^(2*k):=by
 rw[show 2*k=k+k by omega,aB];exact Fu ha hb
theorem xG (v u:Value) (x y:Pr) (p k0:Nat) (X:Int) (w:World) (hv:PV w v x) (hu:PV w u y) (hX:X=(p:Int)) (hxl:x.l<2^k0) (hxh:x.h<2^k0) (hyl:y.l<2^k0) (hyh:y.h<2^k0) (hk0:k0<=50000000000000) (hp:p<=120000000000000):
  Calls prog 243 #[v,u,.int .i64 X] w (v_ w (cy x y p)):=by
 subst hX;obtain⟨a1,n1,c1,a2,n2,c2,rfl,h1,h2⟩:=hv.parts;obtain⟨a3,n3,c3,a4,n4,c4,rfl,h3,h4⟩:=hu.parts;obtain⟨xl,xh⟩:=x;obtain⟨yl,yh⟩:=y;simp only at *;have g1:=LJ hxl hyl;have g2:=LJ hxh hyh;have T1:=hid (fun w' ha hb=>kB (.slice a1 n1 c1) (.slice a3 n3 c3) xl yl k0 w' ha hb hxl hyl (by omega));have T2:=hid (fun w' ha hb=>kB (.slice a2 n2 c2) (.slice a4 n4 c4) xh yh k0 w' ha hb hxh hyh (by omega));have HA:=hid (fun v w' (h:PV w' v ⟨xl*yl,xh*yh⟩)=>L7 v _ p (2*k0) p w' h rfl g1 g2 (by omega) hp);have hY:cy ⟨xl,xh⟩ ⟨yl,yh⟩ p=iF ⟨xl*yl,xh*yh⟩ p:=rfl;rw[hY];generalize iF ⟨xl*yl,xh*yh⟩ p=Y at *;generalize xl*yl=ql at *;generalize xh*yh=qh at *;have H1:=hid h1;have H2:=hid h2;have H3:=hid h3;have H4:=hid h4;clear h1 h2 h3 h4 hv hu hxl hxh hyl hyh g1 g2 hY;go_enter func243,ntmps243;go_wp2_with fail
 obtain⟨V,hV⟩:∃V,V=(((w.alloc (.cells #[.slice a1 n1 c1,.slice a2 n2 c2] 238)).alloc (.cells #[.slice a3 n3 c3,.slice a4 n4 c4] 238)).alloc (.cells #[.slice none 0 0,.slice none 0 0] 238)):=⟨_,rfl⟩;have XC:Hid (Bp V w.heap.size (.slice a1 n1 c1) (.slice a2 n2 c2)):=hid (by rw[hV];exact((Bp.new w (.slice a1 n1 c1) (.slice a2 n2 c2)).alloc (.cells #[.slice a3 n3 c3,.slice a4 n4 c4] 238) |>.alloc (.cells #[.slice none 0 0,.slice none 0 0] 238)));have XD:Hid (Bp V (w.heap.size+1) (.slice a3 n3 c3) (.slice a4 n4 c4)):=hid (by rw[hV];exact((Bp.new2 w (.cells #[.slice a1 n1 c1,.slice a2 n2 c2] 238) (.slice a3 n3 c3) (.slice a4 n4 c4)).alloc (.cells #[.slice none 0 0,.slice none 0 0] 238)));have XR:Hid (Bp V (w.heap.size+1+1) (.slice none 0 0) (.slice none 0 0)):=hid (by rw[hV];exact(Bp.new3 w (.cells #[.slice a1 n1 c1,.slice a2 n2 c2] 238) (.cells #[.slice a3 n3 c3,.slice a4 n4 c4] 238) (.slice none 0 0) (.slice none 0 0)));have B0:Hid (Below w.heap.size w V):=hid (by rw[hV];exact ff w (.cells #[.slice a1 n1 c1,.slice a2 n2 c2] 238) (.cells #[.slice a3 n3 c3,.slice a4 n4 c4] 238) (.cells #[.slice none 0 0,.slice none 0 0] 238));rw[<-hV];clear hV;obtain⟨p0,p1,-,-⟩:=XC.out.drew.cells;obtain⟨r0,r1,-,-⟩:=XD.out.drew.cells
 go_region_held3 (fun w'=>w'.cell? ⟨w.heap.size,0,none⟩=some (.slice a1 n1 c1)/\w'.cell? ⟨w.heap.size,1,none⟩=some (.slice a2 n2 c2)/\w'.cell? ⟨w.heap.size+1,0,none⟩=some (.slice a3 n3 c3)/\w'.cell? ⟨w.heap.size+1,1,none⟩=some (.slice a4 n4 c4))
  (first
   |with_reducible exact⟨p0,p1,r0,r1⟩
   |(obtain⟨p0,p1,-,-⟩:=(XC.out.drew.below hb1).cells
     obtain⟨r0,r1,-,-⟩:=(XD.out.drew.below hb1).cells
     with_reducible exact⟨p0,p1,r0,r1⟩)
   |(obtain⟨p0,p1,-,-⟩:=((XC.out.drew.below HB1.out).below hb2).cells
     obtain⟨r0,r1,-,-⟩:=((XD.out.drew.below HB1.out).below hb2).cells
     with_reducible exact⟨p0,p1,r0,r1⟩)
   |(obtain⟨p0,p1,-,-⟩:=(((XC.out.drew.below HB1.out).below HB2.out).below hb3).cells
     obtain⟨r0,r1,-,-⟩:=(((XD.out.drew.below HB1.out).below HB2.out).below hb3).cells
     with_reducible exact⟨p0,p1,r0,r1⟩)
   |(obtain⟨p0,p1,-,-⟩:=(((((XC.out.drew.below HB1.out).below HB2.out).below HB3.out).set (b':=w.heap.size+1+1) (o:=0) (by omega) (.slice e3 f3 g3)).set (b':=w.heap.size+1+1) (o:=1) (by omega) (.slice e4 f4 g4)).cells
     obtain⟨r0,r1,-,-⟩:=(((((XD.out.drew.below HB1.out).below HB2.out).below HB3.out).set (b':=w.heap.size+1+1) (o:=0) (by omega) (.slice e3 f3 g3)).set (b':=w.heap.size+1+1) (o:=1) (by omega) (.slice e4 f4 g4)).cells
     with_reducible exact⟨p0,p1,r0,r1⟩)
   |(go_keep;done))
  (first
  |(go_at_call_of 63 (Value.slice a1 n1 c1);refine(T1.out _ (H1.out.below B0.out.drew) (H3.out.below B0.out.drew)).mono ?_;rintro r w1 ⟨v1,rfl,hv1,hb1⟩;obtain⟨e1,f1,g1,rfl⟩:=hv1.shape;have HB1:=hid hb1;have HV1:=hid hv1;have B1:=hid (af B0.out.drew le0 hb1))
  |(go_at_call_of 63 (Value.slice a2 n2 c2);refine(T2.out _ (H2.out.below B1.out) (H4.out.below B1.out)).mono ?_;rintro r w2 ⟨v2,rfl,hv2,hb2⟩;obtain⟨e2,f2,g2,rfl⟩:=hv2.shape;have HB2:=hid hb2;have HV2:=hid hv2;have B2:=bt0 B1 hb2)
  |(go_at_call 249;refine(HA.out _ _ ⟨_,_,rfl,HV1.out.below HB2.out,HV2.out⟩).mono ?_;rintro r w3 ⟨v3,rfl,hp3,hb3⟩;obtain⟨e3,f3,g3,e4,f4,g4,rfl,hv3,hv4⟩:=hp3.parts;have HB3:=hid hb3;have HV3:=hid hv3;have HV4:=hid hv4;have B3:=bt0 B2 hb3;have R3:=hid (((XR.out.drew.below HB1.out).below HB2.out).below hb3);obtain⟨z0,z1,z2,z3⟩:=R3.out.cells;obtain⟨u0,u1,u2,u3⟩:=R3.out.drew.cells))
 have R4:=hid (R3.out.set2 (.slice e3 f3 g3) (.slice e4 f4 g4));clear z0 z1 z2 z3 u0 u1 u2 u3 hb1 hb2 hb3 hv1 hv2 hv3 hv4 hp3 p0 p1 r0 r1;obtain⟨s0,s1,t0,t1⟩:=R4.out.cells;go_wp2;refine bodyPost_ret (v:= .agg #[.slice e3 f3 g3,.slice e4 f4 g4]) (by simp [results,Tryz.results243,go_sem,s0,s1]) rfl ?_;exact⟨_,rfl,⟨_,_,rfl,HV3.out.setP2 R3.out,HV4.out.setP2 R3.out⟩,jA B3.out (by omega) _ _⟩
theorem FT (a b:Nat):cN a b=if a%b=0 then a/b else a/b+1:=by
 unfold cN;by_cases h:a%b=0 <;> simp [h]
theorem Jb (v:Value) (x:Pr) (n k0:Nat) (X:Int) (w:World) (hv:PV w v x) (hX:X=(n:Int)) (hxl:x.l<2^k0) (hxh:x.h<2^k0) (hk0:k0<=39000000000000) (hn0:0<n) (hn:n<=120000000000000):
  Calls prog 242 #[v,.int .i64 X] w (v_ w (eU x n)):=by
 subst hX;obtain⟨a1,n1,c1,a2,n2,c2,rfl,h1,h2⟩:=hv.parts;obtain⟨xl,xh⟩:=x;simp only at *
 have OF:Hid (∀(x:Int) w',x=(n:Int)->Calls prog 61 #[.int .u64 x] w' (kn w' n)):=hid (fun x w' hx=>by
  subst hx;have :=dU (n:Int) (by omega) (by omega) w'
  rwa [gf]at this)
 have O1:=hid (fun vb w' ha (hb:NV w' vb n)=>pV (.slice a1 n1 c1) vb xl n k0 w' ha hb hn0 hxl (by omega));have O2:=hid (fun vb w' ha (hb:NV w' vb n)=>pV (.slice a2 n2 c2) vb xh n k0 w' ha hb hn0 hxh (by omega))
 have hq:xh/n<2^(k0+1):=by
  have :=iG xh n;rw[bH];omega
 have h1q:1<2^(k0+1):=by rw[bH];have :=az k0;omega
 have O0:=hid (fun w'=>dU 1 (by omega) (by omega) w');have PL:=hid (fun va vb w' (ha:NV w' va (xh/n)) (hb:NV w' vb 1)=>gN va vb _ 1 (k0+1) w' ha hb hq h1q (by omega))
 have hcase:(xh%n=0->eU ⟨xl,xh⟩ n=⟨xl/n,xh/n⟩)/\(xh%n≠0->eU ⟨xl,xh⟩ n=⟨xl/n,xh/n+1⟩):=by
  unfold eU;constructor <;> intro hb <;> rw[FT]
  .rw[aj hb]
  .rw[ag hb]
 have HC:=hid hcase;generalize eU ⟨xl,xh⟩ n=Y at *;generalize xl/n=ql at *;generalize xh/n=qh at *;generalize xl%n=rl at *;generalize xh%n=rh at *;have H1:=hid h1;have H2:=hid h2;clear h1 h2 hv hxl hxh hq h1q hcase;go_enter func242,ntmps242;go_wp2_with fail
 obtain⟨V,hV⟩:∃V,V=((w.alloc (.cells #[.slice a1 n1 c1,.slice a2 n2 c2] 238)).alloc (.cells #[.slice none 0 0,.slice none 0 0] 238)):=⟨_,rfl⟩;have XC:Hid (Bp V w.heap.size (.slice a1 n1 c1) (.slice a2 n2 c2)):=hid (by rw[hV];exact((Bp.new w (.slice a1 n1 c1) (.slice a2 n2 c2)).alloc (.cells #[.slice none 0 0,.slice none 0 0] 238)));have XR:Hid (Bp V (w.heap.size+1) (.slice none 0 0) (.slice none 0 0)):=hid (by rw[hV];exact(Bp.new2 w (.cells #[.slice a1 n1 c1,.slice a2 n2 c2] 238) (.slice none 0 0) (.slice none 0 0)));have B0:Hid (Below w.heap.size w V):=hid (by rw[hV];exact gL w (.cells #[.slice a1 n1 c1,.slice a2 n2 c2] 238) (.cells #[.slice none 0 0,.slice none 0 0] 238));rw[<-hV];clear hV;obtain⟨p0,p1,-,-⟩:=XC.out.drew.cells
 go_region_held3 (fun w'=>w'.cell? ⟨w.heap.size,0,none⟩=some (.slice a1 n1 c1)/\w'.cell? ⟨w.heap.size,1,none⟩=some (.slice a2 n2 c2))
  (first
   |with_reducible exact⟨p0,p1⟩
   |(obtain⟨p0,p1,-,-⟩:=(XC.out.drew.below hb1).cells
     with_reducible exact⟨p0,p1⟩)
   |(obtain⟨p0,p1,-,-⟩:=((XC.out.drew.below HB1.out).below hb2).cells
     with_reducible exact⟨p0,p1⟩)
   |(go_keep;done))
  (first
  |(go_at_call 61;refine(OF.out _ _ (IntWalk.u64_in _ (by omega))).mono ?_;rintro r w1 ⟨v1,rfl,hv1,hb1⟩;have HB1:=hid hb1;have HV1:=hid hv1;have B1:=hid (af B0.out.drew le0 hb1))
  |(go_at_call 107;refine(O1.out _ _ (H1.out.below B1.out) HV1.out).mono ?_;rintro r w2 ⟨v2,v3,rfl,hv2,hv3,hb2⟩;have HB2:=hid hb2;have HV2:=hid hv2;have B2:=bt0 B1 hb2))
 clear hb1 hb2 hv1 hv2 hv3 p0 p1;have X2:=hid ((XC.out.drew.below HB1.out).below HB2.out);have R2:=hid ((XR.out.drew.below HB1.out).below HB2.out);go_wp2_with fail
 obtain⟨p0,p1,-,-⟩:=X2.out.drew.cells
 go_region_held3 (fun w'=>w'.cell? ⟨w.heap.size,0,none⟩=some (.slice a1 n1 c1)/\w'.cell? ⟨w.heap.size,1,none⟩=some (.slice a2 n2 c2))
  (first
   |with_reducible exact⟨p0,p1⟩
   |(obtain⟨p0,p1,-,-⟩:=(X2.out.drew.below hb3).cells
     with_reducible exact⟨p0,p1⟩)
   |(obtain⟨p0,p1,-,-⟩:=((X2.out.drew.below HB3.out).below hb4).cells
     with_reducible exact⟨p0,p1⟩)
   |(go_keep;done))
  (first
  |(go_at_call 61;refine(OF.out _ _ (IntWalk.u64_in _ (by omega))).mono ?_;rintro r w3 ⟨u3,rfl,hu3,hb3⟩;have HB3:=hid hb3;have HU3:=hid hu3;have B3:=hid (af B2.out.drew le0 hb3))
  |(go_at_call 107;refine(O2.out _ _ (H2.out.below B3.out) HU3.out).mono ?_;rintro r w4 ⟨v4,v5,rfl,hv4,hv5,hb4⟩;obtain⟨e5,f5,g5,rfl,l1,l2,lz⟩:=fD hv5;have HB4:=hid hb4;have HV4:=hid hv4;have B4:=bt0 B3 hb4))
 clear hb3 hb4 hu3 hv4 hv5 p0 p1;have R4:=hid ((R2.out.drew.below HB3.out).below HB4.out);have V2:=hid (((show NV w2.drew v2 ql from HV2.out).below HB3.out).below HB4.out);obtain⟨e2,f2,g2,rfl⟩:=V2.out.shape;obtain⟨e4,f4,g4,rfl⟩:=HV4.out.shape;rcases lz with⟨z1,z2⟩|⟨z1,z2⟩
 .have hY:=HC.out.1 z1
  subst z2;clear HC;obtain⟨s0,s1,t0,t1⟩:=R4.out.cells;go_wp2;refine bodyPost_ret (v:= .agg #[.slice e2 f2 g2,.slice e4 f4 g4]) (by simp [results,Tryz.results242,go_sem,s0,s1]) rfl ?_;rw[hY];exact⟨_,rfl,⟨_,_,rfl,V2.out.setP2 R4.out,HV4.out.setP2 R4.out⟩,jA B4.out (by omega) _ _⟩
 .have HY:=hid (HC.out.2 z1)
  have hd:decide (0<f5)=true:=by rw[da];omega
  clear HC z1;go_wp2_with fail
  refine(O0.out _).mono ?_;rintro e w5 ⟨v6,rfl,hv6,hb6⟩;have B5:=bt0 B4 hb6;have R5:=hid (R4.out.below hb6);have V3:=hid (V2.out.below hb6);have V5:=hid (HV4.out.below hb6);have V6:=hid hv6;clear hb6 hv6;go_wp2_with fail
  refine(PL.out _ _ _ V5.out V6.out).mono ?_;rintro e w6 ⟨v7,rfl,hv7,hb7⟩;have B6:=bt0 B5 hb7;have R6:=hid (R5.out.below hb7);have V4:=hid (V3.out.below hb7);obtain⟨e7,f7,g7,rfl⟩:=hv7.shape;have V7:=hid hv7;clear hb7 hv7;obtain⟨s0,s1,t0,t1⟩:=R6.out.cells;go_wp2;refine bodyPost_ret (v:= .agg #[.slice e2 f2 g2,.slice e7 f7 g7]) (by simp [results,Tryz.results242,go_sem,s0,s1]) rfl ?_;rw[HY.out];exact⟨_,rfl,⟨_,_,rfl,V4.out.setP2 R6.out,V7.out.setP2 R6.out⟩,jA B6.out (by omega) _ _⟩
open Go.RowKit Nt Fm
open Ea (Pr iF cy eU jN dz cN)
theorem DZ (v u:Value) (x y:Pr) (k0:Nat) (w:World) (hv:PV w v x) (hu:PV w u y) (hxl:x.l<2^k0) (hxh:x.h<2^k0) (hyl:y.l<2^k0) (hyh:y.h<2^k0) (hk0:k0<=110000000000000):
  Calls prog 244 #[v,u] w (v_ w (jN x y)):=by
 obtain⟨a1,n1,c1,a2,n2,c2,rfl,h1,h2⟩:=hv.parts;obtain⟨a3,n3,c3,a4,n4,c4,rfl,h3,h4⟩:=hu.parts;obtain⟨xl,xh⟩:=x;obtain⟨yl,yh⟩:=y;simp only at *;have T1:=hid (fun w' ha hb=>gN (.slice a1 n1 c1) (.slice a3 n3 c3) xl yl k0 w' ha hb hxl hyl (by omega));have T2:=hid (fun w' ha hb=>gN (.slice a2 n2 c2) (.slice a4 n4 c4) xh yh k0 w' ha hb hxh hyh (by omega));have hY:jN ⟨xl,xh⟩ ⟨yl,yh⟩=⟨xl+yl,xh+yh⟩:=rfl;rw[hY];obtain⟨ql,hql⟩:∃ql,ql=xl+yl:=⟨_,rfl⟩;obtain⟨qh,hqh⟩:∃qh,qh=xh+yh:=⟨_,rfl⟩;rw[<-hql,<-hqh];rw[<-hql]at T1;rw[<-hqh]at T2;have H1:=hid h1;have H2:=hid h2;have H3:=hid h3;have H4:=hid h4;clear h1 h2 h3 h4 hv hu hxl hxh hyl hyh hY hql hqh;go_enter func244,ntmps244;go_wp2_with fail
 obtain⟨V,hV⟩:∃V,V=(((w.alloc (.cells #[.slice a1 n1 c1,.slice a2 n2 c2] 238)).alloc (.cells #[.slice a3 n3 c3,.slice a4 n4 c4] 238)).alloc (.cells #[.slice none 0 0,.slice none 0 0] 238)):=⟨_,rfl⟩;have XC:Hid (Bp V w.heap.size (.slice a1 n1 c1) (.slice a2 n2 c2)):=hid (by rw[hV];exact((Bp.new w (.slice a1 n1 c1) (.slice a2 n2 c2)).alloc (.cells #[.slice a3 n3 c3,.slice a4 n4 c4] 238) |>.alloc (.cells #[.slice none 0 0,.slice none 0 0] 238)));have XD:Hid (Bp V (w.heap.size+1) (.slice a3 n3 c3) (.slice a4 n4 c4)):=hid (by rw[hV];exact((Bp.new2 w (.cells #[.slice a1 n1 c1,.slice a2 n2 c2] 238) (.slice a3 n3 c3) (.slice a4 n4 c4)).alloc (.cells #[.slice none 0 0,.slice none 0 0] 238)));have XR:Hid (Bp V (w.heap.size+1+1) (.slice none 0 0) (.slice none 0 0)):=hid (by rw[hV];exact(Bp.new3 w (.cells #[.slice a1 n1 c1,.slice a2 n2 c2] 238) (.cells #[.slice a3 n3 c3,.slice a4 n4 c4] 238) (.slice none 0 0) (.slice none 0 0)));have B0:Hid (Below w.heap.size w V):=hid (by rw[hV];exact ff w (.cells #[.slice a1 n1 c1,.slice a2 n2 c2] 238) (.cells #[.slice a3 n3 c3,.slice a4 n4 c4] 238) (.cells #[.slice none 0 0,.slice none 0 0] 238));rw[<-hV];clear hV;obtain⟨p0,p1,-,-⟩:=XC.out.drew.cells;obtain⟨r0,r1,-,-⟩:=XD.out.drew.cells
 go_region_held3 (fun w'=>w'.cell? ⟨w.heap.size,0,none⟩=some (.slice a1 n1 c1)/\w'.cell? ⟨w.heap.size,1,none⟩=some (.slice a2 n2 c2)/\w'.cell? ⟨w.heap.size+1,0,none⟩=some (.slice a3 n3 c3)/\w'.cell? ⟨w.heap.size+1,1,none⟩=some (.slice a4 n4 c4))
  (first
   |with_reducible exact⟨p0,p1,r0,r1⟩
   |(obtain⟨p0,p1,-,-⟩:=(XC.out.drew.below hb1).cells
     obtain⟨r0,r1,-,-⟩:=(XD.out.drew.below hb1).cells
     with_reducible exact⟨p0,p1,r0,r1⟩)
   |(obtain⟨p0,p1,-,-⟩:=((XC.out.drew.below HB1.out).below hb2).cells
     obtain⟨r0,r1,-,-⟩:=((XD.out.drew.below HB1.out).below hb2).cells
     with_reducible exact⟨p0,p1,r0,r1⟩)
   |(obtain⟨p0,p1,-,-⟩:=((((XC.out.drew.below HB1.out).below HB2.out).set (b':=w.heap.size+1+1) (o:=0) (by omega) (.slice e1 f1 g1)).set (b':=w.heap.size+1+1) (o:=1) (by omega) (.slice e2 f2 g2)).cells
     obtain⟨r0,r1,-,-⟩:=((((XD.out.drew.below HB1.out).below HB2.out).set (b':=w.heap.size+1+1) (o:=0) (by omega) (.slice e1 f1 g1)).set (b':=w.heap.size+1+1) (o:=1) (by omega) (.slice e2 f2 g2)).cells
     with_reducible exact⟨p0,p1,r0,r1⟩)
   |(go_keep;done))
  (first
  |(go_at_call_of 103 (Value.slice a1 n1 c1);refine(T1.out _ (H1.out.below B0.out.drew) (H3.out.below B0.out.drew)).mono ?_;rintro r w1 ⟨v1,rfl,hv1,hb1⟩;obtain⟨e1,f1,g1,rfl⟩:=hv1.shape;have HB1:=hid hb1;have HV1:=hid hv1;have B1:=hid (af B0.out.drew le0 hb1))
  |(go_at_call_of 103 (Value.slice a2 n2 c2);refine(T2.out _ (H2.out.below B1.out) (H4.out.below B1.out)).mono ?_;rintro r w2 ⟨v2,rfl,hv2,hb2⟩;obtain⟨e2,f2,g2,rfl⟩:=hv2.shape;have HB2:=hid hb2;have HV2:=hid hv2;have HV12:=hid (HV1.out.below hb2);have B2:=bt0 B1 hb2;have R3:=hid ((XR.out.drew.below HB1.out).below hb2);obtain⟨z0,z1,z2,z3⟩:=R3.out.cells;obtain⟨u0,u1,u2,u3⟩:=R3.out.drew.cells))
 have R4:=hid (R3.out.set2 (.slice e1 f1 g1) (.slice e2 f2 g2));clear z0 z1 z2 z3 u0 u1 u2 u3 hb1 hb2 hv1 hv2 p0 p1 r0 r1;obtain⟨s0,s1,t0,t1⟩:=R4.out.cells;go_wp2;refine bodyPost_ret (v:= .agg #[.slice e1 f1 g1,.slice e2 f2 g2]) (by simp [results,Tryz.results244,go_sem,s0,s1]) rfl ?_;exact⟨_,rfl,⟨_,_,rfl,HV12.out.setP2 R3.out,HV2.out.setP2 R3.out⟩,jA B2.out (by omega) _ _⟩
theorem MM (v:Value) (m k0 p:Nat) (e P:Int) (w:World) (hv:NV w v m) (hP:P=(p:Int)) (hm:m<2^k0) (hk0:k0<=40000000000000) (e0: -40000000000000<=e) (e1:e<=40000000000000) (hp:p<=40000000000000):
  Calls prog 241 #[v,.int .i64 e,.int .i64 P] w (v_ w (dz m e p)):=by
 subst hP;obtain⟨a1,n1,c1,rfl⟩:=hv.shape;have HV:=hid hv;by_cases hc:0<=e+p
 .have LE:=hid (fun x w' ha (hx:x=e+p)=>f_ (.slice a1 n1 c1) m (e+p).toNat k0 x w' ha (by omega) hm (by omega) (by omega))
  have hY:dz m e p=⟨m*2^(e+p).toNat,m*2^(e+p).toNat⟩:=by unfold dz;rw[aj hc]
  rw[hY];generalize m*2^(e+p).toNat=Y at *;clear hY hm hv;go_enter func241,ntmps241;go_wp2_with fail
  refine(LE.out _ _ (HV.out.alloc _) rfl).mono ?_;rintro r w1 ⟨v1,rfl,hv1,hb1⟩;have B1:=hid (af ((Below.refl w.heap.size w).alloc le0 _) le0 hb1);have Z1:=hid ((Bp.new w (.slice none 0 0) (.slice none 0 0)).below hb1);obtain⟨e1,f1,g1,rfl⟩:=hv1.shape;have V1:=hid hv1;clear hv1 hb1;obtain⟨s0,s1,t0,t1⟩:=Z1.out.cells;go_wp2;refine bodyPost_ret (v:= .agg #[.slice e1 f1 g1,.slice e1 f1 g1]) (by simp [results,Tryz.results241,go_sem,s0,s1]) rfl ?_;exact⟨_,rfl,⟨_,_,rfl,V1.out.setP2 Z1.out,V1.out.setP2 Z1.out⟩,jA B1.out (by omega) _ _⟩
 .have HA:=hid (fun x w' (h:NV w' (.slice a1 n1 c1) m) (hx:x= -e-p)=>L7 (.agg #[.slice a1 n1 c1,.slice a1 n1 c1]) ⟨m,m⟩ (-e-p).toNat k0 x w' ⟨_,_,rfl,h,h⟩ (by omega) hm hm (by omega) (by omega))
  have hY:dz m e p=iF ⟨m,m⟩ (-e-p).toNat:=by unfold dz;rw[ag hc]
  rw[hY];generalize iF ⟨m,m⟩ (-e-p).toNat=Y at *;have hd:decide (0<=e+(p:Int))=false:=by rw[jx];exact hc
  clear hY hm hv;go_enter func241,ntmps241;go_wp2_with fail
  refine(HA.out _ _ (HV.out.alloc _) rfl).mono ?_;rintro r w1 ⟨v1,rfl,hp1,hb1⟩;have B1:=hid (af ((Below.refl w.heap.size w).alloc le0 _) le0 hb1);have Z1:=hid ((Bp.new w (.slice none 0 0) (.slice none 0 0)).below hb1);obtain⟨e1,f1,g1,e2,f2,g2,rfl,hv1,hv2⟩:=hp1.parts;have V1:=hid hv1;have V2:=hid hv2;clear hv1 hv2 hp1 hb1;obtain⟨s0,s1,t0,t1⟩:=Z1.out.cells;go_wp2;refine bodyPost_ret (v:= .agg #[.slice e1 f1 g1,.slice e2 f2 g2]) (by simp [results,Tryz.results241,go_sem,s0,s1]) rfl ?_;exact⟨_,rfl,⟨_,_,rfl,V1.out.setP2 Z1.out,V2.out.setP2 Z1.out⟩,jA B1.out (by omega) _ _⟩
open Go.RowKit Nt Fm
open Ea (Pr iF cy eU jN dz cN bZ cY cG cD)
theorem tQ (m:Nat):m<2^aC m:=qo m
theorem uB {m k:Nat}(h:m<2^k):aC m<=k:=by
 by_cases h0:m=0
 .subst h0;exact d_ _
 .have h1:2^(aC m-1)<=m:=oZ h0
  have :=(lW (by decide:1<2)).1 (de h1 h);omega
structure Sz (t:Pr) (p s:Nat):Prop where
 t8:8*t.h<=2^p
 tl:t.l<=t.h
 tn:t.h<=t.l+1
 p4:4<=p
theorem Sz.t {t:Pr}{p s:Nat}(h:Sz t p s):t.l<2^(p+2)/\t.h<2^(p+2):=by
 have :=h.t8;have :=h.tl;have :=az p;rw[aB];omega
theorem Sz.tm {t:Pr}{p s:Nat}(h:Sz t p s) (k:Nat):(bZ t p k).l<2^(p+2)/\(bZ t p k).h<2^(p+2):=by
 have h1:=Ea.Ap (t:=t) (p:=p) (by have :=h.t8;omega) k;have h2:=Ea.yF (p:=p) h.tl k;have :=az p;rw[aB];omega
theorem Sz.ti {t:Pr}{p s:Nat}(h:Sz t p s) (k:Nat):(cy (bZ t p k) t p).l<2^(p+2)/\(cy (bZ t p k) t p).h<2^(p+2):=by
 have h1:=Ea.Ap (t:=t) (p:=p) (by have :=h.t8;omega) k;have h2:=Ea.tv (bZ t p k) t p (Ea.yF h.tl k) h.tl
 have h3:(cy (bZ t p k) t p).h<=2^p:=by
  show cN ((bZ t p k).h*t.h) (2^p)<=_
  exact Ea.kA (az p) (eI h1 (by have :=h.t8;omega))
 have :=az p;rw[aB];omega
theorem Sz.sm {t:Pr}{p s:Nat}(h:Sz t p s) {k:Nat}(hk:k<=p):(cY t p k).l<2^(p+2)/\(cY t p k).h<2^(p+2):=by
 have h1:=Ea.xw (t:=t) (p:=p) (by have :=h.t8;omega) k hk;have h2:=Ea.DL (p:=p) h.tl k;have :=az p;have :=az (p-k);rw[aB];omega
def kI (t:Pr) (p k:Nat):Pr:=⟨(cY t p k).l,(cY t p k).h+4⟩
theorem Sz.sq {t:Pr}{p s:Nat}(h:Sz t p s) {k j:Nat}(hk:k<=p) (hj:j<=s):(cG (kI t p k) p j).l<2^(p+3*2^s)/\(cG (kI t p k) p j).h<2^(p+3*2^s):=by
 have h1:=Ea.xw (t:=t) (p:=p) (by have :=h.t8;omega) k hk;have h2:=Ea.DL (p:=p) h.tl k;have h3:=Ea.CB t p k;have h4:=az (p-k);have h5:2^4<=2^p:=aG (by decide) h.p4;have w1:2^p<=(kI t p k).l:=h3;have w2:(kI t p k).l<=(kI t p k).h:=by show(cY t p k).l<=(cY t p k).h+4;omega
 have w3:(kI t p k).h+1<=2^p*8:=by show(cY t p k).h+4+1<=_;omega
 have a:=Ea.wR w1 w2 w3 j;have b:=(Ea.vB w1 w2 j).2
 have c:2^p*8^2^j<=2^(p+3*2^s):=by
  rw[show(8:Nat)=2^3 by decide,<-jU,<-aB];exact aG (by decide) (by have :=aG (show 0<2 by decide) hj;omega)
 omega
theorem JQ (a:Nat):(1<a/\(0:Int)<aK a 1)\/(a<=1/\aK a 1<=0):=by
 unfold aK;rcases ju a 1 with h|h|h
 .right;refine⟨by omega,?_⟩;rw[aj (by omega)];decide
 .right;refine⟨by omega,?_⟩;subst h;decide
 .left;refine⟨h,?_⟩;rw[ag (by omega),aj (by omega)];decide
def IF (w:World) (m:Nat) (e:Int) (p s:Nat) (r:Ending) (w':World):Prop:=
 ∃k v,r=.returned v/\k<=p/\(bZ (dz m (e-s) p) p k).h<=1/\PV w' v (cD m e p k s)/\Below w.heap.size w w'
theorem Pb (v:Value) (m b p s:Nat) (e P:Int) (w:World) (hv:NV w v m) (hP:P=(p:Int)) (hm:m<2^b) (hb:b<=20000000) (e0: -20000000<=e) (e1:e<=20000000) (hp:p<=20000000000000) (hp0:16<=p)
  (hs:(s:Int)=max 0 (aC m+e+16)) (hs1:s<=27):
  Calls prog 229 #[v,.int .i64 e,.int .i64 P] w (IF w m e p s):=by
 subst hP;obtain⟨a1,n1,c1,rfl⟩:=hv.shape;have hbl:aC m<=b:=uB hm;obtain⟨f1,f2,f3⟩:=Ea.Cx (m:=m) (p:=p) (b:=aC m) (e:=e-s) (tQ m) (by omega) hp0;have F:=hid (fun w' hv=>MM (.slice a1 n1 c1) m b p (e-s) p w' hv rfl hm (by omega) (by omega) (by omega) (by omega));have F1:=hid (fun v w' hv=>MM v 1 1 p 0 p w' hv rfl (by decide) (by omega) (by omega) (by omega) (by omega));rw[Ea.Tu]at F1
 have e16:2^p=65536*2^(p-16):=by
  have :2^p=2^(16+(p-16)):=by congr 1;omega
  rw[this,aB]
 obtain⟨t,ht⟩:∃t,t=dz m (e-s) p:=⟨_,rfl⟩;rw[<-ht]at f1 f2 f3 F;have SZ:Hid (Sz t p s):=hid ⟨by omega,f2,f3,by omega⟩;unfold IF cD;rw[<-ht];have FALL:=hid (fun k hk=>Ea.wH (t:=t) (p:=p) (by have :=SZ.out.t8;omega) k hk);have LN:=hid (fun w' hv=>lx (.slice a1 n1 c1) m b w' hv hm (by omega));have ES:Hid (max 0 ((aC m:Int)+e+16)=(s:Int)/\True):=hid ⟨hs.symm,trivial⟩;generalize aC m=L at *;have OF:=hid (fun w'=>dU 1 (by omega) (by omega) w');have OF4:=hid (fun w'=>dU 4 (by omega) (by omega) w');have HV:=hid hv;clear hm e16 f1 f2 f3 hv ht hs;go_enter func229,ntmps229;go_wp2_with fail
 refine(LN.out _ (HV.out.alloc _)).mono ?_;rintro r w' ⟨rfl,rfl⟩;go_wp2_with fail
 rw[ES.out.1];refine(F.out _ (HV.out.alloc _)).mono ?_;rintro r w1 ⟨v1,rfl,hp1,hb1⟩;obtain⟨x1,y1,z1,x2,y2,z2,rfl,hv1,hv2⟩:=hp1.parts;have C1:=af ((Below.refl w.heap.size w).alloc le0 _) le0 hb1;have R1:=((GI.new (x:=⟨0,0⟩) (NV.nil w) (NV.nil w)).below hb1);have hz1:w.heap.size<w1.heap.size:=R1.lt;obtain⟨V1,hV1⟩:∃V,V=w1.alloc (.cells #[.slice x1 y1 z1,.slice x2 y2 z2] 238):=⟨_,rfl⟩;have T1:GI V1 w1.heap.size t:=by rw[hV1];exact GI.new hv1 hv2
 have D1:Below w.heap.size w V1:=by rw[hV1];exact C1.alloc (by omega) _
 have Q1:GI V1 w.heap.size ⟨0,0⟩:=by rw[hV1];exact R1.alloc _
 have hb8:∃b8,b8=w1.heap.size:=⟨_,rfl⟩;obtain⟨b8,hb8⟩:=hb8;rw[<-hb8]at T1 hz1;have HD1:=hid D1;have HT1:=hid T1;have HQ1:=hid Q1;clear hb1 hv1 hv2 hp1 D1 T1 Q1 R1 C1;go_wp2_with fail
 rw[<-hV1,<-hb8];clear hV1 hb8;refine(OF.out _).mono ?_;rintro r w2 ⟨v2,rfl,hv2,hb2⟩;have C2:=bt0 HD1 hb2;have T2:=hid (HT1.out.below hb2);have Q2:=hid (HQ1.out.below hb2);have HV2:=hid hv2;clear hv2 hb2;go_wp2_with fail
 refine(F1.out _ _ HV2.out).mono ?_;rintro r w3 ⟨v3,rfl,hp3,hb3⟩;obtain⟨x1,y1,z1,x2,y2,z2,rfl,hv1,hv2⟩:=hp3.parts;have C3:=af C2.out le0 hb3;have T3:=T2.out.below hb3;have Q3:=Q2.out.below hb3;obtain⟨V3,hV3⟩:∃V,V=(w3.alloc (.cells #[.slice x1 y1 z1,.slice x2 y2 z2] 238)).alloc (.cells #[.slice x1 y1 z1,.slice x2 y2 z2] 238):=⟨_,rfl⟩;have M3:GI V3 w3.heap.size (bZ t p 0):=by rw[hV3];exact(GI.new (x:=bZ t p 0) hv1 hv2).alloc _
 have S3:GI V3 (w3.heap.size+1) (cY t p 0):=by
  rw[hV3];have :=GI.new (x:=cY t p 0) (hv1.alloc (.cells #[.slice x1 y1 z1,.slice x2 y2 z2] 238)) (hv2.alloc (.cells #[.slice x1 y1 z1,.slice x2 y2 z2] 238))
  rwa [size_alloc]at this
 have hz3:b8<w3.heap.size:=T3.lt;have D3:Below w.heap.size w V3:=by rw[hV3];exact(C3.alloc (by omega) _).alloc (by simp;omega) _
 have Q4:GI V3 w.heap.size ⟨0,0⟩:=by rw[hV3];exact(Q3.alloc _).alloc _
 have T4:GI V3 b8 t:=by rw[hV3];exact(T3.alloc _).alloc _
 obtain⟨b9,hb9⟩:∃b9,b9=w3.heap.size:=⟨_,rfl⟩;rw[<-hb9]at M3 S3 hz3;have HD3:=hid D3;have HT3:=hid T4;have HQ3:=hid Q4;have HM3:=hid M3;have HS3:=hid S3;clear hb3 hv1 hv2 hp3 C3 T3 Q3 D3 Q4 T4 M3 S3;clear T2 Q2 C2 HT1 HQ1 HD1 HV2;go_wp2_with fail
 rw[<-hV3,<-hb9];clear hV3 hb9;have NE:Hid ((w.heap.size≠b8/\w.heap.size≠b9/\w.heap.size≠b9+1/\b8≠b9/\b8≠b9+1/\b9≠b9+1)/\True):=hid ⟨by omega,trivial⟩;have GE:Hid ((w.heap.size<=b9/\w.heap.size<=b9+1)/\True):=hid ⟨by omega,trivial⟩;have hone:((0:Nat):Int)+1=1:=rfl
 go_loopw [11] (fun i wr=>∃k:Nat,i=.int .i64 ((k:Int)+1)/\k<=p/\Hid (GI wr w.heap.size ⟨0,0⟩)/\Hid (GI wr b8 t)/\Hid (GI wr b9 (bZ t p k))/\Hid (GI wr (b9+1) (cY t p k))/\Hid (Below w.heap.size w wr))
  (fun i _=>p+1-(intOf i).toNat)
 case atStart=>exact⟨0,by simp,d_ _,HQ3,HT3,HM3,HS3,HD3⟩
 case round=>
  obtain⟨k,rfl,hk,gR,gT,gM,gS,hbel⟩:=hrel;clear HQ3 HT3 HM3 HS3 HD3 hone;obtain⟨m1,m2,m3,m4,m5,m6,hM,hMl,hMh⟩:=gM.out;have HMl:=hid hMl;have HMh:=hid hMh;have HM:=hid hM;obtain⟨c0,c1,-,-⟩:=HM.out.drew.cells;clear hMl hMh hM;go_wp2_with fail
  go_region_held3 (fun w'=>w'.cell? ⟨b9,1,none⟩=some (.slice m4 m5 m6))
   (first
    |with_reducible exact c1
    |(obtain⟨-,p1,-,-⟩:=(HM.out.drew.below hb1).cells
      exact p1)
    |(obtain⟨-,p1,-,-⟩:=((HM.out.drew.below HB1.out).drewN dn).cells
      exact p1)
    |(go_keep;done))
   (first
   |(go_at_call 61;refine(OF.out _).mono ?_;rintro r u1 ⟨v1,rfl,hv1,hb1⟩;have HB1:=hid hb1;have HV1:=hid hv1;have B1:=hid (af hbel.out.drew le0 hb1))
   |(go_at_call 101;refine(jF _ _ _ _ _ ((show NV wr.drew _ _ from HMh.out).below HB1.out) HV1.out).mono ?_;rintro r u2 ⟨rfl,dn,rfl⟩))
  clear hv1 hb1 c0 c1;obtain⟨W2,hW2⟩:∃W2,W2=u1.drewN dn:=⟨_,rfl⟩;rw[<-hW2];have gR2:Hid (GI W2 w.heap.size ⟨0,0⟩):=hid (by rw[hW2];exact(gR.out.drew.below HB1.out).drewN dn);have gT2:Hid (GI W2 b8 t):=hid (by rw[hW2];exact(gT.out.drew.below HB1.out).drewN dn);have gM2:Hid (GI W2 b9 (bZ t p k)):=hid (by rw[hW2];exact(gM.out.drew.below HB1.out).drewN dn);have gS2:Hid (GI W2 (b9+1) (cY t p k)):=hid (by rw[hW2];exact(gS.out.drew.below HB1.out).drewN dn);have BB2:Hid (Below w.heap.size w W2):=hid (by rw[hW2];exact dh B1.out);clear hW2 HM HMl HMh HB1 HV1 gR gT gM gS hbel B1;rcases JQ (bZ t p k).h with⟨hgt,hd⟩|⟨hle,hd⟩
  .have hkp:k<p:=by
    rcases eJ k p with h|h
    .exact h
    .have :=FALL.out k hk
     rw[show p-k=0 by omega]at this;omega
   have TI:=hid (fun v u w' hv hu=>xG v u (bZ t p k) t p (p+2) p w' hv hu rfl (SZ.out.tm k).1 (SZ.out.tm k).2 SZ.out.t.1 SZ.out.t.2 (by omega) (by omega));have OVc:=hid (fun v w' hv=>Jb v (cy (bZ t p k) t p) (k+1) (p+2) ((k:Int)+1) w' hv (by omega) (SZ.out.ti k).1 (SZ.out.ti k).2 (by omega) (by omega) (by omega));have PLc:=hid (fun v u w' hv hu=>DZ v u (cY t p k) (bZ t p (k+1)) (p+2) w' hv hu (SZ.out.sm hk).1 (SZ.out.sm hk).2 (SZ.out.tm (k+1)).1 (SZ.out.tm (k+1)).2 (by omega));have EQ1:Hid (eU (cy (bZ t p k) t p) (k+1)=bZ t p (k+1)/\True):=hid ⟨rfl,trivial⟩;have EQ2:Hid (jN (cY t p k) (bZ t p (k+1))=cY t p (k+1)/\True):=hid ⟨rfl,trivial⟩;rw[EQ1.out.1]at OVc;rw[EQ2.out.1]at PLc;clear EQ1 EQ2;obtain⟨m1,m2,m3,m4,m5,m6,hM,hMl,hMh⟩:=gM2.out;obtain⟨t1,t2,t3,t4,t5,t6,hT,hTl,hTh⟩:=gT2.out;obtain⟨c0,c1,-,-⟩:=hM.cells;obtain⟨e0,e1,-,-⟩:=hT.cells;have PVM:=hid (show PV W2 (.agg #[.slice m1 m2 m3,.slice m4 m5 m6]) (bZ t p k) from⟨_,_,rfl,hMl,hMh⟩);have PVT:=hid (show PV W2 (.agg #[.slice t1 t2 t3,.slice t4 t5 t6]) t from⟨_,_,rfl,hTl,hTh⟩);clear hM hMl hMh hT hTl hTh;go_wp2_with fail
   refine(TI.out _ _ _ PVM.out PVT.out).mono ?_;rintro r u3 ⟨v3,rfl,hp3,hb3⟩;have HP3:=hid hp3;have BB3:=bt0 BB2 hb3;have gR3:=hid (gR2.out.below hb3);have gT3:=hid (gT2.out.below hb3);have gM3:=hid (gM2.out.below hb3);have gS3:=hid (gS2.out.below hb3);clear hp3 hb3 c0 c1 e0 e1 PVM PVT gR2 gT2 gM2 gS2 TI;go_wp2_with fail
   refine(OVc.out _ _ HP3.out).mono ?_;rintro r u4 ⟨v4,rfl,hp4,hb4⟩;have BB4:=bt0 BB3 hb4;have gR4:=hid (gR3.out.below hb4);have gT4:=hid (gT3.out.below hb4);have gM4:=hid (gM3.out.below hb4);have gS4:=hid (gS3.out.below hb4);obtain⟨d1,d2,d3,d4,d5,d6,rfl,hv4,hv5⟩:=hp4.parts;have HV4:=hid hv4;have HV5:=hid hv5;clear hp4 hb4 hv4 hv5 HP3 gR3 gT3 gM3 gS3 OVc;obtain⟨o1,o2,o3,o4,o5,o6,hO,-,-⟩:=gM4.out;obtain⟨c0,c1,cf0,cf1⟩:=hO.cells;obtain⟨q1,q2,q3,q4,q5,q6,hQ,-,-⟩:=gS4.out;have gR5:=hid (gR4.out.store gM4.out NE.out.1.2.1 d1 d2 d3 d4 d5 d6);have gT5:=hid (gT4.out.store gM4.out NE.out.1.2.2.2.1 d1 d2 d3 d4 d5 d6);have gS5:=hid (gS4.out.store gM4.out (gX NE.out.1.2.2.2.2.2) d1 d2 d3 d4 d5 d6);have gM5:=hid (gM4.out.put (y:=bZ t p (k+1)) HV4.out HV5.out);have BB5:=hid (jA BB4.out GE.out.1.1 (.slice d1 d2 d3) (.slice d4 d5 d6));clear hO hQ gR4 gT4 gS4 gM4 BB4 HV4 HV5 BB3 BB2;obtain⟨m1,m2,m3,m4,m5,m6,hM,hMl,hMh⟩:=gM5.out;obtain⟨s1,s2,s3,s4,s5,s6,hS,hSl,hSh⟩:=gS5.out;obtain⟨i0,i1,-,-⟩:=hM.cells;obtain⟨j0,j1,-,-⟩:=hS.cells;have PVS:=hid (show PV _ (.agg #[.slice s1 s2 s3,.slice s4 s5 s6]) (cY t p k) from⟨_,_,rfl,hSl,hSh⟩);have PVM:=hid (show PV _ (.agg #[.slice m1 m2 m3,.slice m4 m5 m6]) (bZ t p (k+1)) from⟨_,_,rfl,hMl,hMh⟩);clear hM hS hMl hMh hSl hSh;go_wp2_with fail
   refine(PLc.out _ _ _ PVS.out PVM.out).mono ?_;rintro r u6 ⟨v6,rfl,hp6,hb6⟩;have BB6:=bt0 BB5 hb6;have gR6:=hid (gR5.out.below hb6);have gT6:=hid (gT5.out.below hb6);have gM6:=hid (gM5.out.below hb6);have gS6:=hid (gS5.out.below hb6);obtain⟨d1,d2,d3,d4,d5,d6,rfl,hv4,hv5⟩:=hp6.parts;have HV4:=hid hv4;have HV5:=hid hv5;clear hp6 hb6 hv4 hv5 PVS PVM gR5 gT5 gM5 gS5 PLc i0 i1 j0 j1 c0 c1 cf0 cf1 BB5;obtain⟨o1,o2,o3,o4,o5,o6,hO,-,-⟩:=gS6.out;obtain⟨c0,c1,cf0,cf1⟩:=hO.cells;have gR7:=hid (gR6.out.store gS6.out NE.out.1.2.2.1 d1 d2 d3 d4 d5 d6);have gT7:=hid (gT6.out.store gS6.out NE.out.1.2.2.2.2.1 d1 d2 d3 d4 d5 d6);have gM7:=hid (gM6.out.store gS6.out NE.out.1.2.2.2.2.2 d1 d2 d3 d4 d5 d6);have gS7:=hid (gS6.out.put (y:=cY t p (k+1)) HV4.out HV5.out);have BB7:=hid (jA BB6.out GE.out.1.2 (.slice d1 d2 d3) (.slice d4 d5 d6));clear hO gR6 gT6 gS6 gM6 BB6 HV4 HV5;go_wp2;go_roundw
   case rel=>exact⟨k+1,by simp,by omega,gR7,gT7,gM7,gS7,BB7⟩
   case measure=>simp [intOf];omega
  .obtain⟨s1,s2,s3,s4,s5,s6,hS,hSl,hSh⟩:=gS2.out
   have HSl:=hid hSl;have HSh:=hid hSh;have HS:=hid hS;clear hS hSl hSh
   have PLd:=hid (fun va vb w' ha hb=>gN va vb (cY t p k).h 4 (p+2) w' ha hb (SZ.out.sm hk).2 (by
    have :2^3<=2^(p+2):=aG (by decide) (by omega);omega) (by omega))
   go_wp2_with fail
   obtain⟨c0,c1,cf0,cf1⟩:=HS.out.drew.cells
   go_region_with (first
    |(go_at_call 61;refine(OF4.out _).mono ?_;rintro r u1 ⟨v1,rfl,hv1,hb1⟩;obtain⟨-,p1,pf0,pf1⟩:=(HS.out.drew.below hb1).cells;have HB1:=hid hb1;have HV1:=hid hv1;have B1:=hid (af BB2.out.drew le0 hb1))
    |(go_at_call 103;refine(PLd.out _ _ _ ((show NV W2.drew _ _ from HSh.out).below HB1.out) HV1.out).mono ?_;rintro r u2 ⟨v2,rfl,hv2,hb2⟩;obtain⟨d4,d5,d6,rfl⟩:=hv2.shape;obtain⟨q0,q1,qf0,qf1⟩:=((HS.out.drew.below HB1.out).below hb2).cells;have HB2:=hid hb2;have HV2:=hid hv2;have B2:=bt0 B1 hb2))
   all_goals
    have S0:=hid ((HS.out.drew.below HB1.out).below HB2.out);have gS3:Hid (GI (u2.setCell ⟨b9+1,1,none⟩ (.slice d4 d5 d6)) (b9+1) (cG (kI t p k) p 0)):=hid ⟨s1,s2,s3,d4,d5,d6,S0.out.set1 _,(((show NV W2.drew _ _ from HSl.out).below HB1.out).below HB2.out).setP S0.out 1 _,HV2.out.setP S0.out 1 _⟩
    have gR3:Hid (GI (u2.setCell ⟨b9+1,1,none⟩ (.slice d4 d5 d6)) w.heap.size ⟨0,0⟩):=hid (by
     obtain⟨r1,r2,r3,r4,r5,r6,hR,hRl,hRh⟩:=(gR2.out.drew.below HB1.out).below HB2.out;exact⟨r1,r2,r3,r4,r5,r6,hR.set NE.out.1.2.2.1 _,hRl.setP S0.out 1 _,hRh.setP S0.out 1 _⟩)
    have BB3:Hid (Below w.heap.size w (u2.setCell ⟨b9+1,1,none⟩ (.slice d4 d5 d6))):=hid (B2.out.setCell GE.out.1.2 _);have h2s:Hid (2^s<=134217728/\True):=hid ⟨aG (show 0<2 by decide) hs1,trivial⟩;have SQ:=hid (fun j (hj:j<=s) v u w' hv hu=>xG v u (cG (kI t p k) p j) (cG (kI t p k) p j) p (p+3*2^s) p w' hv hu rfl (SZ.out.sq hk hj).1 (SZ.out.sq hk hj).2 (SZ.out.sq hk hj).1 (SZ.out.sq hk hj).2 (by have :=h2s.out.1;omega) (by omega));have EZ:Hid (∀j,cy (cG (kI t p k) p j) (cG (kI t p k) p j) p=cG (kI t p k) p (j+1)):=hid (fun j=>rfl);obtain⟨z,hz⟩:∃z,z=kI t p k:=⟨_,rfl⟩;have HZ:Hid (z=⟨(cY t p k).l,(cY t p k).h+4⟩/\True):=hid ⟨hz,trivial⟩;rw[<-hz]at gS3 SQ EZ;have HK:Hid ((k<=p/\(bZ t p k).h<=1)/\True):=hid ⟨⟨hk,hle⟩,trivial⟩;have gR3':=gR3;have BB3':=BB3;have gS3':=gS3;clear hz S0 HB1 HB2 HV1 HV2 B1 B2 HS HSl HSh gR2 gT2 gM2 gS2 BB2 hv1 hb1 hv2 hb2 c0 c1 cf0 cf1 p1 pf0 pf1 q0 q1 qf0 qf1 PLd;go_wp2
    go_loopw [50] (fun i wr=>∃j:Nat,i=.int .i64 (j:Int)/\j<=s/\Hid (GI wr w.heap.size ⟨0,0⟩)/\Hid (GI wr (b9+1) (cG z p j))/\Hid (Below w.heap.size w wr))
     (fun i _=>s-(intOf i).toNat)
    case atStart=>exact⟨0,rfl,d_ _,gR3',gS3',BB3'⟩
    case round=>
     obtain⟨j,rfl,hj,gR,gS,hbel⟩:=hrel;obtain⟨m1,m2,m3,m4,m5,m6,hM,hMl,hMh⟩:=gS.out;obtain⟨c0,c1,cf0,cf1⟩:=hM.cells;have PVM:=hid (show PV wr (.agg #[.slice m1 m2 m3,.slice m4 m5 m6]) (cG z p j) from⟨_,_,rfl,hMl,hMh⟩);have HMl:=hid hMl;have HMh:=hid hMh;clear hM hMl hMh gR3 BB3 gS3 gR3' BB3' gS3';by_cases hjs:j<s
     .have SQj:=hid (SQ.out j hj)
      rw[EZ.out j]at SQj;go_wp2_with fail
      refine(SQj.out _ _ _ PVM.out PVM.out).mono ?_;rintro r u6 ⟨v6,rfl,hp6,hb6⟩;have BB6:=bt0 hbel hb6;have gR6:=hid (gR.out.below hb6);have gS6:=hid (gS.out.below hb6);obtain⟨d1,d2,d3,d4,d5,d6,rfl,hv4,hv5⟩:=hp6.parts;have HV4:=hid hv4;have HV5:=hid hv5;clear hp6 hb6 hv4 hv5 PVM gR gS SQj c0 c1 cf0 cf1 HMl HMh;obtain⟨o1,o2,o3,o4,o5,o6,hO,-,-⟩:=gS6.out;obtain⟨c0,c1,cf0,cf1⟩:=hO.cells;have gR7:=hid (gR6.out.store gS6.out NE.out.1.2.2.1 d1 d2 d3 d4 d5 d6);have gS7:=hid (gS6.out.put (y:=cG z p (j+1)) HV4.out HV5.out);have BB7:=hid (jA BB6.out GE.out.1.2 (.slice d1 d2 d3) (.slice d4 d5 d6));clear hO gR6 gS6 BB6 HV4 HV5;go_wp2;go_roundw
      case rel=>exact⟨j+1,by simp,by omega,gR7,gS7,BB7⟩
      case measure=>simp [intOf];omega
     .have hje:j=s:=by omega
      subst hje;obtain⟨r1,r2,r3,r4,r5,r6,hR,-,-⟩:=gR.out;have HR:=hid hR;obtain⟨i0,i1,if0,if1⟩:=hR.cells;obtain⟨g0,g1,gf0,gf1⟩:=(hR.set2 (.slice m1 m2 m3) (.slice m4 m5 m6)).cells;clear hR;go_wp2;refine bodyPost_ret (v:= .agg #[.slice m1 m2 m3,.slice m4 m5 m6]) (by simp [results,Tryz.results229,go_sem,g0,g1]) rfl ?_;have hzz:=HZ.out.1;subst hzz;exact⟨k,_,rfl,HK.out.1.1,HK.out.1.2,⟨_,_,rfl,HMl.out.setP2 HR.out,HMh.out.setP2 HR.out⟩,jA hbel.out le0 _ _⟩
open Go.RowKit Nt Fm
open Ea (Pr iF cy eU jN dz cN qP cf cM aZ)
structure Sa (z:Pr) (p:Nat):Prop where
 z2:2*z.h<=2^p
 zl:z.l<=z.h
 zn:z.h<=z.l+1
 p4:4<=p
theorem Sa.sq {z:Pr}{p:Nat}(h:Sa z p):(cy z z p).l<2^(p+2)/\(cy z z p).h<2^(p+2):=by
 have h1:=Ea.yU h.z2;have h2:=Ea.tv z z p h.zl h.zl;have :=az p;rw[aB];omega
theorem Sa.z {z:Pr}{p:Nat}(h:Sa z p):z.l<2^(p+2)/\z.h<2^(p+2):=by
 have h1:=h.z2;have h2:=h.zl;have :=az p;rw[aB];omega
theorem Sa.pw {z:Pr}{p:Nat}(h:Sa z p) (k:Nat):(cf z p k).l<2^(p+2)/\(cf z p k).h<2^(p+2):=by
 have h1:=Ea.we h.z2 k;have h2:=Ea.vR (p:=p) h.zl k;have :=az p;rw[aB];omega
theorem Sa.ov {z:Pr}{p:Nat}(h:Sa z p) (k:Nat) {n:Nat}(hn:0<n):(eU (cf z p k) n).l<2^(p+2)/\(eU (cf z p k) n).h<2^(p+2):=by
 have h1:=h.pw k;have h2:=Ea.Ib (x:=cf z p k) hn;have h3:=Ea.Bo (cf z p k) hn (Ea.vR (p:=p) h.zl k);omega
theorem Sa.as {z:Pr}{p:Nat}(h:Sa z p) {k:Nat}(hk:k<=p):(cM z p k).l<2^(p+2)/\(cM z p k).h<2^(p+2)/\(cM z p k).h+4<2^(p+2):=by
 have h1:=Ea.BE h.z2 k hk;have h2:=Ea.Ec (p:=p) h.zl k;have :=az (p-k);have :2^4<=2^p:=aG (by decide) h.p4;rw[aB];omega
def uJ (z:Pr) (p k:Nat):Pr:=⟨(cM z p k).l,(cM z p k).h+4⟩
def Jw (w:World) (num den p:Nat) (r:Ending) (w':World):Prop:=
 ∃k v,r=.returned v/\k<=p/\(cf (qP num den p) p k).h<=1/\PV w' v (aZ num den p k)/\Below w.heap.size w w'
theorem Kh (vn vd:Value) (num den b p:Nat) (P:Int) (w:World) (hvn:NV w vn num) (hvd:NV w vd den) (hP:P=(p:Int)) (hn:num<2^b) (hd0:0<den) (h3:3*num<=den) (hb:b<=20000000) (hp:p<=19000000000000) (hp0:4<=p):
  Calls prog 246 #[vn,vd,.int .i64 P] w (Jw w num den p):=by
 subst hP;obtain⟨a1,n1,c1,rfl⟩:=hvn.shape;obtain⟨a2,n2,c2,rfl⟩:=hvd.shape;obtain⟨f1,f2,f3⟩:=Ea.BF (p:=p) hd0 h3 hp0;have LE:=hid (fun w' hv=>f_ (.slice a1 n1 c1) num p b p w' hv rfl hn (by omega) (by omega));have hnp:num*2^p<2^(b+p):=by rw[aB];exact cS hn (az p)
 have OVq:=hid (fun va w' ha hb=>pV va (.slice a2 n2 c2) (num*2^p) den (b+p) w' ha hb hd0 hnp (by omega));obtain⟨z,hz⟩:∃z,z=qP num den p:=⟨_,rfl⟩;have SA:Hid (Sa z p):=hid (by rw[hz];exact⟨f1,f2,f3,hp0⟩)
 have hzc:(num*2^p%den=0->z=⟨num*2^p/den,num*2^p/den⟩)/\(num*2^p%den≠0->z=⟨num*2^p/den,num*2^p/den+1⟩):=by
  rw[hz];unfold qP;constructor <;> intro hb <;> rw[FT]
  .rw[aj hb]
  .rw[ag hb]
 have ZC:=hid hzc;unfold Jw aZ;rw[<-hz];generalize num*2^p=N at *;generalize N/den=q at *;generalize N%den=rs at *;have FALL:=hid (fun k hk=>Ea.yt (z:=z) (p:=p) SA.out.z2 k hk);have OF:=hid (fun w'=>dU 1 (by omega) (by omega) w');have OF4:=hid (fun w'=>dU 4 (by omega) (by omega) w')
 have PLq:=hid (fun va vb w' ha hb (hq:z.h=q+1)=>gN va vb q 1 (p+2) w' ha hb (by have :=SA.out.z.2;omega) (by
      have :2^2<=2^(p+2):=aG (by decide) (by omega);omega) (by omega))
 have TQ:=hid (fun v u w' hv hu=>xG v u z z p (p+2) p w' hv hu rfl SA.out.z.1 SA.out.z.2 SA.out.z.1 SA.out.z.2 (by omega) (by omega));have HVN:=hid hvn;have HVD:=hid hvd;clear hn hd0 h3 f1 f2 f3 hvn hvd hnp hz hzc;go_enter func246,ntmps246;go_wp2_with fail
 refine(LE.out _ (HVN.out.alloc _)).mono ?_;rintro r w1 ⟨v1,rfl,hv1,hb1⟩;have C1:=hid (af ((Below.refl w.heap.size w).alloc le0 _) le0 hb1);have R1:=hid ((GI.new (x:=⟨0,0⟩) (NV.nil w) (NV.nil w)).below hb1);have HV1:=hid hv1;clear hb1 hv1;go_wp2_with fail
 refine(OVq.out _ _ HV1.out (HVD.out.below C1.out)).mono ?_;rintro r w2 ⟨v2,v3,rfl,hv2,hv3,hb2⟩;obtain⟨d1,d2,d3,rfl⟩:=hv2.shape;obtain⟨e1,e2,e3,rfl,l1,l2,lz⟩:=fD hv3;have C2:=af C1.out le0 hb2;have R2:=R1.out.below hb2;have hz1:w.heap.size<w2.heap.size:=R2.lt
 have hG0:∃G:Bool,decide (0<e2)=G/\((G=false/\rs=0)\/(G=true/\rs≠0)):=by
  rcases lz with⟨z1,z2⟩|⟨z1,z2⟩
  .exact⟨false,by rw[jx];omega,Or.inl ⟨rfl,z1⟩⟩
  .exact⟨true,by rw[da];omega,Or.inr ⟨rfl,z1⟩⟩
 obtain⟨G,hd,hG1⟩:=hG0;have HG:=hid hG1;have NQ:=hid hv2;have CC:=hid C2;have RR:=hid R2;clear hv2 hv3 hb2 C2 R2 C1 R1 HV1 lz hG1
 go_upto_if 27 with fail
 obtain⟨b9,hb9⟩:∃b9,b9=w2.heap.size:=⟨_,rfl⟩;obtain⟨V2,hV2⟩:∃V,V=w2.alloc (.cells #[.slice d1 d2 d3,.slice d1 d2 d3] 238):=⟨_,rfl⟩;have BQ:Hid (Bp V2 b9 (.slice d1 d2 d3) (.slice d1 d2 d3)):=hid (by rw[hV2,hb9];exact Bp.new w2 _ _);have N2:Hid (NV V2 (.slice d1 d2 d3) q):=hid (by rw[hV2];exact NQ.out.alloc _);have D2:Hid (Below w.heap.size w V2):=hid (by rw[hV2];exact CC.out.alloc (by omega) _);have Q2:Hid (GI V2 w.heap.size ⟨0,0⟩):=hid (by rw[hV2];exact RR.out.alloc _);rw[<-hV2,<-hb9];rw[<-hb9]at hz1;clear hV2 hb9 NQ CC RR hd
 go_cut [] (fun wx=>Hid (GI wx b9 z)/\Hid (Below w.heap.size w wx)/\Hid (GI wx w.heap.size ⟨0,0⟩))
 case first=>
  rcases HG.out with⟨hG,hr⟩|⟨hG,hr⟩
  .rw[hG]
   have hzz:=ZC.out.1 hr;have Z2:Hid (GI V2 b9 z):=hid ⟨d1,d2,d3,d1,d2,d3,BQ.out,by rw[hzz];exact N2.out,by rw[hzz];exact N2.out⟩;clear HG hr hzz ZC TQ PLq BQ N2;go_wp2_with fail
   go_meet
   exact⟨Z2,D2,Q2⟩
  .rw[hG]
   have hzz:=ZC.out.2 hr;have ZL:=hid (show z.l=q/\z.h=q+1 from by rw[hzz];exact⟨rfl,rfl⟩);clear HG hr hzz ZC;go_wp2_with fail
   refine(OF.out _).mono ?_;rintro r u5 ⟨v5,rfl,hv5,hb5⟩;have D3:=bt0 D2 hb5;have Q3:=hid (Q2.out.below hb5);have N3:=hid (N2.out.below hb5);have BQ3:=hid (BQ.out.below hb5);have HV5:=hid hv5;clear hv5 hb5 BQ D2 Q2 N2;go_wp2_with fail
   refine(PLq.out _ _ _ N3.out HV5.out ZL.out.2).mono ?_;rintro r u6 ⟨v6,rfl,hv6,hb6⟩;obtain⟨y1,y2,y3,rfl⟩:=hv6.shape;have D4:=bt0 D3 hb6;have Q4:=hid (Q3.out.below hb6);have N4:=hid (N3.out.below hb6);have BQ4:=hid (BQ3.out.below hb6);have HV6:=hid hv6;obtain⟨i0,i1,if0,if1⟩:=BQ4.out.cells;clear hv6 hb6 D3 Q3 N3 BQ3 HV5 PLq TQ;go_wp2_with fail
   go_meet
   refine⟨hid ⟨d1,d2,d3,y1,y2,y3,BQ4.out.set1 _,by rw[ZL.out.1];exact N4.out.setP BQ4.out 1 _,by rw[ZL.out.2];exact HV6.out.setP BQ4.out 1 _⟩,hid (D4.out.setCell (by show _<=b9;omega) _),hid ?_⟩;obtain⟨r1,r2,r3,r4,r5,r6,hR,hRl,hRh⟩:=Q4.out;exact⟨r1,r2,r3,r4,r5,r6,hR.set (by omega) _,hRl.setP BQ4.out 1 _,hRh.setP BQ4.out 1 _⟩
 case rest=>
 obtain⟨Z2,D2',Q2'⟩:=hcut;clear D2 Q2 BQ N2 HG ZC PLq;obtain⟨m1,m2,m3,m4,m5,m6,hM,hMl,hMh⟩:=Z2.out;obtain⟨c0,c1,-,-⟩:=hM.cells;have P2:Hid (PV wc (.agg #[.slice m1 m2 m3,.slice m4 m5 m6]) z):=hid ⟨_,_,rfl,hMl,hMh⟩;clear hM hMl hMh;go_wp2_with fail
 refine(TQ.out _ _ _ P2.out P2.out).mono ?_;rintro r w3 ⟨v3,rfl,hp3,hb3⟩;obtain⟨x1,x2,x3,x4,x5,x6,rfl,hv4,hv5⟩:=hp3.parts;have Z3':=hid (Z2.out.below hb3);have Q3':=hid (Q2'.out.below hb3);have D3':=hid (af D2'.out le0 hb3);have hz3:b9<w3.heap.size:=Z3'.out.lt;obtain⟨V3,hV3⟩:∃V3,V3=w3.alloc (.cells #[.slice x1 x2 x3,.slice x4 x5 x6] 238):=⟨_,rfl⟩;have Z3:Hid (GI V3 b9 z):=hid (by rw[hV3];exact Z3'.out.alloc _);have Q3:Hid (GI V3 w.heap.size ⟨0,0⟩):=hid (by rw[hV3];exact Q3'.out.alloc _);have S3:Hid (GI V3 w3.heap.size (cy z z p)):=hid (by rw[hV3];exact GI.new hv4 hv5);have D3:Hid (Below w.heap.size w V3):=hid (by rw[hV3];exact D3'.out.alloc (by omega) _);have HSZ:V3.heap.size=w3.heap.size+1:=by rw[hV3,size_alloc]
 clear c0 c1;obtain⟨m1,m2,m3,m4,m5,m6,hM,hMl,hMh⟩:=Z3.out;have HMl:=hid hMl;have HMh:=hid hMh;have HM:=hid hM;go_wp2_with fail
 rw[<-hV3];clear hV3 hp3 hb3 hv4 hv5 Z3' Q3' D3' Z2 Q2' D2' hMl hMh P2 TQ;have hlt:b9<V3.heap.size:=hM.lt;clear hM;obtain⟨b10,hb10⟩:∃b10,b10=w3.heap.size:=⟨_,rfl⟩;rw[<-hb10]at HSZ S3 hz3 ⊢;clear hb10
 go_cut [11,12] (fun s11 s12 wx=>∃BP BS:Nat,s11=.pointer (some ⟨BP,0,none⟩)/\s12=.pointer (some ⟨BS,0,none⟩)/\b10<BP/\b10<BS/\BP≠BS/\Hid (GI wx w.heap.size ⟨0,0⟩)/\Hid (GI wx b10 (cy z z p))/\Hid (GI wx BP z)/\Hid (GI wx BS z)/\Hid (Below w.heap.size w wx))
 case first=>
  obtain⟨c0,c1,-,-⟩:=HM.out.cells;obtain⟨c2,c3,-,-⟩:=HM.out.drew.cells;obtain⟨V6,hV6⟩:∃V6,V6=((V3.alloc (.cells #[.slice m1 m2 m3,.slice m4 m5 m6] 238)).alloc (.cells #[.slice m1 m2 m3,.slice m4 m5 m6] 238)):=⟨_,rfl⟩
  have A6:Hid (GI V6 (b10+1) z):=hid (by
   rw[hV6,<-HSZ];exact(GI.new (x:=z) HMl.out HMh.out).alloc _)
  have B6:Hid (GI V6 (b10+1+1) z):=hid (by
   rw[hV6,<-HSZ,<-size_alloc V3 (.cells #[.slice m1 m2 m3,.slice m4 m5 m6] 238)];exact GI.new (x:=z) (HMl.out.alloc _) (HMh.out.alloc _))
  have Q6:Hid (GI V6 w.heap.size ⟨0,0⟩):=hid (by rw[hV6];exact(Q3.out.alloc _).alloc _);have S6:Hid (GI V6 b10 (cy z z p)):=hid (by rw[hV6];exact(S3.out.alloc _).alloc _);have D6:Hid (Below w.heap.size w V6):=hid (by rw[hV6];exact(D3.out.alloc (by omega) _).alloc (by simp;omega) _);have HV6:Hid (V6=((V3.alloc (.cells #[.slice m1 m2 m3,.slice m4 m5 m6] 238)).alloc (.cells #[.slice m1 m2 m3,.slice m4 m5 m6] 238))/\True):=hid ⟨hV6,trivial⟩;clear hV6 HMl HMh
  go_region_held3 (fun w'=>w'.cell? ⟨b9,0,none⟩=some (.slice m1 m2 m3)/\w'.cell? ⟨b9,1,none⟩=some (.slice m4 m5 m6))
   (first
    |with_reducible exact⟨c2,c3⟩
    |(go_keep;done))
   (fail)
  all_goals
   clear c0 c1 c2 c3;have HQ3:=hid Q6.out.drew;have HT3:=hid S6.out.drew;have HA3:=hid A6.out.drew;have HB3:=hid B6.out.drew;have HD3:=hid D6.out.drew;rw[HV6.out.1]at HQ3 HT3 HA3 HB3 HD3;clear HV6 A6 B6 Q6 S6 D6 Q3 S3 D3 Z3 HM hlt HSZ;go_wp2_with fail
   go_meet
   first
    |exact⟨_,_,rfl,rfl,by omega,by omega,by omega,HQ3,HT3,HA3,HB3,HD3⟩
    |exact⟨_,_,rfl,rfl,by omega,by omega,by omega,HQ3,HT3,HB3,HA3,HD3⟩
 case rest=>
 obtain⟨BP,BS,rfl,rfl,h10P,h10S,hPS,HQ3,HT3,HM3,HS3,HD3⟩:=hcut;clear HMl HMh HM HSZ hlt Q3 S3 D3 Z3;have HM3:Hid (GI wc BP (cf z p 0)):=HM3;have HS3:Hid (GI wc BS (cM z p 0)):=HS3;have NE:Hid ((w.heap.size≠b10/\w.heap.size≠BP/\w.heap.size≠BS/\b10≠BP/\b10≠BS/\BP≠BS)/\True):=hid ⟨by omega,trivial⟩;have GE:Hid ((w.heap.size<=BP/\w.heap.size<=BS)/\True):=hid ⟨by omega,trivial⟩;clear hz1 hz3;go_wp2_with fail
 go_loopw [13] (fun i wr=>∃k:Nat,i=.int .i64 (2*(k:Int)+3)/\k<=p/\Hid (GI wr w.heap.size ⟨0,0⟩)/\Hid (GI wr b10 (cy z z p))/\Hid (GI wr BP (cf z p k))/\Hid (GI wr BS (cM z p k))/\Hid (Below w.heap.size w wr))
  (fun i _=>p+1-((intOf i).toNat-3)/2)
 case atStart=>exact⟨0,by simp,d_ _,HQ3,HT3,HM3,HS3,HD3⟩
 case round=>
  obtain⟨k,rfl,hk,gR,gT,gM,gS,hbel⟩:=hrel;clear HQ3 HT3 HM3 HS3 HD3;obtain⟨m1,m2,m3,m4,m5,m6,hM,hMl,hMh⟩:=gM.out;have HMl:=hid hMl;have HMh:=hid hMh;have HM:=hid hM;obtain⟨c0,c1,-,-⟩:=HM.out.drew.cells;clear hMl hMh hM;go_wp2_with fail
  go_region_held3 (fun w'=>w'.cell? ⟨BP,1,none⟩=some (.slice m4 m5 m6))
   (first
    |with_reducible exact c1
    |(obtain⟨-,p1,-,-⟩:=(HM.out.drew.below hb1).cells
      with_reducible exact p1)
    |(obtain⟨-,p1,-,-⟩:=((HM.out.drew.below HB1.out).drewN dn).cells
      with_reducible exact p1)
    |(go_keep;done))
   (first
   |(go_at_call 61;refine(OF.out _).mono ?_;rintro r u1 ⟨v1,rfl,hv1,hb1⟩;have HB1:=hid hb1;have HV1:=hid hv1;have B1:=hid (af hbel.out.drew le0 hb1))
   |(go_at_call 101;refine(jF _ _ _ _ _ ((show NV wr.drew _ _ from HMh.out).below HB1.out) HV1.out).mono ?_;rintro r u2 ⟨rfl,dn,rfl⟩))
  clear hv1 hb1 c0 c1;obtain⟨W2,hW2⟩:∃W2,W2=u1.drewN dn:=⟨_,rfl⟩;rw[<-hW2];have gR2:Hid (GI W2 w.heap.size ⟨0,0⟩):=hid (by rw[hW2];exact(gR.out.drew.below HB1.out).drewN dn);have gT2:Hid (GI W2 b10 (cy z z p)):=hid (by rw[hW2];exact(gT.out.drew.below HB1.out).drewN dn);have gM2:Hid (GI W2 BP (cf z p k)):=hid (by rw[hW2];exact(gM.out.drew.below HB1.out).drewN dn);have gS2:Hid (GI W2 BS (cM z p k)):=hid (by rw[hW2];exact(gS.out.drew.below HB1.out).drewN dn);have BB2:Hid (Below w.heap.size w W2):=hid (by rw[hW2];exact dh B1.out);clear hW2 HM HMl HMh HB1 HV1 gR gT gM gS hbel B1;rcases JQ (cf z p k).h with⟨hgt,hd⟩|⟨hle,hd⟩
  .have hkp:k<p:=by
    rcases eJ k p with h|h
    .exact h
    .have :=FALL.out k hk
     rw[show p-k=0 by omega]at this;omega
   have TI:=hid (fun v u w' hv hu=>xG v u (cf z p k) (cy z z p) p (p+2) p w' hv hu rfl (SA.out.pw k).1 (SA.out.pw k).2 SA.out.sq.1 SA.out.sq.2 (by omega) (by omega));have OVc:=hid (fun v w' hv=>Jb v (cf z p (k+1)) (2*k+3) (p+2) (2*(k:Int)+3) w' hv (by omega) (SA.out.pw (k+1)).1 (SA.out.pw (k+1)).2 (by omega) (by omega) (by omega));have PLc:=hid (fun v u w' hv hu=>DZ v u (cM z p k) (eU (cf z p (k+1)) (2*k+3)) (p+2) w' hv hu (SA.out.as hk).1 (SA.out.as hk).2.1 (SA.out.ov (k+1) (by omega)).1 (SA.out.ov (k+1) (by omega)).2 (by omega));have EQ1:Hid (cy (cf z p k) (cy z z p) p=cf z p (k+1)/\True):=hid ⟨rfl,trivial⟩;have EQ2:Hid (jN (cM z p k) (eU (cf z p (k+1)) (2*k+3))=cM z p (k+1)/\True):=hid ⟨rfl,trivial⟩;rw[EQ1.out.1]at TI;rw[EQ2.out.1]at PLc;clear EQ1 EQ2;obtain⟨m1,m2,m3,m4,m5,m6,hM,hMl,hMh⟩:=gM2.out;obtain⟨t1,t2,t3,t4,t5,t6,hT,hTl,hTh⟩:=gT2.out;obtain⟨c0,c1,-,-⟩:=hM.cells;obtain⟨e0,e1,-,-⟩:=hT.cells;have PVM:=hid (show PV W2 (.agg #[.slice m1 m2 m3,.slice m4 m5 m6]) (cf z p k) from⟨_,_,rfl,hMl,hMh⟩);have PVT:=hid (show PV W2 (.agg #[.slice t1 t2 t3,.slice t4 t5 t6]) (cy z z p) from⟨_,_,rfl,hTl,hTh⟩);clear hM hMl hMh hT hTl hTh;go_wp2_with fail
   refine(TI.out _ _ _ PVM.out PVT.out).mono ?_;rintro r u4 ⟨v4,rfl,hp4,hb4⟩;have BB4:=bt0 BB2 hb4;have gR4:=hid (gR2.out.below hb4);have gT4:=hid (gT2.out.below hb4);have gM4:=hid (gM2.out.below hb4);have gS4:=hid (gS2.out.below hb4);obtain⟨d1,d2,d3,d4,d5,d6,rfl,hv4,hv5⟩:=hp4.parts;have HV4:=hid hv4;have HV5:=hid hv5;clear hp4 hb4 hv4 hv5 gR2 gT2 gM2 gS2 TI c0 c1 e0 e1 PVM PVT BB2;obtain⟨o1,o2,o3,o4,o5,o6,hO,-,-⟩:=gM4.out;obtain⟨c0,c1,cf0,cf1⟩:=hO.cells;clear hO;go_wp2_with fail
   obtain⟨W5,hW5⟩:∃W5,W5=(u4.setCell ⟨BP,0,none⟩ (.slice d1 d2 d3)).setCell ⟨BP,1,none⟩ (.slice d4 d5 d6):=⟨_,rfl⟩;have gR5:Hid (GI W5 w.heap.size ⟨0,0⟩):=hid (by rw[hW5];exact gR4.out.store gM4.out NE.out.1.2.1 d1 d2 d3 d4 d5 d6);have gT5:Hid (GI W5 b10 (cy z z p)):=hid (by rw[hW5];exact gT4.out.store gM4.out NE.out.1.2.2.2.1 d1 d2 d3 d4 d5 d6);have gS5:Hid (GI W5 BS (cM z p k)):=hid (by rw[hW5];exact gS4.out.store gM4.out (gX NE.out.1.2.2.2.2.2) d1 d2 d3 d4 d5 d6);have gM5:Hid (GI W5 BP (cf z p (k+1))):=hid (by rw[hW5];exact gM4.out.put (y:=cf z p (k+1)) HV4.out HV5.out);have BB5:Hid (Below w.heap.size w W5):=hid (by rw[hW5];exact jA BB4.out GE.out.1.1 (.slice d1 d2 d3) (.slice d4 d5 d6));rw[<-hW5];clear hW5 gR4 gT4 gS4 gM4 BB4 HV4 HV5 c0 c1 cf0 cf1;obtain⟨m1,m2,m3,m4,m5,m6,hM,hMl,hMh⟩:=gM5.out;obtain⟨s1,s2,s3,s4,s5,s6,hS,hSl,hSh⟩:=gS5.out;have HMl:=hid hMl;have HMh:=hid hMh;have HSl:=hid hSl;have HSh:=hid hSh;have HM:=hid hM;have HS:=hid hS;obtain⟨i0,i1,-,-⟩:=HM.out.drew.cells;obtain⟨j0,j1,-,-⟩:=HS.out.drew.cells;clear hM hMl hMh hS hSl hSh
   go_region_with (first
    |(go_at_call 242;refine(OVc.out _ _ (show PV _ (.agg #[.slice m1 m2 m3,.slice m4 m5 m6]) (cf z p (k+1)) from⟨_,_,rfl,(show NV W5.drew _ _ from HMl.out),(show NV W5.drew _ _ from HMh.out)⟩)).mono ?_;rintro r u6 ⟨v6,rfl,hp6,hb6⟩;have HB6:=hid hb6;have HP6:=hid hp6;have BB6:=hid (af BB5.out.drew le0 hb6);obtain⟨k0,k1,-,-⟩:=(HS.out.drew.below hb6).cells)
    |(go_at_call 244;refine(PLc.out _ _ _ (show PV _ (.agg #[.slice s1 s2 s3,.slice s4 s5 s6]) (cM z p k) from⟨_,_,rfl,(show NV W5.drew _ _ from HSl.out).below HB6.out,(show NV W5.drew _ _ from HSh.out).below HB6.out⟩) HP6.out).mono ?_;rintro r u7 ⟨v7,rfl,hp7,hb7⟩;obtain⟨d1,d2,d3,d4,d5,d6,rfl,hv4,hv5⟩:=hp7.parts;have HV4:=hid hv4;have HV5:=hid hv5;have HB7:=hid hb7;have BB7:=bt0 BB6 hb7;obtain⟨l0,l1,lf0,lf1⟩:=((HS.out.drew.below HB6.out).below hb7).cells))
   all_goals
    have gS6:=hid ((gS5.out.drew.below HB6.out).below HB7.out);have gR7:=hid (((gR5.out.drew.below HB6.out).below HB7.out).store gS6.out NE.out.1.2.2.1 d1 d2 d3 d4 d5 d6);have gT7:=hid (((gT5.out.drew.below HB6.out).below HB7.out).store gS6.out NE.out.1.2.2.2.2.1 d1 d2 d3 d4 d5 d6);have gM7:=hid (((gM5.out.drew.below HB6.out).below HB7.out).store gS6.out NE.out.1.2.2.2.2.2 d1 d2 d3 d4 d5 d6);have gS7:=hid (gS6.out.put (y:=cM z p (k+1)) HV4.out HV5.out);have BB8:=hid (jA BB7.out GE.out.1.2 (.slice d1 d2 d3) (.slice d4 d5 d6));clear gR5 gT5 gS5 gM5 HB6 HP6 BB6 HV4 HV5 HB7 BB7 i0 i1 j0 j1 k0 k1 l0 l1 lf0 lf1 hv4 hv5 hb6 hb7 hp6 hp7 HMl HMh HSl HSh HM HS gS6;go_wp2;go_roundw
    case rel=>exact⟨k+1,by simp;omega,by omega,gR7,gT7,gM7,gS7,BB8⟩
    case measure=>simp [intOf];omega
  .obtain⟨s1,s2,s3,s4,s5,s6,hS,hSl,hSh⟩:=gS2.out
   have HSl:=hid hSl;have HSh:=hid hSh;have HS:=hid hS;clear hS hSl hSh
   have PLd:=hid (fun va vb w' ha hb=>gN va vb (cM z p k).h 4 (p+2) w' ha hb (SA.out.as hk).2.1 (by
    have :2^3<=2^(p+2):=aG (by decide) (by omega);omega) (by omega))
   have PLz:=hid (fun v u w' hv hu=>DZ v u (uJ z p k) (uJ z p k) (p+2) w' hv hu (SA.out.as hk).1 (SA.out.as hk).2.2 (SA.out.as hk).1 (SA.out.as hk).2.2 (by omega));have HK:Hid ((k<=p/\(cf z p k).h<=1)/\True):=hid ⟨⟨hk,hle⟩,trivial⟩;go_wp2_with fail
   obtain⟨c0,c1,cf0,cf1⟩:=HS.out.drew.cells
   go_region_with (first
    |(go_at_call 61;refine(OF4.out _).mono ?_;rintro r u1 ⟨v1,rfl,hv1,hb1⟩;obtain⟨-,p1,pf0,pf1⟩:=(HS.out.drew.below hb1).cells;have HB1:=hid hb1;have HV1:=hid hv1;have B1:=hid (af BB2.out.drew le0 hb1))
    |(go_at_call 103;refine(PLd.out _ _ _ ((show NV W2.drew _ _ from HSh.out).below HB1.out) HV1.out).mono ?_;rintro r u2 ⟨v2,rfl,hv2,hb2⟩;obtain⟨d4,d5,d6,rfl⟩:=hv2.shape;obtain⟨q0,q1,qf0,qf1⟩:=((HS.out.drew.below HB1.out).below hb2).cells;have HB2:=hid hb2;have HV2:=hid hv2;have B2:=bt0 B1 hb2))
   all_goals
    have S0:=hid ((HS.out.drew.below HB1.out).below HB2.out);obtain⟨W3,hW3⟩:∃W3,W3=u2.setCell ⟨BS,1,none⟩ (.slice d4 d5 d6):=⟨_,rfl⟩;have XX3:Hid (Bp W3 BS (.slice s1 s2 s3) (.slice d4 d5 d6)):=hid (by rw[hW3];exact S0.out.set1 _);have NL3:Hid (NV W3 (.slice s1 s2 s3) (uJ z p k).l):=hid (by rw[hW3];exact(((show NV W2.drew _ _ from HSl.out).below HB1.out).below HB2.out).setP S0.out 1 _);have NH3:Hid (NV W3 (.slice d4 d5 d6) (uJ z p k).h):=hid (by rw[hW3];exact HV2.out.setP S0.out 1 _)
    have gR3:Hid (GI W3 w.heap.size ⟨0,0⟩):=hid (by
     rw[hW3];obtain⟨r1,r2,r3,r4,r5,r6,hR,hRl,hRh⟩:=(gR2.out.drew.below HB1.out).below HB2.out;exact⟨r1,r2,r3,r4,r5,r6,hR.set NE.out.1.2.2.1 _,hRl.setP S0.out 1 _,hRh.setP S0.out 1 _⟩)
    have BB3:Hid (Below w.heap.size w W3):=hid (by rw[hW3];exact B2.out.setCell GE.out.1.2 _);rw[<-hW3];clear hW3 S0 HB1 HB2 HV1 HV2 B1 B2 HS HSl HSh gR2 gT2 gM2 gS2 BB2 hv1 hb1 hv2 hb2 c0 c1 cf0 cf1 p1 pf0 pf1 q0 q1 qf0 qf1 PLd;obtain⟨c0,c1,cf0,cf1⟩:=XX3.out.cells;go_wp2_with fail
    have PVZ:=hid (show PV W3 (.agg #[.slice s1 s2 s3,.slice d4 d5 d6]) (uJ z p k) from⟨_,_,rfl,NL3.out,NH3.out⟩);refine(PLz.out _ _ _ PVZ.out PVZ.out).mono ?_;rintro r u3 ⟨v3,rfl,hp3,hb3⟩;obtain⟨y1,y2,y3,y4,y5,y6,rfl,hv4,hv5⟩:=hp3.parts;have gR4:=hid (gR3.out.below hb3);have BB4:=bt0 BB3 hb3;have HV4:=hid hv4;have HV5:=hid hv5;clear hv4 hv5 hp3 hb3 c0 c1 cf0 cf1 gR3 BB3 NL3 NH3 XX3 PVZ PLz;obtain⟨r1,r2,r3,r4,r5,r6,hR,-,-⟩:=gR4.out;have HR:=hid hR;obtain⟨i0,i1,if0,if1⟩:=hR.cells;clear hR;go_wp2;obtain⟨g0,g1,gf0,gf1⟩:=(HR.out.set2 (.slice y1 y2 y3) (.slice y4 y5 y6)).cells;refine bodyPost_ret (v:= .agg #[.slice y1 y2 y3,.slice y4 y5 y6]) (by simp [results,Tryz.results246,go_sem,g0,g1]) rfl ?_;exact⟨k,_,rfl,HK.out.1.1,HK.out.1.2,⟨_,_,rfl,HV4.out.setP2 HR.out,HV5.out.setP2 HR.out⟩,jA BB4.out le0 _ _⟩
