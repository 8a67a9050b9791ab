import Derived.Test.YtofdjfdnckmmmaaGreatDoorPsc
set_option linter.all false
set_option maxHeartbeats 8000000
set_option maxRecDepth 100000
open Go.Proofs.Tryz
open Go.Lib (hid decDigits)
namespace Go.Proofs.YtofdjfdnckmmmaaGreatDoor
open Go.RowKit Nt Fm Fl
def jy (w:World) (B:Nat) (g:Bool) (s:Value) (e:Int) (vn vd:Value):Prop:=w.heap[B]?=some (.cells #[.bool g,s,.int .i64 e,vn,vd] 167 (0,0))
theorem jy.below {w w':World}{B:Nat}{g:Bool}{s vn vd:Value}{e:Int}(h:jy w B g s e vn vd) (hb:Below w.heap.size w w'):jy w' B g s e vn vd:=(hb.block B (mQ.1 h).1).trans h
theorem jy.cells {w:World}{B:Nat}{g:Bool}{s vn vd:Value}{e:Int}(h:jy w B g s e vn vd):w.cell? ⟨B,0,none⟩=some (.bool g)/\w.cell? ⟨B,3,none⟩=some vn/\w.cell? ⟨B,4,none⟩=some vd:=by
 unfold jy at h;refine⟨?_,?_,?_⟩ <;> (rw[cell_of_row _ _ _ _ _ _ h];rfl)
theorem UE {neg:Bool}{N D:Nat}{mode:Int}(h:N%D=0):rq neg N D mode=N/D/\rc N D=false:=by
 unfold rq rc;rw[aj h];simp [h]
theorem af0 {neg:Bool}{N D:Nat}{mode:Int}(h:N%D≠0):rq neg N D mode=(if dY neg (decide (N/D%2=1)) (aK ((N%D*2:Nat):Int) (D:Int)) mode=true then N/D+1 else N/D)/\rc N D=true:=by
 unfold rq rc;rw[ag h];simp [h]
def vS (w:World) (B:Nat) (g:Bool) (N D:Nat):Prop:= ∃s e vn vd,jy w B g s e vn vd/\NV w vn N/\NV w vd D
theorem JX (B:Nat) (g:Bool) (N D k0:Nat) (mode:Int) (w:World) (h:vS w B g N D) (hN:N<2^k0) (hD:0<D) (hDk:D<2^k0) (hk0:k0<=900000) (m0:0<=mode) (m1:mode<=4):
  Calls prog 80 #[.pointer (some ⟨B,0,none⟩),.int .i64 mode] w (uY w (rq g N D mode) (rc N D)):=by
 obtain⟨s,e,vn,vd,hr,hn,hd⟩:=h;obtain⟨an,nn,cn,rfl⟩:=hn.shape;obtain⟨ad,nd,cd,rfl⟩:=hd.shape;have XR:=hid hr;have HN:=hid hn;have HD:=hid hd;obtain⟨q,hq⟩:∃q,q=N/D:=⟨_,rfl⟩;obtain⟨r,hrr⟩:∃r,r=N%D:=⟨_,rfl⟩;have OV:=hid (fun w' (ha:NV w' (.slice an nn cn) N) (hb:NV w' (.slice ad nd cd) D)=>pV _ _ N D k0 w' ha hb hD hN (by omega));rw[<-hq,<-hrr]at OV;have hql:q<2^k0:=by rw[hq];exact de (iG _ _) hN
 have hrl:r<2^k0:=by rw[hrr];exact wu (ew _ hD) hDk
 have LF:=hid (fun va w' (ha:NV w' va r)=>f_ va r 1 k0 1 w' ha rfl hrl (by omega) (by omega));have PL:=hid (fun va vb w' (ha:NV w' va q) (hb:NV w' vb 1)=>gN va vb q 1 (k0+1) w' ha hb (aX hql (aG (by omega) (by omega))) (by have :=az k0;rw[bH];omega) (by omega));have O1:=hid (fun w'=>dU 1 (by omega) (by omega) w');have CM:=hid (fun va w' (ha:NV w' va (r*2^1)) (hb:NV w' (.slice ad nd cd) D)=>jF va _ _ D w' ha hb);rw[show r*2^1=r*2 by omega]at CM LF
 have hz:(r=0/\rq g N D mode=q/\rc N D=false)\/(r≠0/\rq g N D mode=(if dY g (decide (q%2=1)) (aK ((r*2:Nat):Int) (D:Int)) mode=true then q+1 else q)/\rc N D=true):=by
  rw[hq,hrr];by_cases h:N%D=0
  .exact Or.inl ⟨h,UE h⟩
  .exact Or.inr ⟨h,af0 h⟩
 obtain⟨Q,hQ⟩:∃Q,Q=rq g N D mode:=⟨_,rfl⟩;obtain⟨C,hC⟩:∃C,C=rc N D:=⟨_,rfl⟩;rw[<-hQ,<-hC]at hz;rw[<-hQ,<-hC];generalize hhf:aK ((r*2:Nat):Int) (D:Int)=half at *;have UP:=hid (fun bo w'=>ox g bo half mode w' m0 m1);have HZ:=hid hz;clear hz hQ hC hhf hr hn hd hN hD hDk hql hrl hq hrr hk0;go_enter func80,ntmps80;go_wp2_with fail
 replace XR:=hid (show jy w.drew B g s e (.slice an nn cn) (.slice ad nd cd) from XR.out);replace HN:=hid HN.out.drew;replace HD:=hid HD.out.drew;have BW:Hid (Below w.heap.size w w.drew):=hid br0.drew;obtain⟨p0,p3,p4⟩:=XR.out.cells
 go_region_held3 (fun w'=>w'.cell? ⟨B,0,none⟩=some (.bool g)/\w'.cell? ⟨B,3,none⟩=some (.slice an nn cn)/\w'.cell? ⟨B,4,none⟩=some (.slice ad nd cd))
  (first
   |with_reducible exact⟨p0,p3,p4⟩
   |(obtain⟨p0,p3,p4⟩:=XR.out.cells;with_reducible exact⟨p0,p3,p4⟩)
   |(go_keep;done))
  (first
   |(go_at_call 107;refine(OV.out _ HN.out HD.out).mono ?_;rintro rr w2 ⟨v2,v3,rfl,hv2,hv3,hb2⟩;have N2:=hid hv2;have N3:=hid hv3;replace XR:=hid (XR.out.below hb2);replace HD:=hid (HD.out.below hb2);replace BW:=bt0 BW hb2;clear hv2 hv3 hb2))
 clear p0 p3 p4;obtain⟨a3,n3,c3,rfl,hnc3,hc3,hcase⟩:=fD N3.out;obtain⟨aq,nq,cq,rfl,hnq1,hnq2,hodd⟩:=x8 N2.out;unfold maxLen at hnq2;rcases hcase with⟨hr0,rfl⟩|⟨hr0,hn3⟩
 .rcases HZ.out with⟨-,e1,e2⟩|⟨h,-⟩
  .subst e1 e2
   clear hodd;go_wp2;go_ret2;exact⟨_,rfl,N2.out,BW.out⟩
  .exact absurd hr0 h
 .have hz2:Q=(if dY g (decide (q%2=1)) half mode=true then q+1 else q)/\C=true:=by
   rcases HZ.out with⟨h,-⟩|⟨-,h⟩
   .exact absurd h hr0
   .exact h
  obtain⟨hQ,rfl⟩:=hz2;clear HZ;have hn3b:((n3:Int)==0)=false:=by rw[aH];omega
  have HODD:=hid hodd;clear hodd;rcases HODD.out with⟨o1,o2⟩|⟨o1,b,off,d,rfl,o3,o4,o5,o6⟩
  .obtain rfl:nq=0:=by omega
   have eo:decide (q%2=1)=false:=by rw[o2];rfl
   clear o2;clear HODD;go_wp2_with fail
   replace XR:=hid (show jy w2.drew B g s e (.slice an nn cn) (.slice ad nd cd) from XR.out);replace N2:=hid N2.out.drew;replace N3:=hid N3.out.drew;replace HD:=hid HD.out.drew;replace BW:Hid (Below w.heap.size w w2.drew):=hid BW.out.drew;obtain⟨p0,p3,p4⟩:=XR.out.cells
   go_region_held3 (fun w'=>w'.cell? ⟨B,0,none⟩=some (.bool g)/\w'.cell? ⟨B,3,none⟩=some (.slice an nn cn)/\w'.cell? ⟨B,4,none⟩=some (.slice ad nd cd))
    (first
     |with_reducible exact⟨p0,p3,p4⟩
     |(obtain⟨p0,p3,p4⟩:=XR.out.cells;with_reducible exact⟨p0,p3,p4⟩)
     |(go_keep;done))
    (first
     |(go_at_call 98;refine(LF.out _ _ N3.out).mono ?_;rintro rr w3 ⟨v4,rfl,hv,hb⟩;have N4:=hid hv;replace XR:=hid (XR.out.below hb);replace N2:=hid (N2.out.below hb);replace HD:=hid (HD.out.below hb);replace BW:=bt0 BW hb;clear hv hb)
     |(go_at_call 101;refine(CM.out _ _ N4.out HD.out).mono ?_;rintro rr w4 ⟨rfl,nw,rfl⟩;replace XR:=hid (show jy (w3.drewN nw) B g s e (.slice an nn cn) (.slice ad nd cd) from XR.out);replace N2:=hid (N2.out.drewN nw);replace BW:Hid (Below w.heap.size w (w3.drewN nw)):=hid (dh BW.out))
     |(go_at_call 102;refine(UP.out _ _).mono ?_;rintro rr w5 ⟨rfl,rfl⟩))
   clear p0 p3 p4;obtain⟨u,hu⟩:∃u,u=dY g false half mode:=⟨_,rfl⟩;rw[<-hu];rw[eo,<-hu]at hQ;clear eo hu;cases u
   .obtain rfl:Q=q:=hQ
    go_wp2;go_ret2;exact⟨_,rfl,N2.out,BW.out⟩
   .obtain rfl:Q=q+1:=hQ
    go_wp2_with fail
    refine(O1.out _).mono ?_;rintro rr w6 ⟨v6,rfl,hv,hb⟩;have N6:=hid hv;replace N2:=hid (N2.out.below hb);replace BW:=bt0 BW hb;clear hv hb;go_wp2_with fail
    refine(PL.out _ _ _ N2.out N6.out).mono ?_;rintro rr w7 ⟨v7,rfl,hv,hb⟩;have N7:=hid hv;replace BW:=bt0 BW hb;clear hv hb;obtain⟨a7,n7,c7,rfl⟩:=N7.out.shape;go_wp2;go_ret2;exact⟨_,rfl,N7.out,BW.out⟩
  .have hnq:(0:Int)<(nq:Int):=by omega
   by_cases hd:d%2=1
   .have eo:decide (q%2=1)=true:=by rw[<-o6,da];exact hd
    have hd2:((d:Int)%2==1)=true:=by rw[dV];omega
    clear o6 hd;clear HODD;go_wp2_with fail
    replace XR:=hid (show jy w2.drew B g s e (.slice an nn cn) (.slice ad nd cd) from XR.out);replace N2:=hid N2.out.drew;replace N3:=hid N3.out.drew;replace HD:=hid HD.out.drew;replace BW:Hid (Below w.heap.size w w2.drew):=hid BW.out.drew;obtain⟨p0,p3,p4⟩:=XR.out.cells
    go_region_held3 (fun w'=>w'.cell? ⟨B,0,none⟩=some (.bool g)/\w'.cell? ⟨B,3,none⟩=some (.slice an nn cn)/\w'.cell? ⟨B,4,none⟩=some (.slice ad nd cd))
     (first
      |with_reducible exact⟨p0,p3,p4⟩
      |(obtain⟨p0,p3,p4⟩:=XR.out.cells;with_reducible exact⟨p0,p3,p4⟩)
      |(go_keep;done))
     (first
      |(go_at_call 98;refine(LF.out _ _ N3.out).mono ?_;rintro rr w3 ⟨v4,rfl,hv,hb⟩;have N4:=hid hv;replace XR:=hid (XR.out.below hb);replace N2:=hid (N2.out.below hb);replace HD:=hid (HD.out.below hb);replace BW:=bt0 BW hb;clear hv hb)
      |(go_at_call 101;refine(CM.out _ _ N4.out HD.out).mono ?_;rintro rr w4 ⟨rfl,nw,rfl⟩;replace XR:=hid (show jy (w3.drewN nw) B g s e (.slice an nn cn) (.slice ad nd cd) from XR.out);replace N2:=hid (N2.out.drewN nw);replace BW:Hid (Below w.heap.size w (w3.drewN nw)):=hid (dh BW.out))
      |(go_at_call 102;refine(UP.out _ _).mono ?_;rintro rr w5 ⟨rfl,rfl⟩))
    clear p0 p3 p4;obtain⟨u,hu⟩:∃u,u=dY g true half mode:=⟨_,rfl⟩;rw[<-hu];rw[eo,<-hu]at hQ;clear eo hu hd2 o4 o5;cases u
    .obtain rfl:Q=q:=hQ
     go_wp2;go_ret2;exact⟨_,rfl,N2.out,BW.out⟩
    .obtain rfl:Q=q+1:=hQ
     go_wp2_with fail
     refine(O1.out _).mono ?_;rintro rr w6 ⟨v6,rfl,hv,hb⟩;have N6:=hid hv;replace N2:=hid (N2.out.below hb);replace BW:=bt0 BW hb;clear hv hb;go_wp2_with fail
     refine(PL.out _ _ _ N2.out N6.out).mono ?_;rintro rr w7 ⟨v7,rfl,hv,hb⟩;have N7:=hid hv;replace BW:=bt0 BW hb;clear hv hb;obtain⟨a7,n7,c7,rfl⟩:=N7.out.shape;go_wp2;go_ret2;exact⟨_,rfl,N7.out,BW.out⟩
   .have eo:decide (q%2=1)=false:=by rw[<-o6,jx];exact hd
    have hd2:((d:Int)%2==1)=false:=by rw[aH];omega
    clear o6 hd;clear HODD;go_wp2_with fail
    replace XR:=hid (show jy w2.drew B g s e (.slice an nn cn) (.slice ad nd cd) from XR.out);replace N2:=hid N2.out.drew;replace N3:=hid N3.out.drew;replace HD:=hid HD.out.drew;replace BW:Hid (Below w.heap.size w w2.drew):=hid BW.out.drew;obtain⟨p0,p3,p4⟩:=XR.out.cells
    go_region_held3 (fun w'=>w'.cell? ⟨B,0,none⟩=some (.bool g)/\w'.cell? ⟨B,3,none⟩=some (.slice an nn cn)/\w'.cell? ⟨B,4,none⟩=some (.slice ad nd cd))
     (first
      |with_reducible exact⟨p0,p3,p4⟩
      |(obtain⟨p0,p3,p4⟩:=XR.out.cells;with_reducible exact⟨p0,p3,p4⟩)
      |(go_keep;done))
     (first
      |(go_at_call 98;refine(LF.out _ _ N3.out).mono ?_;rintro rr w3 ⟨v4,rfl,hv,hb⟩;have N4:=hid hv;replace XR:=hid (XR.out.below hb);replace N2:=hid (N2.out.below hb);replace HD:=hid (HD.out.below hb);replace BW:=bt0 BW hb;clear hv hb)
      |(go_at_call 101;refine(CM.out _ _ N4.out HD.out).mono ?_;rintro rr w4 ⟨rfl,nw,rfl⟩;replace XR:=hid (show jy (w3.drewN nw) B g s e (.slice an nn cn) (.slice ad nd cd) from XR.out);replace N2:=hid (N2.out.drewN nw);replace BW:Hid (Below w.heap.size w (w3.drewN nw)):=hid (dh BW.out))
      |(go_at_call 102;refine(UP.out _ _).mono ?_;rintro rr w5 ⟨rfl,rfl⟩))
    clear p0 p3 p4;obtain⟨u,hu⟩:∃u,u=dY g false half mode:=⟨_,rfl⟩;rw[<-hu];rw[eo,<-hu]at hQ;clear eo hu hd2 o4 o5;cases u
    .obtain rfl:Q=q:=hQ
     go_wp2;go_ret2;exact⟨_,rfl,N2.out,BW.out⟩
    .obtain rfl:Q=q+1:=hQ
     go_wp2_with fail
     refine(O1.out _).mono ?_;rintro rr w6 ⟨v6,rfl,hv,hb⟩;have N6:=hid hv;replace N2:=hid (N2.out.below hb);replace BW:=bt0 BW hb;clear hv hb;go_wp2_with fail
     refine(PL.out _ _ _ N2.out N6.out).mono ?_;rintro rr w7 ⟨v7,rfl,hv,hb⟩;have N7:=hid hv;replace BW:=bt0 BW hb;clear hv hb;obtain⟨a7,n7,c7,rfl⟩:=N7.out.shape;go_wp2;go_ret2;exact⟨_,rfl,N7.out,BW.out⟩
open Go.Shelf Go.RowKit Go.Lib Nt Fm Fl
theorem tj (c:Nat) (X:Int) (hX:X=(c:Int)) (h:c<=1000000) (w:World):
  Calls prog 26 #[.string ⟨#[48]⟩,.int .i64 X] w fun e w'=>e=.returned (.string ⟨(List.replicate c (48:UInt8)).toArray⟩)/\Below w.heap.size w w':=by
 subst hX;have h:=Any.strings_Repeat Tryz.laysRepeat Au ⟨#[48]⟩ c w (by omega) (by show 1*c<=_;omega);rw[CE]at h;refine h.mono ?_;rintro e w' ⟨rfl,hb⟩;exact⟨by rw[show(ByteArray.mk #[48]).data.toList=[48] from rfl,FQ],hb⟩
theorem IA (x:Int) (x0:0<=x) (x1:x<=18446744073709551615) (w:World):
  Calls prog 81 #[.int .u64 x] w fun e w'=>e=.returned (.string ⟨(gW x).toArray⟩)/\w=w':=by
 by_cases h:9223372036854775808<=x
 .have e:gW x=[45]:=by unfold gW;rw[aj h]
  have hh:(x/9223372036854775808==1)=true:=by rw[dV];omega
  rw[e];clear e;go_enter func81,ntmps81;go_wp2;go_ret;exact⟨rfl,rfl⟩
 .have e:gW x=[]:=by unfold gW;rw[ag h]
  have hh:(x/9223372036854775808==1)=false:=by rw[aH];omega
  rw[e];clear e;go_enter func81,ntmps81;go_wp2;go_ret;exact⟨rfl,rfl⟩
theorem Mz {T:ByteArray}{l:List UInt8}(hT:T=⟨l.toArray⟩) (a k:Nat) (ha:a=k) (n:Nat) (hn:n=l.length) (hk:k<=l.length):T.extract 0 a++⟨#[46]⟩++T.extract a n=⟨(l.take k++46::l.drop k).toArray⟩:=by
 subst hT ha hn;apply eK;simp [lY,ir];exact dI (by simp)
theorem Me (s:List UInt8) (p:Nat) (w:World) (hs:s.length<=100000) (hp:p<=10000):
  Calls prog 82 #[.string ⟨s.toArray⟩,.int .i64 (p:Int)] w fun e w'=>e=.returned (.string ⟨(pt s p).toArray⟩)/\Below w.heap.size w w':=by
 obtain⟨S,hS⟩:∃S:ByteArray,S=⟨s.toArray⟩:=⟨_,rfl⟩;rw[<-hS];have hz:S.size=s.length:=by rw[hS];rfl
 have HS:=hid hS;clear hS;by_cases h0:p=0
 .subst h0
  have e:pt s 0=s:=by unfold pt;rw[aj rfl]
  rw[e,<-HS.out];clear e;go_enter func82,ntmps82;go_wp2;go_ret;exact⟨rfl,Below.refl _ _⟩
 .have hp0:((p:Int)==0)=false:=by rw[aH];omega
  by_cases hl:s.length<=p
  .have RP:=hid (fun X w' (h:X=((p+1-s.length:Nat):Int))=>tj (p+1-s.length) X h (by omega) w')
   obtain⟨Z,hZ⟩:∃Z:ByteArray,Z=⟨(List.replicate (p+1-s.length) (48:UInt8)).toArray⟩:=⟨_,rfl⟩;rw[<-hZ]at RP;have hzz:Z.size=p+1-s.length:=by rw[hZ];simp [ByteArray.size]
   obtain⟨n,hn⟩:∃n,n=s.length:=⟨_,rfl⟩;rw[<-hn]at hz hl hs RP hzz;have hlz:((n:Nat):Int)<=(p:Int):=by omega
   have HZ:=hid hZ;obtain⟨T,hT⟩:∃T,T=Z++S:=⟨_,rfl⟩;have hTz:T.size=p+1:=by rw[hT,qL,hz,hzz];omega
   have HT:=hid hT;have HN:=hid hn;clear hZ hT hn;go_enter func82,ntmps82;go_wp2_with (go_at_call 26;refine(RP.out _ _ (by omega)).mono ?_;rintro e w3 ⟨rfl,hb3⟩;have B3:=hid hb3;clear hb3)
   rw[<-HT.out];go_quiet (fail)
   go_wp2;go_ret;refine⟨?_,dh B3.out⟩
   have hT2:T=⟨(List.replicate (p+1-s.length) (48:UInt8)++s).toArray⟩:=by
    rw[HT.out,HZ.out,HS.out,ByteArray.mk_append_mk]
   have hN:=HN.out
   have e:T.extract 0 1++⟨#[46]⟩++T.extract 1 (p+1)=⟨(pt s p).toArray⟩:=by
    rw[Mz hT2 1 ((List.replicate (p+1-s.length) (48:UInt8)++s).length-p) (by simp;omega) (p+1) (by simp;omega) (by simp)];unfold pt;rw[ag h0]
   exact congrArg (fun z=>Ending.returned (Value.string z)) e
  .obtain⟨n,hn⟩:∃n,n=s.length:=⟨_,rfl⟩
   rw[<-hn]at hz hl hs;have hlz:(p:Int)<((n:Nat):Int):=by omega
   obtain⟨k,hk⟩:∃k,k=n-p:=⟨_,rfl⟩;have hkz:(n:Int)-(p:Int)=(k:Int):=by omega
   have hkn:(k:Int)<=(n:Int):=by omega
   have HN:=hid hn;have HK:=hid hk;clear hn hk;go_enter func82,ntmps82;go_wp2;go_quiet (fail)
   go_wp2;go_ret;refine⟨?_,dh br0⟩;have hN:=HN.out;have hK:=HK.out
   have hT2:S=⟨(List.replicate (p+1-s.length) (48:UInt8)++s).toArray⟩:=by
    rw[show p+1-s.length=0 by omega];exact HS.out
   have e:S.extract 0 k++⟨#[46]⟩++S.extract k n=⟨(pt s p).toArray⟩:=by
    rw[Mz hT2 k ((List.replicate (p+1-s.length) (48:UInt8)++s).length-p) (by simp;omega) n (by simp;omega) (by simp)];unfold pt;rw[ag h0]
   exact congrArg (fun z=>Ending.returned (Value.string z)) e
theorem NP (d:D) (t:Int):dD d t<2^(4*(-t).toNat+1+(-d.e).toNat):=by
 unfold dD;rw[aB];exact cS (vU _) (az _)
theorem xa (d:D) (t mode:Int) {k:Nat}(h:dN d t<2^k):dQ d t mode<2^(k+1):=by
 have h1:=Nl d.neg (dN d t) (dD d t) mode;have h2:=iG (dN d t) (dD d t);have :=az k;unfold dQ;rw[bH];omega
theorem AQ {q k:Nat}(hk:1<=k) (h:q<2^k):(decDigits q).length<=k:=
 nt k q hk (aX h (wk (by omega) k))
theorem Ca (q p k:Nat) (h:(decDigits q).length<=k):(pt (decDigits q) p).length<=p+k+3:=by
 rw[WX];split <;> omega
theorem tC (x:Int):(gW x).length<=1:=by unfold gW;split <;> simp
theorem qZ (a b:List UInt8) {A B:ByteArray}(hA:A=⟨a.toArray⟩) (hB:B=⟨b.toArray⟩):A++B=⟨(a++b).toArray⟩:=by
 subst hA hB;rw[ByteArray.mk_append_mk]
theorem BH {x:Int}(x0:0<=x) (x1:x<=18446744073709551615) {t:Int}(t0: -1500<=t) (t1:t<=1500) {K:Nat}(hK:9000<=K):dN (ai x) t<2^K/\dD (ai x) t<2^K:=by
 obtain⟨f1,f2,f3,f4,f5⟩:=dR x x0 x1;constructor
 .refine aX (Ce (ai x) t (kd:=53) f2).2 (aG (by omega) (by omega))
 .exact aX (NP _ _) (aG (by omega) (by omega))
def tS (w:World) (s:List UInt8) (b:Bool) (x:Int) (e:Ending) (w':World):Prop:=e=.returned (.tuple #[.string ⟨s.toArray⟩,.bool b,.int .i64 x])/\Below w.heap.size w w'
theorem xQ (x places mode:Int) (x0:0<=x) (x1:x<=18446744073709551615) (w:World) (hT:aQ w) (hT10:b_ w):
  Calls prog 48 #[.int .u64 x,.int .i64 places,.int .i64 mode] w (tS w (o8 x places mode) (K9 x places mode) (pP x places mode)):=by
 have HV:=hid (fun w'=>sI x x0 x1 w');have KN:=hid (fun w'=>dF mode w');unfold o8 K9;rcases Nh x places mode with⟨h1,hE⟩|⟨h1,h2,hE⟩|⟨h1,h2,hE⟩
 .rw[h1]at HV
  rw[hE,ag (by decide),show(decide ((4:Int)=0) && dC (ai x) places)=false by rfl];clear hE h1 hT hT10;go_enter func48,ntmps48;go_wp2_with (go_at_call 27;refine(HV.out _).mono ?_;rintro e w1 ⟨rfl,rfl⟩)
  go_ret3;exact⟨rfl,Below.refl _ _⟩
 .rw[h1]at HV
  rw[hE,ag (by decide),show(decide ((1:Int)=0) && dC (ai x) places)=false by rfl];clear hE h1 hT hT10;by_cases hk:0<=mode/\mode<=4
  .have hkb:aD mode=true:=by unfold aD;rw[da];exact hk
   rw[hkb]at KN;by_cases hp:places<0
   .clear h2 hk hkb
    go_enter func48,ntmps48
    go_wp2_with (first
     |(go_at_call 27;refine(HV.out _).mono ?_;rintro e w1 ⟨rfl,rfl⟩)
     |(go_at_call 28;refine(KN.out _).mono ?_;rintro e w1 ⟨rfl,rfl⟩))
    go_ret3;exact⟨rfl,Below.refl _ _⟩
   .have hp2:1100<places:=by
     rcases jQ 1100 places with h|h
     .exact h
     .exact absurd ⟨hk,by omega,h⟩ h2
    clear h2 hk hkb;go_enter func48,ntmps48
    go_wp2_with (first
     |(go_at_call 27;refine(HV.out _).mono ?_;rintro e w1 ⟨rfl,rfl⟩)
     |(go_at_call 28;refine(KN.out _).mono ?_;rintro e w1 ⟨rfl,rfl⟩))
    go_ret3;exact⟨rfl,Below.refl _ _⟩
  .have hkb:aD mode=false:=by unfold aD;rw[jx];exact hk
   rw[hkb]at KN;clear h2 hk hkb;go_enter func48,ntmps48
   go_wp2_with (first
    |(go_at_call 27;refine(HV.out _).mono ?_;rintro e w1 ⟨rfl,rfl⟩)
    |(go_at_call 28;refine(KN.out _).mono ?_;rintro e w1 ⟨rfl,rfl⟩))
   go_ret3;exact⟨rfl,Below.refl _ _⟩
 .obtain⟨⟨m0,m1⟩,p0,p1⟩:=h2
  have hkb:aD mode=true:=by unfold aD;rw[da];exact⟨m0,m1⟩
  rw[h1]at HV;rw[hkb]at KN;rw[hE,aj rfl,show(decide ((0:Int)=0) && dC (ai x) places)=dC (ai x) places by rfl];clear hE h1 hkb;obtain⟨p,rfl⟩:=gH p0;rw[gf];obtain⟨K0,hK0,hK1⟩:∃K0,9000<=K0/\K0<=9000:=⟨9000,by omega,by omega⟩;obtain⟨b1,b2⟩:=BH x0 x1 (t:=(p:Int)) (by omega) (by omega) hK0;obtain⟨f1,f2,f3,f4,f5⟩:=dR x x0 x1;have VL:=hid (fun w' h=>ia x x0 x1 w' h);have SC:=hid (fun v w' (h:DV w' v (ai x))=>En v (ai x) (p:Int) 53 w' h f2 (by omega) (by omega) (by omega) (by omega) (by omega));have RR:=hid (fun B w' (h:vS w' B (ai x).neg (dN (ai x) p) (dD (ai x) p))=>JX B _ _ _ K0 mode w' h b1 (qb _ _) b2 (by omega) m0 m1);have SG:=hid (fun w'=>IA x x0 x1 w');have hq:=xa (ai x) (p:Int) mode b1;have hql:=AQ (by omega) hq;have DC:=hid (fun va w' (h:NV w' va (dQ (ai x) p mode)) (h2:b_ w')=>uz va _ (K0+1) w' h hq (by omega) h2);have PT:=hid (fun w'=>Me (decDigits (dQ (ai x) p mode)) p w' (by omega) (by omega));have hpl:=Ca (dQ (ai x) p mode) p (K0+1) hql;have hsl:=tC x;change Hid (∀B w' (h:vS w' B (ai x).neg (dN (ai x) p) (dD (ai x) p)),Calls prog 80 #[.pointer (some ⟨B,0,none⟩),.int .i64 mode] w' (uY w' (dQ (ai x) p mode) (dC (ai x) p))) at RR;generalize hqq:dQ (ai x) p mode=q at *;generalize hcc:dC (ai x) p=c at *;obtain⟨ps,hps⟩:∃ps,ps=pt (decDigits q) p:=⟨_,rfl⟩;obtain⟨ss,hss⟩:∃ss,ss=gW x:=⟨_,rfl⟩;rw[<-hps]at PT hpl;rw[<-hps,<-hss];rw[<-hss]at SG hsl;obtain⟨PS,hPS⟩:∃PS:ByteArray,PS=⟨ps.toArray⟩:=⟨_,rfl⟩;obtain⟨SS,hSS⟩:∃SS:ByteArray,SS=⟨ss.toArray⟩:=⟨_,rfl⟩
  have z1:PS.size<=20000:=by
   have :PS.size=ps.length:=by rw[hPS];rfl
   omega
  have z2:SS.size<=1:=by
   have :SS.size=ss.length:=by rw[hSS];rfl
   omega
  have hA:=qZ ss ps hSS hPS;rw[<-hPS]at PT;rw[<-hSS]at SG;obtain⟨DS,hDS⟩:∃DS:ByteArray,DS=⟨(decDigits q).toArray⟩:=⟨_,rfl⟩;rw[<-hDS]at DC PT;have HA:=hid hA;unfold tS;rw[<-HA.out];have H1:=hid hT;have H2:=hid hT10;clear hT hT10 hPS hSS hps hss hDS hA b1 b2 f1 f2 f3 f4 f5 hq hql hpl hsl hqq hcc;go_enter func48,ntmps48
  go_wp2_with (first
   |(go_at_call 27;refine(HV.out _).mono ?_;rintro e w1 ⟨rfl,rfl⟩)
   |(go_at_call 28;refine(KN.out _).mono ?_;rintro e w1 ⟨rfl,rfl⟩)
   |(go_at_call 79;refine(VL.out _ H1.out).mono ?_;rintro e w1 ⟨v1,rfl,hd1,hb1⟩;have D1:=hid hd1;have B1:=hid hb1;have T1:=hid (H2.out.below hb1);clear hd1 hb1)
   |(go_at_call 78;refine(SC.out _ _ D1.out).mono ?_;rintro e w2 ⟨bb,rfl,-,hr2,hb2⟩;have R2:=hid hr2;have B2:=bt0 B1 hb2;have T2:=hid (T1.out.below hb2);clear hr2 hb2)
   |(go_at_call 80;refine(RR.out _ _ (by obtain⟨s,vn,vd,h1,h2,h3⟩:=R2.out;exact⟨s,_,vn,vd,h1,h2,h3⟩)).mono ?_;rintro e w3 ⟨v3,rfl,hv3,hb3⟩;have N3:=hid hv3;have B3:=bt0 B2 hb3;have T3:=hid (T2.out.below hb3);clear hv3 hb3)
   |(go_at_call 81;refine(SG.out _).mono ?_;rintro e w4 ⟨rfl,rfl⟩)
   |(go_at_call 83;refine(DC.out _ _ N3.out T3.out).mono ?_;rintro e w5 ⟨rfl,hb5⟩;have B5:=bt0 B3 hb5;clear hb5)
   |(go_at_call 82;refine(PT.out _).mono ?_;rintro e w6 ⟨rfl,hb6⟩;have B6:=bt0 B5 hb6;clear hb6))
  go_ret3;exact⟨rfl,B6.out⟩
