import Derived.Test.YtofdjfdnckmmmaaGreatDoorFloatB
import Derived.Test.YtofdjfdnckmmmaaGreatDoorNat7
set_option linter.all false
set_option maxHeartbeats 4000000
set_option maxRecDepth 100000
open Go.Proofs.Tryz
open Go.Lib (hid)
namespace Go.Proofs.YtofdjfdnckmmmaaGreatDoor
open Go.RowKit Nt Fm Fl
def ai (x:Int):D:=norm (di x) (if 0<dy x then(c8 x+4503599627370496).toNat else(c8 x).toNat) (max (dy x) 1-1075)
def dG (x:Int):Bool:=decide (ay x<9218868437227405312)
theorem sI (x:Int) (h0:0<=x) (h1:x<=18446744073709551615) (w:World):
  Calls prog 27 #[.int .u64 x] w fun e w'=>e=.returned (.bool (dG x))/\w=w':=by
 have hb:=gV x;unfold dG;go_enter func27,ntmps27;go_wp2_with (go_at_call 25;refine(pN x h0 h1 _).mono ?_;rintro e w' ⟨rfl,rfl⟩)
 go_ret;exact⟨rfl,rfl⟩
theorem D_ (x:Int) (h0:0<=x) (h1:x<4503599627370496):bits .or .u64 x 4503599627370496=x+4503599627370496:=by
 obtain⟨a,rfl⟩:=gH h0;have ha:a<2^52:=by omega
 have h:=bits_or_u64_nat a 4503599627370496 (by omega) (by decide);rw[show((4503599627370496:Nat):Int)=4503599627370496 from rfl]at h;rw[h,zL];have :=ud ha 1;rw[show(2^52*1:Nat)=4503599627370496 by decide]at this;rw[<-this];omega
theorem ia (x:Int) (h0:0<=x) (h1:x<=18446744073709551615) (w:World) (hT:aQ w):
  Calls prog 79 #[.int .u64 x] w (iR w (ai x)):=by
 have hT':=hid hT;clear hT;have hp:=DR x h0 h1;have be:=rQ x;have bf:=pX x;unfold ai;generalize di x=g at *;generalize dy x=e at *;generalize c8 x=f at *;have HP:=hid hp;clear hp;by_cases he:0<e
 .have e1:=D_ f (by omega) (by omega)
  have hmx:max e 1=e:=by omega
  rw[aj he,hmx];go_enter func79,ntmps79;go_wp2_with (go_at_call 22;refine(HP.out _).mono ?_;rintro e w' ⟨rfl,rfl⟩)
  refine(dU _ (by omega) (by omega) _).mono ?_;rintro r w1 ⟨v,rfl,hv,hb⟩;obtain⟨ao,n,c,rfl⟩:=hv.shape;have HV:=hid hv;have HB:=hid hb;obtain⟨q0,q1,q2,f0,f1,f2⟩:=tK hb;clear hv hb;go_wp2_with fail
  refine(iU g _ _ 64 (e-1075) _ ((hT'.out.alloc _).below HB.out) HV.out (by omega) (by decide) (by omega) (by omega)).mono ?_;rintro r w2 ⟨v2,rfl,⟨s2,rfl,hv2⟩,hb⟩;obtain⟨ao2,n2,c2,rfl⟩:=hv2.shape;have hb3:=HB.out.trans (hb.mono HB.out.size);obtain⟨q0,q1,q2,f0,f1,f2⟩:=tK hb3;have HV2:=hid hv2;have HB3:=hid hb3;clear hv2 hb hb3;generalize norm g (f+4503599627370496).toNat (e-1075)=d at *;go_wp2;refine bodyPost_ret (v:= .agg #[.bool d.neg,.slice ao2 n2 c2,.int .i64 d.e]) (by simp [results,Tryz.results79,go_sem,q0,q1,q2]) rfl ?_;exact⟨_,rfl,⟨_,rfl,HV2.out.store3 HB3.out (ml _) (dO _ _ _) (kq _) _ _ _⟩,Below.store3 HB3.out _ _ _⟩
 .have he2:e=0:=by omega
  rw[ag he];subst he2;have hmx:max (0:Int) 1-1075= -1074:=by decide
  rw[hmx];go_enter func79,ntmps79;go_wp2_with (go_at_call 22;refine(HP.out _).mono ?_;rintro e w' ⟨rfl,rfl⟩)
  refine(dU _ (by omega) (by omega) _).mono ?_;rintro r w1 ⟨v,rfl,hv,hb⟩;obtain⟨ao,n,c,rfl⟩:=hv.shape;have HV:=hid hv;have HB:=hid hb;obtain⟨q0,q1,q2,f0,f1,f2⟩:=tK hb;clear hv hb;go_wp2_with fail
  refine(iU g _ _ 64 (-1074) _ ((hT'.out.alloc _).below HB.out) HV.out (by omega) (by decide) (by omega) (by omega)).mono ?_;rintro r w2 ⟨v2,rfl,⟨s2,rfl,hv2⟩,hb⟩;obtain⟨ao2,n2,c2,rfl⟩:=hv2.shape;have hb3:=HB.out.trans (hb.mono HB.out.size);obtain⟨q0,q1,q2,f0,f1,f2⟩:=tK hb3;have HV2:=hid hv2;have HB3:=hid hb3;clear hv2 hb hb3;generalize norm g f.toNat (-1074)=d at *;go_wp2;refine bodyPost_ret (v:= .agg #[.bool d.neg,.slice ao2 n2 c2,.int .i64 d.e]) (by simp [results,Tryz.results79,go_sem,q0,q1,q2]) rfl ?_;exact⟨_,rfl,⟨_,rfl,HV2.out.store3 HB3.out (ml _) (dO _ _ _) (kq _) _ _ _⟩,Below.store3 HB3.out _ _ _⟩
theorem oT (neg:Bool) {m k:Nat}(e:Int) (hm:m<2^k):(norm neg m e).m<=m/\((norm neg m e=nz)\/(e<=(norm neg m e).e/\(norm neg m e).e<=e+k)):=by
 unfold norm;split
 .exact⟨d_ _,Or.inl rfl⟩
 .rename_i h
  obtain⟨q,h1,h2⟩:=oR h;refine⟨iG _ _,Or.inr ⟨by simp only;omega,?_⟩⟩
  have h3:2^ctz m<=m:=by
   have :1*2^ctz m<=q*2^ctz m:=bR _ (by omega);omega
  have h4:=(lW (by decide:1<2)).1 (de h3 hm);simp only;omega
theorem QV (neg:Bool) (m:Nat) (e:Int) (h:m≠0):(norm neg m e).neg=neg:=by unfold norm;rw[ag h]
theorem yD (d:D) (t:Nat):tt t d.m d.e=(d.vl (1074+t)).natAbs:=by
 rw[nI];unfold tt;rw[show d.e+1074+(t:Int)=d.e+((1074+t:Nat):Int) by omega]
theorem PG (neg:Bool) (m:Nat) (e:Int) (t:Nat) (h:0<=e+1074+t):tt t (norm neg m e).m (norm neg m e).e=tt t m e:=by
 have h1:=yD (norm neg m e) t;have h2:=yD ⟨neg,m,e⟩ t;rw[j9 neg m e _ (by omega)]at h1;simp only at h2;rw[h1,<-h2]
theorem yk (x:Int) (h0:0<=x) (h1:x<=18446744073709551615) (t:Nat):tt t (ai x).m (ai x).e=aw (ay x).toNat*2^t\/9218868437227405312<=ay x:=by
 have be:=rQ x;have bf:=pX x;have hx:ay x=dy x*4503599627370496+c8 x:=by unfold ay dy c8;omega
 unfold ai;rw[hx];generalize dy x=e at *;generalize c8 x=f at *;left
 rw[PG _ _ _ _ (by omega)];obtain⟨e,rfl⟩:=gH be.1;obtain⟨f,rfl⟩:=gH bf.1;by_cases he:(0:Int)<(e:Int)
 .rw[aj he]
  have e1:((f:Int)+4503599627370496).toNat=f+4503599627370496:=by omega
  have e2:((e:Int)*4503599627370496+(f:Int)).toNat=e*4503599627370496+f:=by omega
  rw[e1,e2];unfold tt aw;rw[ag (by omega)];have e3:(e*4503599627370496+f)%4503599627370496=f:=by omega
  have e4:(e*4503599627370496+f)/4503599627370496-1=e-1:=by omega
  rw[e3,e4,aF,<-aB,r_ f];congr 2;omega
 .rw[ag he]
  have e0:e=0:=by omega
  subst e0;have e1:((f:Int)).toNat=f:=by omega
  have e2:(((0:Nat):Int)*4503599627370496+(f:Int)).toNat=f:=by omega
  rw[e1,e2];unfold tt aw;rw[aj (by omega)];congr 2;omega
theorem dR (x:Int) (h0:0<=x) (h1:x<=18446744073709551615):(ai x).Nf/\(ai x).m<2^53/\ -1074<=(ai x).e/\(ai x).e<=1100/\((ai x).m≠0->(ai x).neg=di x):=by
 have be:=rQ x;have bf:=pX x;unfold ai;generalize dy x=e at *;generalize c8 x=f at *;have hm:(if 0<e then(f+4503599627370496).toNat else f.toNat)<2^53:=by split <;> omega
 generalize (if 0<e then(f+4503599627370496).toNat else f.toNat)=m at *;obtain⟨b1,b2⟩:=oT (di x) (max e 1-1075) hm;refine⟨iT _ _ _,by omega,?_,?_,?_⟩
 .rcases b2 with b2|b2
  .rw[b2];show(-1074:Int)<=0;decide
  .omega
 .rcases b2 with b2|b2
  .rw[b2];show(0:Int)<=1100;decide
  .omega
 .intro h
  by_cases hz:m=0
  .subst hz;exfalso;apply h;unfold norm;rfl
  .exact QV _ _ _ hz
theorem Yw (x:Int) (h0:0<=x) (h1:x<=18446744073709551615) (hv:ay x<9218868437227405312) (mode:Int):
  aU (ai x)=false/\(aE (ai x) mode=x\/(x=9223372036854775808/\aE (ai x) mode=0)):=by
 obtain⟨f1,f2,f3,f4,f5⟩:=dR x h0 h1;have hb:=gV x
 have htt:tt 0 (ai x).m (ai x).e=aw (ay x).toNat*2^0:=by
  rcases yk x h0 h1 0 with h|h
  .exact h
  .omega
 have ht:(0:Int)<=(ai x).e+1074+(0:Nat):=by omega
 have hMR:MR=9218868437227405312:=rfl;have hr:(ay x).toNat<MR:=by omega
 refine⟨(nD ht).2 ⟨_,hr,htt⟩,?_⟩;have hn:=Zc ht (kd (ai x).neg mode) _ hr htt;unfold aE;rw[hn];by_cases hz:(ai x).m=0
 .have h2:tt 0 (ai x).m (ai x).e=0:=by unfold tt;rw[hz,iq]
  rw[h2]at htt;have h3:aw (ay x).toNat=aw 0:=by rw[kv];omega
  have h4:=BG h3
  have hnz:(ai x).neg=false:=by
   rcases f1 with h|h
   .rw[h];rfl
   .rw[hz]at h;cases h
  rw[hnz];have h5:ay x=0:=by omega
  unfold ay at h5 h4;simp only[ga,e9];unfold ay;omega
 .rw[f5 hz]
  left
  unfold di ay;simp only[da];unfold ay at hb;split <;> omega
open Go.RowKit Nt Fm
def eG (d:D) (pl mode:Int):D:=if pl<=d.e\/d.m=0 then norm d.neg d.m d.e else norm d.neg (fL d.neg d.m (pl-d.e) mode) pl
def mulC (d:D) (pl:Int):Bool:=if pl<=d.e\/d.m=0 then false else j7 d.m (pl-d.e)
def YN (w:World) (R:D) (C:Bool) (r:Ending) (w':World):Prop:= ∃a n c,r=.returned (.tuple #[.agg #[.bool R.neg,.slice a n c,.int .i64 R.e],.bool C])/\NV w' (.slice a n c) R.m/\Below w.heap.size w w'
theorem Es {neg:Bool}{m k0:Nat}{k mode:Int}(hm:m<2^k0) (hk:0<k):fL neg m k mode<2^(k0+1):=by
 have h1:m/2^k.toNat<=m:=iG _ _;unfold fL;rw[ag (by omega),bH];split
 .omega
 .split <;> omega
theorem LK (v:Value) (d:D) (k0:Nat) (pl mode:Int) (w:World) (hT:aQ w) (hd:DV w v d) (hm:d.m<2^k0) (hk0:k0<=16000000000000) (e0: -16000000000000<=d.e) (e1:d.e<=16000000000000) (p0: -16000000000000<=pl) (p1:pl<=16000000000000) (m0:0<=mode) (m1:mode<=4):
  Calls prog 88 #[v,.int .i64 pl,.int .i64 mode] w (YN w (eG d pl mode) (mulC d pl)):=by
 obtain⟨neg,m,e⟩:=d;obtain⟨s,rfl,hs⟩:=hd;simp only at hm e0 e1 hs;obtain⟨ao,n,c,rfl,l1,l2,lz⟩:=fD hs;have HT:=hid hT;have HS:=hid hs;have HM:=hid hm;clear hT hs;by_cases hcase:pl<=e\/m=0
 .have q:eG ⟨neg,m,e⟩ pl mode=norm neg m e:=by unfold eG;rw[aj hcase]
  have q2:mulC ⟨neg,m,e⟩ pl=false:=by unfold mulC;rw[aj hcase]
  rw[q,q2];have hop:=fun w' h0 hh=>iU neg (.slice ao n c) m k0 e w' h0 hh hm (by omega) (by omega) (by omega)
  generalize norm neg m e=R at *;have HOP:=hid hop
  have hsplit:(pl<=e)\/(decide (pl<=e)=false/\((n:Int)==0)=true):=by
   by_cases h:pl<=e
   .exact Or.inl h
   .right;exact⟨by rw[jx];exact h,by rw[dV];omega⟩
  clear q q2 hcase hm hop lz;rcases hsplit with hp|⟨hp,hn⟩
  all_goals
   go_enter func88,ntmps88;go_wp2_with fail
   refine(HOP.out _ (HT.out.below (gL _ _ _)) (HS.out.below (gL _ _ _))).mono ?_;rintro r w1 ⟨v1,rfl,⟨s1,rfl,hv⟩,hb⟩;obtain⟨a1,n1,c1,rfl⟩:=hv.shape;have B1:=hid (af (gL w _ _) le0 hb);have Z1:=hid ((ax.new2 w _ _ _ _ _).below hb);have HV:=hid hv;obtain⟨s0,s1,s2,t0,t1,t2⟩:=Z1.out.cells;clear hv hb;go_wp2;refine bodyPost_ret (v:= .tuple #[.agg #[.bool R.neg,.slice a1 n1 c1,.int .i64 R.e],.bool false]) (by simp [results,Tryz.results88,go_sem,s0,s1,s2]) rfl ?_;exact⟨a1,n1,c1,rfl,HV.out.setD Z1.out,cJ B1.out (by omega) _ _ _⟩
 .have q:eG ⟨neg,m,e⟩ pl mode=norm neg (fL neg m (pl-e) mode) pl:=by unfold eG;rw[ag hcase]
  have q2:mulC ⟨neg,m,e⟩ pl=j7 m (pl-e):=by unfold mulC;rw[ag hcase]
  rw[q,q2];have hlt:fL neg m (pl-e) mode<2^(k0+1):=Es hm (by omega);have hcut:=fun w' hh=>FP neg (.slice ao n c) m k0 (pl-e) mode w' hh hm (by omega) (by omega) (by omega) m0 m1
  generalize fL neg m (pl-e) mode=Q at *;have hop:=fun v w' h0 hh=>iU neg v Q (k0+1) pl w' h0 hh hlt (by omega) (by omega) (by omega)
  generalize norm neg Q pl=R at *;generalize j7 m (pl-e)=C at *;have HOP:=hid hop;have HCUT:=hid hcut;have hp:e<pl:=by omega
  have hn:((n:Int)==0)=false:=by rw[aH];omega
  clear q q2 hcase hm hop lz hlt hcut;go_enter func88,ntmps88;go_wp2_with fail
  refine(HCUT.out _ (HS.out.below (gL _ _ _))).mono ?_;rintro r w1 ⟨v1,rfl,hv,hb⟩;obtain⟨a1,n1,c1,rfl⟩:=hv.shape;have B1:=hid (af (gL w _ _) le0 hb);have X1:=hid (((ax.new w _ _ _ _).alloc _).below hb);have Z1:=hid ((ax.new2 w _ _ _ _ _).below hb);have HV:=hid hv;obtain⟨q0,q1,q2,f0,f1,f2⟩:=X1.out.cells;clear hv hb;go_wp2_with fail
  refine(HOP.out _ _ (HT.out.below B1.out) HV.out).mono ?_;rintro r w2 ⟨v2,rfl,⟨s2,rfl,hv⟩,hb⟩;obtain⟨a2,n2,c2,rfl⟩:=hv.shape;have B2:=hid (af B1.out le0 hb);have Z2:=hid (Z1.out.below hb);have HV2:=hid hv;obtain⟨s0,s1,s2,t0,t1,t2⟩:=Z2.out.cells;clear hv hb;go_wp2;refine bodyPost_ret (v:= .tuple #[.agg #[.bool R.neg,.slice a2 n2 c2,.int .i64 R.e],.bool C]) (by simp [results,Tryz.results88,go_sem,s0,s1,s2]) rfl ?_;exact⟨a2,n2,c2,rfl,HV2.out.setD Z2.out,cJ B2.out (by omega) _ _ _⟩
open Go.RowKit Nt Fm Fl
structure St where
 inf:Int
 clash:Bool
 nan:Bool
 ng:Nat
 ps:Nat
 s:D
def yK:St:=⟨0,false,false,0,0,nz⟩
def jc (st:St) (x:Int):St:=
 if ak x=5 then⟨st.inf,st.clash,true,st.ng,st.ps,st.s⟩
 else if ak x=4 then⟨x,st.clash || (decide (st.inf≠0) && decide (st.inf≠x)),st.nan,st.ng,st.ps,st.s⟩
 else if ak x=1 then(if x=0 then⟨st.inf,st.clash,st.nan,st.ng,st.ps+1,st.s⟩ else⟨st.inf,st.clash,st.nan,st.ng+1,st.ps,st.s⟩)
 else⟨st.inf,st.clash,st.nan,st.ng,st.ps,plus st.s (ai x)⟩
def dJ (l:List Int):St:=l.foldl jc yK
theorem Us (l:List Int) (x:Int):dJ (l++[x])=jc (dJ l) x:=by unfold dJ;rw[List.foldl_append];rfl
theorem Cr (l:List Int) (k:Nat) (h:k<l.length):dJ (l.take (k+1))=jc (dJ (l.take k)) (l.getD k 0):=by
 rw[pA h,Us];congr 1;simp [List.getD,h]
def Pw (n:Nat):Nat:=2^n
theorem Uv (n:Nat):0<Pw n:=az _
theorem Pu (a b:Nat):Pw (a+b)=Pw a*Pw b:=aB _ _ _
theorem Za {a b:Nat}(h:a<=b):Pw a<=Pw b:=aG (by decide) h
def js (k:Nat) (d:D):Prop:=d.Nf/\ -1074<=d.e/\(d.vl 1074).natAbs<=k*Pw 2227
theorem js.zero (k:Nat):js k nz:=⟨Or.inl rfl,by decide,by rw[yu (d:=nz) rfl];exact d_ _⟩
theorem js.mono {j k:Nat}{d:D}(h:js j d) (hk:j<=k):js k d:=⟨h.1,h.2.1,ct h.2.2 (bR _ hk)⟩
theorem Rh (x:Int) (h0:0<=x) (h1:x<=18446744073709551615):js 1 (ai x):=by
 obtain⟨f1,f2,f3,f4,-⟩:=dR x h0 h1;refine⟨f1,f3,?_⟩;rw[nI,fP];have a:Pw ((ai x).e+((1074:Nat):Int)).toNat<=Pw 2174:=Za (by omega);have b:(ai x).m<=Pw 53:=gn f2;rw[show(2227:Nat)=53+2174 from rfl,Pu];exact eI b a
theorem js.plus {j k:Nat}{c d:D}(h1:js j c) (h2:js k d):js (j+k) (plus c d):=by
 have e1:0<=c.e+((1074:Nat):Int):=by have :=h1.2.1;omega
 have e2:0<=d.e+((1074:Nat):Int):=by have :=h2.2.1;omega
 refine⟨mw _ _,by have :=uW e1 e2;omega,?_⟩;rw[qt _ _ _ e1 e2,a_];have a:=h1.2.2;have b:=h2.2.2;omega
theorem js.bds {k:Nat}{d:D}(h:js k d) (hk:k<=10000):(∃q,q<=3000/\d.m<2^q)/\ -1074<=d.e/\d.e<=2000:=by
 obtain⟨h1,h2,h3⟩:=h;rw[nI]at h3;obtain⟨p,hp0⟩:∃p:Nat,p=2227:=⟨_,rfl⟩;rw[<-hp0]at h3
 obtain⟨q,hq,hlt⟩:∃q,q=p+14/\k*Pw p<2^q:=by
  refine⟨p+14,rfl,?_⟩;have e:(2:Nat)^(p+14)=Pw p*16384:=by unfold Pw;rw[aB]
  rw[e];have :=Uv p;generalize Pw p=X at *;have :k*X<=10000*X:=bR _ hk;omega
 have hp:=az (d.e+((1074:Nat):Int)).toNat;have hm:d.m*1<=d.m*2^(d.e+((1074:Nat):Int)).toNat:=cZ _ hp;refine⟨⟨q,by omega,by omega⟩,h2,?_⟩;by_cases hz:d.m=0
 .rcases h1 with h1|h1
  .rw[h1];decide
  .omega
 .have :1*2^(d.e+((1074:Nat):Int)).toNat<=d.m*2^(d.e+((1074:Nat):Int)).toNat:=bR _ (by omega)
  rw[fP]at this;have h5:=(lW (by decide:1<2)).1 (de (ct this h3) hlt);omega
theorem Uh {k:Nat}{st:St}(x:Int) (h0:0<=x) (h1:x<=18446744073709551615) (h:js k st.s):js (k+1) (jc st x).s:=by
 unfold jc;split
 .exact h.mono (by omega)
 .split
  .exact h.mono (by omega)
  .split
   .split <;> exact h.mono (by omega)
   .exact h.plus (Rh x h0 h1)
theorem NJ:∀(l:List Int),(∀x∈l,0<=x/\x<=18446744073709551615)->∀k,k<=l.length->js k (dJ (l.take k)).s
 |l,h,0,_=>by simp [dJ,yK];exact js.zero 0
 |l,h,k+1,hk=>by
  rw[Cr l k (by omega)];have e:l.getD k 0=l[k]'(by omega):=by simp [List.getD,show k<l.length by omega]
  have hm:=h _ (zG (show k<l.length by omega));rw[e];exact Uh _ hm.1 hm.2 (NJ l h k (by omega))
theorem wN:∀(l:List Int),(∀x∈l,0<=x/\x<=18446744073709551615)->∀k,k<=l.length->0<=(dJ (l.take k)).inf/\(dJ (l.take k)).inf<=18446744073709551615/\(dJ (l.take k)).ng<=k/\(dJ (l.take k)).ps<=k
 |l,h,0,_=>by simp [dJ,yK]
 |l,h,k+1,hk=>by
  rw[Cr l k (by omega)];have e:l.getD k 0=l[k]'(by omega):=by simp [List.getD,show k<l.length by omega]
  have hm:=h _ (zG (show k<l.length by omega));rw[e];have ih:=wN l h k (by omega);generalize dJ (l.take k)=st at *;unfold jc;split
  .exact⟨ih.1,ih.2.1,by simp only;omega,by simp only;omega⟩
  .split
   .exact⟨hm.1,hm.2,by simp only;omega,by simp only;omega⟩
   .split
    .split
     .exact⟨ih.1,ih.2.1,by simp only;omega,by simp only;omega⟩
     .exact⟨ih.1,ih.2.1,by simp only;omega,by simp only;omega⟩
    .exact⟨ih.1,ih.2.1,by simp only;omega,by simp only;omega⟩
def eZ (l:List Int) (mode:Int):Int:=
 if((dJ l).nan || (dJ l).clash)=true then 9221120237041090560 else if(dJ l).inf≠0 then(dJ l).inf else if(dJ l).s.m≠0 then aE (dJ l).s mode
 else if(dJ l).ps=l.length then 0 else if(dJ l).ng=l.length then 9223372036854775808 else if mode=2 then 9223372036854775808 else 0
def fZ (l:List Int):Bool:=
 if((dJ l).nan || (dJ l).clash)=true then false else if(dJ l).inf≠0 then false else if(dJ l).s.m≠0 then aU (dJ l).s else false
theorem C_ (x:Int) (h0:0<=x) (h1:x<=18446744073709551615) (hv:ay x<9218868437227405312) (t:Nat):
  (ai x).vl (1074+t)=if di x then -((aw (ay x).toNat*2^t:Nat):Int) else((aw (ay x).toNat*2^t:Nat):Int):=by
 have hb:=dR x h0 h1
 have ht:tt t (ai x).m (ai x).e=aw (ay x).toNat*2^t:=by
  rcases yk x h0 h1 t with h|h
  .exact h
  .omega
 rw[<-ht,<-uI];unfold sg;by_cases hm:(ai x).m=0
 .have :tt t (ai x).m (ai x).e=0:=by unfold tt;rw[hm];simp
  rw[this];simp
 .rw[hb.2.2.2.2 hm]
theorem Gh (d:D) (mode:Int):(ay (aE d mode)).toNat=dw (kd d.neg mode) d.m d.e/\(di (aE d mode)=d.neg):=by
 have h:=nB (kd d.neg mode) d.m d.e;have hMR:MR=9218868437227405312:=rfl;unfold aE ay di;generalize dw (kd d.neg mode) d.m d.e=n at *;cases d.neg <;> simp <;> omega
