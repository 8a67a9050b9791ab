import Derived.Test.YtofdjfdnckmmmaaGreatDoorPre
set_option linter.all false
set_option maxHeartbeats 16000000
set_option maxRecDepth 100000
open Go.Proofs.Tryz
open Go.Lib (hid)
namespace Go.Proofs.YtofdjfdnckmmmaaGreatDoor
open Go.RowKit Nt Fm Fl
open Ea (tw)
theorem yM {c d:D}(mode:Int) (h:rv c<=rv d):bO (aE c mode)<=bO (aE d mode):=W_ mode (Jo.2 h)
theorem Yq {d:D}(h:0<d.sm):d.neg=false/\d.m≠0:=by
 unfold D.sm at h;split at h
 .omega
 .rename_i h1;exact⟨by simpa using h1,by omega⟩
theorem QF {d:D}(h:d.sm<0):d.neg=true/\d.m≠0:=by
 unfold D.sm at h;split at h
 .rename_i h1;exact⟨h1,by omega⟩
 .omega
theorem oU {d:D}(h:0<rv d):d.neg=false/\d.m≠0:=by
 refine Yq ?_;refine Int.not_le.1 fun e=>?_
 have h1:(d.sm:Rat)<=((0:Int):Rat):=pE.2 e;have :=aV h1 (aJ (Ea.db d.e));have e0:((0:Int):Rat)=0:=rfl;rw[e0,fS]at this;unfold rv at h;grind
theorem xE {d:D}(h:rv d<0):d.neg=true/\d.m≠0:=by
 refine QF ?_;refine Int.not_le.1 fun e=>?_
 have h1:((0:Int):Rat)<=(d.sm:Rat):=pE.2 e;have :=aV h1 (aJ (Ea.db d.e));have e0:((0:Int):Rat)=0:=rfl;rw[e0,fS]at this;unfold rv at h;grind
theorem xT {d:D}(h:d.neg=false) (hm:d.m≠0):0<rv d:=by
 unfold rv D.sm;rw[h];exact iJ (fo.2 (by omega)) (Ea.db _)
theorem Lz {d:D}(h:d.neg=true) (hm:d.m≠0):rv d<0:=by
 have :0<rv (aO d):=xT (by unfold aO;rw[h];rfl) hm;rw[ta]at this;grind
theorem xk {d:D}(h:aU d=true):d.m≠0:=by
 intro e;unfold aU fF at h;rw[e]at h;simp at h
theorem GB {c d:D}{mode:Int}(hn:c.neg=d.neg) (h:bO (aE c mode)=bO (aE d mode)):aE c mode=aE d mode:=by
 rw[(u_ c mode).1,(u_ d mode).1]at h;unfold rg at h;unfold aE;rw[hn]at h;rw[hn]
 revert h
 generalize d.neg=g;intro h;cases g <;> simp only[ga,e9,cQ]at h ⊢ <;> omega
theorem AK {c d:D}{mode:Int}(h:aE c mode=aE d mode):c.neg=d.neg:=by
 rw[<-(Gh c mode).2,<-(Gh d mode).2,h]
theorem aj9 {c z d:D}{mode:Int}(h1:rv c<=rv z) (h2:rv z<=rv d) (h:aE c mode=aE d mode) (hc:aU c=true) (hd:aU d=true):aE z mode=aE c mode:=by
 have s:=AK h;have mc:=xk hc;have md:=xk hd;have r1:=yM mode h1;have r2:=yM mode h2;rw[<-h]at r2;refine GB ?_ (by omega);cases hg:c.neg
 .have :=xT hg mc
  exact(oU (d:=z) (by grind)).1
 .have :=Lz (s ▸ hg) md
  exact(xE (d:=z) (by grind)).1
theorem aa5 {k t T T' n:Nat}(h:T<=T') (hN:∀j:Nat,¬(2*T<=j*2^t/\j*2^t<=2*T')) (hp:Pk k t T' n):Pk k t T n:=by
 have a:=hN (2*aw n);have b:=hN (2*aw (n-1));have c:=hN (aw (n-1)+aw n);rw[aF]at a b;rcases k with _|_|_|k <;> simp only[Pk]at * <;> omega
theorem F5 {t m m':Nat}{e e':Int}(ht:0<=e+1074+t) (ht':0<=e'+1074+t) (h:tt t m e<=tt t m' e') (hN:∀j:Nat,¬(2*tt t m e<=j*2^t/\j*2^t<=2*tt t m' e')) (k:Nat):
  dw k m e=dw k m' e'/\fF m e=true/\fF m' e'=true:=by
 refine⟨pC (s' ht ht' k h) ((lI ht k _).2 (aa5 h hN ((lI ht' k _).1 le0))),?_,?_⟩
 .cases hc:fF m e
  .obtain⟨r,-,h2⟩:=(nD ht).1 hc
   have :=hN (2*aw r);rw[aF]at this;omega
  .rfl
 .cases hc:fF m' e'
  .obtain⟨r,-,h2⟩:=(nD ht').1 hc
   have :=hN (2*aw r);rw[aF]at this;omega
  .rfl
theorem Ky (j:Int) (t:Nat):(j:Rat)*tw (-1075)*2^(1075+t)=((j*((2^t:Nat):Int):Int):Rat):=by
 have e:(2:Rat)^(1075+t)=tw ((1075:Nat):Int)*((2^t:Nat):Rat):=by rw[Ea.c_,<-Ea.bN,<-Ea.bN,<-Ea.fM];congr 1
 have e2:tw (-1075)*tw ((1075:Nat):Int)=1:=Ea.mE ((1075:Nat):Int);rw[e,sk]
 show _=(j:Rat)*((2^t:Nat):Rat)
 have :(j:Rat)*tw (-1075)*(tw ((1075:Nat):Int)*((2^t:Nat):Rat))=(j:Rat)*((2^t:Nat):Rat)*(tw (-1075)*tw ((1075:Nat):Int)):=by grind
 rw[this,e2,fz]
theorem Hw {d:D}{t:Nat}(h:0<=d.e+1074+t):rv d*2^(1075+t)=((2*d.vl (1074+t):Int):Rat):=by
 have a:=oV d (T:=1074+t) (by omega);have e:(2:Rat)^(1075+t)=2^(1074+t)*2:=by rw[show 1075+t=(1074+t)+1 by omega,bI]
 rw[e,sk,<-a];have e2:((2:Int):Rat)=2:=rfl;rw[e2];grind
theorem xC {L H:D}(hLH:rv L<=rv H) (hno:∀j:Int,¬(rv L<=(j:Rat)*tw (-1075)/\(j:Rat)*tw (-1075)<=rv H)) (mode:Int):aE L mode=aE H mode/\aU L=true/\aU H=true:=by
 obtain⟨t,h1,h2⟩:=ly (L.e+1074) (H.e+1074);have a:=Hw h1;have b:=Hw h2;have hP:=Ea.two_pos (1075+t);have le2:∀x y:Rat,x<=y->x*2^(1075+t)<=y*2^(1075+t):=fun x y h=>aV h (aJ hP)
 have le3:∀x y:Rat,x*2^(1075+t)<=y*2^(1075+t)->x<=y:=fun x y h=>iw h hP
 have hle:2*L.vl (1074+t)<=2*H.vl (1074+t):=by
  have :=le2 _ _ hLH;rw[a,b]at this;exact pE.1 this
 have hN:∀j:Int,¬(2*L.vl (1074+t)<=j*((2^t:Nat):Int)/\j*((2^t:Nat):Int)<=2*H.vl (1074+t)):=by
  rintro j ⟨g1,g2⟩;refine hno j ⟨le3 _ _ ?_,le3 _ _ ?_⟩
  .rw[a,Ky];exact pE.2 g1
  .rw[b,Ky];exact pE.2 g2
 have tL:=yD L t;have tH:=yD H t;have h0:=hN 0;rw[Int.zero_mul]at h0;have sgnd:∀d:D,d.vl (1074+t)=if d.neg then -((tt t d.m d.e:Nat):Int) else((tt t d.m d.e:Nat):Int):=fun d=>by rw[<-uI];rfl
 have sL:=sgnd L;have sH:=sgnd H;rcases(show 0<L.vl (1074+t)\/H.vl (1074+t)<0 by omega) with hp|hp
 .have n1:L.neg=false:=by
   cases hg:L.neg
   .rfl
   .rw[hg,aj rfl]at sL;omega
  have n2:H.neg=false:=by
   cases hg:H.neg
   .rfl
   .rw[hg,aj rfl]at sH;omega
  have key:=F5 (t:=t) (m:=L.m) (m':=H.m) (e:=L.e) (e':=H.e) h1 h2 (by omega) (fun j=>by
   have :=hN (j:Int);rw[<-E9]at this;omega) (kd false mode)
  unfold aE aU;rw[n1,n2,key.1];exact⟨rfl,key.2⟩
 .have n1:L.neg=true:=by
   cases hg:L.neg
   .rw[hg,ag (by decide)]at sL;omega
   .rfl
  have n2:H.neg=true:=by
   cases hg:H.neg
   .rw[hg,ag (by decide)]at sH;omega
   .rfl
  have key:=F5 (t:=t) (m:=H.m) (m':=L.m) (e:=H.e) (e':=L.e) h2 h1 (by omega) (fun j=>by
   have :=hN (-(j:Int));rw[wi,<-E9]at this;omega) (kd true mode)
  unfold aE aU;rw[n1,n2,key.1];exact⟨rfl,key.2.2,key.2.1⟩
structure gj where
 lb:Rat->Prop
 ub:Rat->Prop
 le:∀a b,lb a->ub b->a<=b
def Rn (c:gj) (mode r:Int):Prop:= ∃L H:D,c.lb (rv L)/\c.ub (rv H)/\aE L mode=r/\aE H mode=r/\aU L=true/\aU H=true
theorem Rn.order {c c':gj}{mode r r':Int}(h:∀a b,c.lb a->c'.ub b->a<=b) (h1:Rn c mode r) (h2:Rn c' mode r'):bO r<=bO r':=by
 obtain⟨L,H,a1,-,a3,-⟩:=h1;obtain⟨L',H',-,b2,-,b4,-⟩:=h2;rw[<-a3,<-b4];exact yM mode (h _ _ a1 b2)
theorem Rn.uniq {c:gj}{mode r r':Int}(h1:Rn c mode r) (h2:Rn c mode r'):r=r':=by
 have q1:=h1.order c.le h2;have q2:=h2.order c.le h1;obtain⟨L,H,a1,a2,a3,a4,a5,a6⟩:=h1;obtain⟨L',H',b1,b2,b3,b4,b5,b6⟩:=h2;rw[<-a3,<-b3]at q1 q2 ⊢;refine GB ?_ (by omega);have s1:=AK (a3.trans a4.symm);have s2:=AK (b3.trans b4.symm);have x1:=c.le _ _ a1 b2;have x2:=c.le _ _ b1 a2;cases hg:L.neg
 .have :=xT hg (xk a5)
  rw[s2];exact(oU (d:=H') (by grind)).1.symm
 .have :=Lz (s1 ▸ hg) (xk a6)
  exact(xE (d:=L') (by grind)).1.symm
theorem FK {x:Int}(x0:0<=x) (x1:x<=18446744073709551615) (hx:ay x<9218868437227405312) (mode:Int):bO (aE (ai x) mode)=bO x:=by
 rcases(Yw x x0 x1 hx mode).2 with h|⟨h,h'⟩
 .rw[h]
 .rw[h',h];decide
theorem DK {x y:Int}(x0:0<=x) (x1:x<=18446744073709551615) (y0:0<=y) (y1:y<=18446744073709551615) (hx:ay x<9218868437227405312) (hy:ay y<9218868437227405312):rv (ai x)<=rv (ai y)↔bO x<=bO y:=by
 constructor
 .intro h
  have :=yM 0 h
  rwa [FK x0 x1 hx,FK y0 y1 hy]at this
 .intro h
  have ex:=(dR _ x0 x1).2.2.1;have ey:=(dR _ y0 y1).2.2.1;have vx:=C_ x x0 x1 hx 0;have vy:=C_ y y0 y1 hy 0;rw[<-Jo,I6 (T:=1074+0) (by omega) (by omega),vx,vy];have bx:=gV x;have bY:=gV y;have f:∀v:Int,ay v<9218868437227405312->bO v=if 9223372036854775808<=v then -ay v else ay v:=fun v hv=>by unfold bO;rw[ag (by omega)]
  rw[f x hx,f y hy]at h;clear f vx vy ex ey;unfold di;simp only[da,jT,fI];split at h <;> split at h
  .rename_i a b;rw[aj a,aj b]
   have := @k_ (ay y).toNat (ay x).toNat (by omega);omega
  .rename_i a b;rw[aj a,ag b];omega
  .rename_i a b;rw[ag a,aj b]
   rw[show(ay x).toNat=0 by omega,show(ay y).toNat=0 by omega,kv];decide
  .rename_i a b;rw[ag a,ag b]
   have := @k_ (ay x).toNat (ay y).toNat (by omega);omega
open Go.RowKit Nt Fm
open Ea (Pr qP cf aZ)
def lL (m:Nat):Bool:=decide (4*2^(aC m-1)<3*m)
def du (m:Nat):Nat:=if lL m then 2*2^(aC m-1) else 2^(aC m-1)
def dP (m:Nat) (e:Int):Int:=if lL m then e+aC m-1+1 else e+aC m-1
def lk (m:Nat):Bool:=decide (m<du m)
def ie (m:Nat):Nat:=if lk m then du m-m else m-du m
def eg (x:Pr) (neg:Bool) (p:Nat):D:=if neg then aO (norm false x.h (-(p:Int))) else norm false x.l (-(p:Int))
def iA (x:Pr) (neg:Bool) (p:Nat):D:=if neg then aO (norm false x.l (-(p:Int))) else norm false x.h (-(p:Int))
def lF (x:Pr) (n:Nat):Pr:=⟨x.l*n,x.h*n⟩
def lJ (m:Nat) (e:Int) (p k j:Nat):D:=plus (eg (aZ (ie m) (m+du m) p k) (lk m) p) (eg (lF (aZ 1 3 p j) (dP m e).natAbs) (decide (dP m e<0)) p)
def lG (m:Nat) (e:Int) (p k j:Nat):D:=plus (iA (aZ (ie m) (m+du m) p k) (lk m) p) (iA (lF (aZ 1 3 p j) (dP m e).natAbs) (decide (dP m e<0)) p)
def GA (w:World) (m:Nat) (e:Int) (p:Nat) (r:Ending) (w':World):Prop:=
 ∃k j,k<=p/\j<=p/\(cf (qP (ie m) (m+du m) p) p k).h<=1/\(cf (qP 1 3 p) p j).h<=1/\nM w (lJ m e p k j) (lG m e p k j) r w'
theorem ye {m:Nat}(hm:m≠0):0<du m/\3*ie m<=m+du m/\du m<2^(aC m+1)/\(lk m=true->m<=du m)/\(lk m=false->du m<=m):=by
 have h1:2^(aC m-1)<=m:=oZ hm;have h2:m<2^aC m:=qo m;have h3:0<aC m:=nP hm
 have e:2^aC m=2*2^(aC m-1):=by
  have :aC m=aC m-1+1:=by omega
  rw[this,bH];simp;omega
 have hp:=az (aC m-1);have e2:2^(aC m+1)=2*2^aC m:=by rw[bH];omega
 unfold ie lk
 have hO:(lL m=true/\du m=2*2^(aC m-1))\/(lL m=false/\du m=2^(aC m-1)):=by
  unfold du;cases lL m <;> simp
 have hB:(lL m=true->4*2^(aC m-1)<3*m)/\(lL m=false->3*m<=4*2^(aC m-1)):=by
  unfold lL;constructor <;> intro h
  .exact gY h
  .have :=Ft h;omega
 generalize du m=O at *;generalize 2^(aC m-1)=q at *;refine⟨?_,?_,?_,?_,?_⟩
 .rcases hO with⟨a,b⟩|⟨a,b⟩ <;> omega
 .by_cases hg:m<O
  .rw[aj (by rw[da];exact hg)]
   rcases hO with⟨a,b⟩|⟨a,b⟩
   .have :=hB.1 a;omega
   .omega
  .rw[ag (by rw[da];exact hg)]
   rcases hO with⟨a,b⟩|⟨a,b⟩
   .omega
   .have :=hB.2 a;omega
 .rcases hO with⟨a,b⟩|⟨a,b⟩ <;> omega
 .intro h;have :=gY h;omega
 .intro h;have :=Ft h;omega
theorem Bf {x:Pr}{neg:Bool}{p k:Nat}(hl:x.l<2^k) (hh:x.h<2^k) (hk:p<=k):(eg x neg p).m<2^k/\ -(k:Int)<=(eg x neg p).e/\(eg x neg p).e<=k:=by
 have aux:∀n:Nat,n<2^k->(norm false n (-(p:Int))).m<2^k/\ -(k:Int)<=(norm false n (-(p:Int))).e/\(norm false n (-(p:Int))).e<=k:=by
  intro n hn;refine⟨de (tU _ _ _) hn,?_⟩;rcases aa9 false (e:= -(p:Int)) hn with h|⟨h1,h2⟩
  .rw[h];show -(k:Int)<=0/\(0:Int)<=k;omega
  .omega
 unfold eg;cases neg
 .exact aux _ hl
 .exact aux _ hh
theorem Hr {x:Pr}{neg:Bool}{p k:Nat}(hl:x.l<2^k) (hh:x.h<2^k) (hk:p<=k):(iA x neg p).m<2^k/\ -(k:Int)<=(iA x neg p).e/\(iA x neg p).e<=k:=by
 have :=Bf (x:=⟨x.h,x.l⟩) (neg:=neg) (p:=p) hh hl hk;exact this
theorem zo {num den p k:Nat}(hd:0<den) (h:3*num<=den) (hp:4<=p) (hk:k<=p) (hend:(cf (qP num den p) p k).h<=1):(aZ num den p k).l<2^(p+4)/\(aZ num den p k).h<2^(p+4):=by
 have hdr:(0:Rat)<(den:Rat):=fo.2 hd;obtain⟨-,-,h1,-,h2⟩:=Ea.xf (x:=(num:Rat)/(den:Rat)) hd h hp hk hend (bM (cR hdr));omega
theorem NV.drN {w:World}{v:Value}{n:Nat}(h:NV w v n) (k:Nat):NV (w.drewN k) v n:=h
theorem xj {ops:Array Oper}{i:Nat}{o:Oper}(h:(ops.toList.drop i).head?=some o):ops[i]?=some o:=by
 rw[List.head?_drop]at h
 simpa using h
theorem tk {P:Program}{md:Region.Mode}{ops:Array Oper}{Q:Exit->Act->World->Prop}{S:World->Prop}(i:Nat) {oi:Oper}{v:Value}{fuel:Nat}{L:Array Bool}{a:Act}{w:World}(hi:(ops.toList.drop i).head?=some oi)
  (hc:(Region.noSelect ops && (Region.free md ops L i && (Region.ready md ops L).contains i))=true) (hQ:∀c a w,Q (.panic c) (a.put oi.dst v) w->Q (.panic c) a w)
  (hw:Region.wanted oi (yielded ops a.tmps)=true) (hS:S w) (hy:∀w,S w->(execOp a.eval oi).run P w=.ok (.value v) w)
  (h:wpAnyH P md ops Q S fuel (L.setIfInBounds i true) (a.put oi.dst v) w):wpAnyH P md ops Q S (fuel+1) L a w:=by
 rw[lT,lT]at hc;exact wpAnyH_take (xj hi) hc.1 hc.2.1 hc.2.2 hQ (Or.inl ⟨hw,hy⟩) hS h
def sR (n:Nat) (x y:Bool):Array Bool:=((List.range 22).map fun i=>([[0,1,2,5,6,7,11,12,13],[3],[4],[8],[9,10],[14,15,16,17]].take (n+1)).flatten.contains i || (i==18 && x) || (i==19 && y)).toArray
def sD (n:Nat) (x y:Bool):Nat:=(match n with|0=> 11|1=> 10|2=> 9|3=> 8|4=> 6|_=> 2)+(bif x then 0 else 1)+(bif y then 0 else 1)
def mu (n k:Nat) (y z:Value):Value:=if k<=n then y else z
def Cb (n:Nat) (w:World) (M tl th cm em:Nat) (q u r v c e:Value):Prop:=match n with
 | 0=>True
 | 1=>NV w q M
 | 2=>NV w u tl
 | 3=>NV w u tl/\NV w r M
 | 4=>NV w u tl/\NV w v th
 |_=>NV w c cm/\NV w e em
theorem ad6 {n:Nat}{w w':World}{M tl th cm em:Nat}{q u r v c e:Value}(h:Cb n w M tl th cm em q u r v c e) (hb:Below w.heap.size w w'):Cb n w' M tl th cm em q u r v c e:=match n,h with
 | 0,_=>trivial
 | 1,h=>NV.below h hb
 | 2,h=>NV.below h hb
 | 3,h=>⟨NV.below h.1 hb,NV.below h.2 hb⟩
 | 4,h=>⟨NV.below h.1 hb,NV.below h.2 hb⟩
 |_+5,h=>⟨NV.below h.1 hb,NV.below h.2 hb⟩
def nO (V w:World) (n:Nat) (x y:Bool) (M tl th cm em:Nat) (q u r v c e:Value) (b d:Nat):Prop:=
 Below V.heap.size V w/\Cb n w M tl th cm em q u r v c e/\(x=true->GD w b nz/\V.heap.size<=b)/\(y=true->GD w d nz/\V.heap.size<=d)/\(x=true->y=true->b≠d)
theorem nO.up {V w w':World}{n:Nat}{x y:Bool}{M tl th cm em:Nat}{q u r v c e:Value}{b d:Nat}(h:nO V w n x y M tl th cm em q u r v c e b d) (hb:Below w.heap.size w w'):nO V w' n x y M tl th cm em q u r v c e b d:=
 ⟨af h.1 le0 hb,ad6 h.2.1 hb,fun k=>⟨(h.2.2.1 k).1.below hb,(h.2.2.1 k).2⟩,fun k=>⟨(h.2.2.2.1 k).1.below hb,(h.2.2.2.1 k).2⟩,h.2.2.2.2⟩
theorem nO.nx {V w:World}{n:Nat}{x y:Bool}{M tl th cm em:Nat}{q u r v c e:Value}{b d:Nat}(h:nO V w n x y M tl th cm em q u r v c e b d):nO V (w.alloc (.cells #[.bool false,.slice none 0 0,.int .i64 0] 68)) n true y M tl th cm em q u r v c e w.heap.size d:=
 have k:=h.up ((Below.refl w.heap.size w).alloc le0 _)
 ⟨k.1,k.2.1,fun _=>⟨GD.nil w,h.1.size⟩,k.2.2.2.1,fun _ g=>by have :=(h.2.2.2.1 g).1.lt;omega⟩
theorem nO.ny {V w:World}{n:Nat}{x y:Bool}{M tl th cm em:Nat}{q u r v c e:Value}{b d:Nat}(h:nO V w n x y M tl th cm em q u r v c e b d):nO V (w.alloc (.cells #[.bool false,.slice none 0 0,.int .i64 0] 68)) n x true M tl th cm em q u r v c e b w.heap.size:=
 have k:=h.up ((Below.refl w.heap.size w).alloc le0 _)
 ⟨k.1,k.2.1,k.2.2.1,fun _=>⟨GD.nil w,h.1.size⟩,fun g _=>by have :=(h.2.2.1 g).1.lt;omega⟩
theorem Pp {n:Nat}{x y:Bool}(h:n<=5) (k:¬(n=5/\x=true/\y=true)):
  (n=0\/n=1\/n=2\/n=3\/n=4\/n=5)/\(x=true\/x=false)/\(y=true\/y=false):=⟨by omega,by cases x <;> simp,by cases y <;> simp⟩
theorem Uf {P:Program}{md:Region.Mode}{ops:Array Oper}{Q:Exit->Act->World->Prop}{S:World->Prop}{f0:Nat}{L0:Array Bool}{a0:Act}{w0:World}(Inv:Nat->Bool->Bool->Act->World->Prop)
  (hL:L0=sR 0 false false) (hf:f0=sD 0 false false) (h0:Inv 0 false false a0 w0)
  (step:∀n x y,n<=5->(n<5->∀L f a w,L=sR (n+1) x y->f=sD (n+1) x y->Inv (n+1) x y a w->wpAnyH P md ops Q S f L a w)->
   (x=false->∀L f a w,L=sR n true y->f=sD n true y->Inv n true y a w->wpAnyH P md ops Q S f L a w)->
   (y=false->∀L f a w,L=sR n x true->f=sD n x true->Inv n x true a w->wpAnyH P md ops Q S f L a w)->
   ∀a w,Inv n x y a w->wpAnyH P md ops Q S (sD n x y) (sR n x y) a w):wpAnyH P md ops Q S f0 L0 a0 w0:=by
 have key:∀k n x y,n<=5->n+Bool.toNat x+Bool.toNat y+k=7->∀L f a w,L=sR n x y->f=sD n x y->Inv n x y a w->wpAnyH P md ops Q S f L a w:=by
  intro k
  induction k with
  |zero=>
   intro n x y hn hk L f a w hL hf hI;subst hL hf;have :=Bool.toNat_le x;have :=Bool.toNat_le y;exact step n x y hn (fun h=>by omega) (fun h=>by subst h;simp at hk;omega) (fun h=>by subst h;simp at hk;omega) a w hI
  |succ k ih=>
   intro n x y hn hk L f a w hL hf hI;subst hL hf;exact step n x y hn (fun h=>ih (n+1) x y (by omega) (by omega)) (fun h=>ih n true y hn (by subst h;simp at hk ⊢;omega)) (fun h=>ih n x true hn (by subst h;simp at hk ⊢;omega)) a w hI
 exact key 7 0 false false (by omega) rfl L0 f0 a0 w0 hL hf h0
theorem S4 (a b:Nat):(b<a/\(0:Int)<aK a b)\/(a<=b/\aK a b<=0):=by
 unfold aK;rcases ju a b with h|h|h
 .right;refine⟨by omega,?_⟩;rw[aj (by omega)];decide
 .right;refine⟨by omega,?_⟩;subst h;rw[ag (by omega),ag (by omega)];decide
 .left;refine⟨h,?_⟩;rw[ag (by omega),aj (by omega)];decide
theorem Tp (a b:Nat):decide (aK a b<0)=decide (a<b):=by
 unfold aK;rcases ju a b with h|h|h
 .rw[aj (by omega)];simp [h]
 .subst h;rw[ag (by omega),ag (by omega)];simp
 .have hn:¬a<b:=by omega
  rw[ag (by omega),aj (by omega)];simp [hn]
theorem Ws (v:Value) (g:Bool) (m b p:Nat) (e P:Int) (w:World) (hT:aQ w) (hd:DV w v ⟨g,m,e⟩) (hP:P=(p:Int)) (hm:m<2^b) (hm0:m≠0) (hb:b<=1000000) (e0: -1000000<=e) (e1:e<=1000000) (hp:p<=14000000000000) (hp0:4<=p):
  Calls prog 232 #[v,.int .i64 P] w (GA w m e p):=by
 subst hP;obtain⟨a1,n1,c1,rfl,hv⟩:=hd.parts;simp only at hv ⊢;obtain⟨L,hL⟩:∃L,L=aC m:=⟨_,rfl⟩;have hL1:1<=L:=by rw[hL];exact nP hm0
 have hLb:L<=b:=by rw[hL];exact uB hm
 obtain⟨O0,O3,O2,OG1,OG2⟩:=ye hm0;rw[<-hL]at O2;have LN:=hid (fun w' hv=>lx (.slice a1 n1 c1) m b w' hv hm (by omega));rw[<-hL]at LN;have O1c:=hid (fun w'=>dU 1 (by omega) (by omega) w');have O3c:=hid (fun w'=>dU 3 (by omega) (by omega) w');have LE:=hid (fun v x w' ha (hx:x=((L-1:Nat):Int))=>f_ v 1 (L-1) 1 x w' ha hx (by decide) (by omega) (by omega));obtain⟨q,hq⟩:∃q,q=2^(L-1):=⟨_,rfl⟩
 have hqb:q<2^b:=by
  rw[hq];exact Fe (by decide) (by omega)
 rw[fP,<-hq]at LE;have b1:2^b<=2^(b+2):=aG (by decide) (by omega)
 have b2:3<2^(b+2):=by
  have :2^2<=2^(b+2):=aG (by decide) (by omega);omega
 have b3:2^(b+2)=4*2^b:=by rw[aB];omega
 have bL:2^(L+1)<=2^(b+1):=aG (by decide) (by omega);have b4:2^(b+1)=2*2^b:=by rw[bH];omega
 have T3:=hid (fun va vb w' ha hb=>kB va vb m 3 (b+2) w' ha hb (by omega) b2 (by omega));have L2:=hid (fun va w' ha=>f_ va q 2 b 2 w' ha rfl hqb (by omega) (by omega));have L1c:=hid (fun va w' ha=>f_ va q 1 b 1 w' ha rfl hqb (by omega) (by omega));have eL1:q*2^1=2*q:=by omega
 rw[eL1]at L1c;obtain⟨O,hO⟩:∃O,O=du m:=⟨_,rfl⟩;obtain⟨U,hU⟩:∃U,U=ie m:=⟨_,rfl⟩;obtain⟨N,hN⟩:∃N,N=dP m e:=⟨_,rfl⟩;obtain⟨G,hG⟩:∃G,G=lk m:=⟨_,rfl⟩;have hUb:U<2^(b+2):=by rw[hU];omega
 have hOb:O<2^(b+2):=by rw[hO];omega
 have hmo:m+O<2^(b+2):=by rw[hO];omega
 have MI1:=hid (fun va vb w' ha hb (hle:m<=O)=>re va vb O m (b+2) w' ha hb hle hOb (by omega));have MI2:=hid (fun va vb w' ha hb (hle:O<=m)=>re va vb m O (b+2) w' ha hb hle (by omega) (by omega));have PLm:=hid (fun va vb w' ha hb=>gN va vb m O (b+2) w' ha hb (by omega) hOb (by omega));have AT:=hid (fun va vb w' ha hb=>Kh va vb U (m+O) (b+2) p p w' ha hb rfl hUb (by rw[hO];omega) (by rw[hU,hO];omega) (by omega) (by omega) hp0);have AT3:=hid (fun va vb w' ha hb=>Kh va vb 1 3 (b+2) p p w' ha hb rfl (by omega) (by omega) (by omega) (by omega) (by omega) hp0)
 have ATB:=hid (fun k hk hend=>(show(aZ U (m+O) p k).l<2^(p+26)/\(aZ U (m+O) p k).h<2^(p+26) from by
  have :=zo (num:=U) (den:=m+O) (k:=k) (by rw[hO];omega) (by rw[hU,hO];omega) hp0 hk hend;have h2:2^(p+4)<=2^(p+26):=aG (by decide) (by omega);omega))
 have AT3B:=hid (fun k hk hend=>zo (num:=1) (den:=3) (p:=p) (k:=k) (by omega) (by omega) hp0 hk hend)
 have hNb: -3000000<=N/\N<=3000000:=by
  rw[hN];unfold dP;rw[<-hL];split <;> omega
 unfold GA lJ lG;rw[<-hO,<-hU,<-hN,<-hG]
 have hcase:((0:Int)<aK ((m:Int)*3) ((q:Int)*4)/\O=2*q/\N=e+L-1+1)\/(aK ((m:Int)*3) ((q:Int)*4)<=0/\O=q/\N=e+L-1):=by
  rw[hO,hN];unfold du dP lL;rw[<-hL,<-hq];have ec:aK ((m:Int)*3) ((q:Int)*4)=aK ((m*3:Nat):Int) ((q*2^2:Nat):Int):=by congr 1
  rw[ec];rcases S4 (m*3) (q*2^2) with⟨h1,h2⟩|⟨h1,h2⟩
  .left
   have hd:decide (4*q<3*m)=true:=by rw[da];omega
   rw[aj hd,aj hd];exact⟨h2,rfl,rfl⟩
  .right
   have hd:¬decide (4*q<3*m)=true:=by rw[da];omega
   rw[ag hd,ag hd];exact⟨h2,rfl,rfl⟩
 have hgc:(G=true/\U=O-m/\m<=O)\/(G=false/\U=m-O/\O<=m):=by
  rw[hU,hG,hO];unfold ie;cases hg:lk m
  .right;exact⟨rfl,by simp,OG2 hg⟩
  .left;exact⟨rfl,by simp,OG1 hg⟩
 have hGd:decide (aK m O<0)=G:=by rw[hG,hO,Tp];rfl
 have GD':=hid (show decide (aK m O<0)=G/\True from⟨hGd,trivial⟩);have HV:=hid hv;have HT:=hid hT;clear hv hT hd hq hO hU hN hG O0 O3 O2 OG1 OG2 hUb hOb hmo eL1 b1 b2 b3 bL b4 hqb hm hm0 hGd hL;go_enter func232,ntmps232;go_wp2_with fail
 have B0:=hid (ff w (.cells #[.bool g,.slice a1 n1 c1,.int .i64 e] 68) (.cells #[.bool false,.slice none 0 0,.int .i64 0] 68) (.cells #[.bool false,.slice none 0 0,.int .i64 0] 68));have X0:=hid ((ax.new w (.bool g) (.slice a1 n1 c1) (.int .i64 e) 68).alloc (.cells #[.bool false,.slice none 0 0,.int .i64 0] 68) |>.alloc (.cells #[.bool false,.slice none 0 0,.int .i64 0] 68));have R0:=hid ((GD.nil2 w (.cells #[.bool g,.slice a1 n1 c1,.int .i64 e] 68)).alloc (.cells #[.bool false,.slice none 0 0,.int .i64 0] 68));have S0:=hid (GD.nil3 w (.cells #[.bool g,.slice a1 n1 c1,.int .i64 e] 68) (.cells #[.bool false,.slice none 0 0,.int .i64 0] 68));refine(LN.out _ (HV.out.below B0.out)).mono ?_;rintro r w' ⟨rfl,rfl⟩;go_wp2_with fail
 refine(O1c.out _).mono ?_;rintro r w1 ⟨v1,rfl,hv1,hb1⟩;have B1:=bt0 B0 hb1;have X1:=hid (X0.out.below hb1);have R1:=hid (R0.out.below hb1);have S1:=hid (S0.out.below hb1);have V1:=hid hv1;clear hv1 hb1 B0 X0 R0 S0;go_wp2_with fail
 refine(LE.out _ _ _ V1.out (by omega)).mono ?_;rintro r w2 ⟨v2,rfl,hv2,hb2⟩;obtain⟨o1,o2,o3,rfl⟩:=hv2.shape;have B2:=bt0 B1 hb2;have X2:=hid (X1.out.below hb2);have R2:=hid (R1.out.below hb2);have S2:=hid (S1.out.below hb2);have V2:=hid hv2;have W2:=hid (HV.out.below B2.out);clear hv2 hb2 B1 X1 R1 S1 V1 HV;obtain⟨x0,x1,x2,-,-,-⟩:=X2.out.cells;go_wp2_with fail
 clear x0 x1 x2;obtain⟨x0,x1,x2,-,-,-⟩:=X2.out.drew.cells
 go_region_held3 (fun w'=>w'.cell? ⟨w.heap.size,1,none⟩=some (.slice a1 n1 c1))
  (first
   |with_reducible exact x1
   |(obtain⟨-,p1,-,-,-,-⟩:=(X2.out.drew.below hb3).cells
     with_reducible exact p1)
   |(obtain⟨-,p1,-,-,-,-⟩:=((X2.out.drew.below HB3.out).below hb4).cells
     with_reducible exact p1)
   |(obtain⟨-,p1,-,-,-,-⟩:=(((X2.out.drew.below HB3.out).below HB4.out).below hb5).cells
     with_reducible exact p1)
   |(obtain⟨-,p1,-,-,-,-⟩:=((((X2.out.drew.below HB3.out).below HB4.out).below HB5.out).drewN dn).cells
     with_reducible exact p1)
   |(go_keep;done))
  (first
   |(go_at_call 61;refine(O3c.out _).mono ?_;rintro r w3 ⟨v3,rfl,hv3,hb3⟩;have HB3:=hid hb3;have V3:=hid hv3)
   |(go_at_call 63;refine(T3.out _ _ _ (W2.out.dr.below HB3.out) V3.out).mono ?_;rintro r w4 ⟨v4,rfl,hv4,hb4⟩;have HB4:=hid hb4;have V4:=hid hv4)
   |(go_at_call 98;refine(L2.out _ _ ((V2.out.dr.below HB3.out).below HB4.out)).mono ?_;rintro r w5 ⟨v5,rfl,hv5,hb5⟩;have HB5:=hid hb5;have V5:=hid hv5)
   |(go_at_call 101;refine(jF _ _ _ _ _ (V4.out.below HB5.out) V5.out).mono ?_;rintro r u2 ⟨rfl,dn,rfl⟩))
 clear hv3 hb3 hv4 hb4 hv5 hb5 x0 x1 x2;obtain⟨W6,hW6⟩:∃W6,W6=w5.drewN dn:=⟨_,rfl⟩;rw[<-hW6];have B6:=hid (show Below w.heap.size w W6 from by rw[hW6];exact dh (af (af (af B2.out.drew le0 HB3.out) le0 HB4.out) le0 HB5.out));have X6:=hid (show ax W6 w.heap.size 68 (.bool g) (.slice a1 n1 c1) (.int .i64 e) from by rw[hW6];exact(((X2.out.drew.below HB3.out).below HB4.out).below HB5.out).drewN dn);have R6:=hid (show GD W6 (w.heap.size+1) nz from by rw[hW6];exact(((R2.out.drew.below HB3.out).below HB4.out).below HB5.out).drewN dn);have S6:=hid (show GD W6 (w.heap.size+1+1) nz from by rw[hW6];exact(((S2.out.drew.below HB3.out).below HB4.out).below HB5.out).drewN dn);have V6:=hid (show NV W6 (.slice o1 o2 o3) q from by rw[hW6];exact NV.drN (((V2.out.dr.below HB3.out).below HB4.out).below HB5.out) dn);have M6:=hid (show NV W6 (.slice a1 n1 c1) m from by rw[hW6];exact NV.drN (((W2.out.dr.below HB3.out).below HB4.out).below HB5.out) dn);clear hW6 B2 X2 R2 S2 V2 W2 HB3 HB4 HB5 V3 V4 V5
 go_upto_if 36 with fail
 go_cut [7,8] (fun s7 s8 wx=>∃y1 y2 y3,s7=.slice y1 y2 y3/\s8=.int .i64 N/\Hid (Below w.heap.size w wx)/\Hid (ax wx w.heap.size 68 (.bool g) (.slice a1 n1 c1) (.int .i64 e))/\Hid (GD wx (w.heap.size+1) nz)/\Hid (GD wx (w.heap.size+1+1) nz)/\Hid (NV wx (.slice y1 y2 y3) O)/\Hid (NV wx (.slice a1 n1 c1) m))
 case first=>
  rcases hcase with⟨hs,hO,hN⟩|⟨hs,hO,hN⟩
  .go_wp2_with fail
   refine(L1c.out _ _ V6.out).mono ?_;rintro r w7 ⟨v7,rfl,hv7,hb7⟩;obtain⟨y1,y2,y3,rfl⟩:=hv7.shape;rw[<-hO]at hv7;have B7:=bt0 B6 hb7;have X7:=hid (X6.out.below hb7);have R7:=hid (R6.out.below hb7);have S7:=hid (S6.out.below hb7);have V7:=hid hv7;have M7:=hid (M6.out.below hb7);have HNE:=hid (show e+L=N/\True from⟨by omega,trivial⟩);clear hv7 hb7 B6 X6 R6 S6 V6 M6 hO hN hs;go_wp2_with fail
   go_meet
   exact⟨y1,y2,y3,rfl,by rw[HNE.out.1],B7,X7,R7,S7,V7,M7⟩
  .rw[<-hO]at V6
   have HNE:=hid (show e+L-1=N/\True from⟨hN.symm,trivial⟩);clear hO hN;go_wp2_with fail
   go_meet
   exact⟨o1,o2,o3,rfl,by rw[HNE.out.1],B6,X6,R6,S6,V6,M6⟩
 case rest=>
 obtain⟨y1,y2,y3,rfl,rfl,B7,X7,R7,S7,V7,M7⟩:=hcut;clear B6 X6 R6 S6 V6 M6 hcase L1c LE LN;go_wp2_with fail
 obtain⟨x0,x1,x2,-,-,-⟩:=X7.out.drew.cells
 go_region_held3 (fun w'=>w'.cell? ⟨w.heap.size,1,none⟩=some (.slice a1 n1 c1))
  (first
   |with_reducible exact x1
   |(obtain⟨-,p1,-,-,-,-⟩:=(X7.out.drewN (1+dn2)).cells
     with_reducible exact p1)
   |(go_keep;done))
  (first
   |(go_at_call 101;refine(jF _ _ _ _ _ M7.out.dr V7.out.dr).mono ?_;rintro r u2 ⟨rfl,dn2,rfl⟩))
 rw[GD'.out.1];clear x0 x1 x2;obtain⟨W8,hW8⟩:∃W8,W8=wc.drewN (1+dn2):=⟨_,rfl⟩;rw[<-hW8];have B8:=hid (show Below w.heap.size w W8 from by rw[hW8];exact dh B7.out);have X8:=hid (show ax W8 w.heap.size 68 (.bool g) (.slice a1 n1 c1) (.int .i64 e) from by rw[hW8];exact X7.out.drewN _);have R8:=hid (show GD W8 (w.heap.size+1) nz from by rw[hW8];exact R7.out.drewN _);have S8:=hid (show GD W8 (w.heap.size+1+1) nz from by rw[hW8];exact S7.out.drewN _);have V8:=hid (show NV W8 (.slice y1 y2 y3) O from by rw[hW8];exact NV.drN V7.out _);have M8:=hid (show NV W8 (.slice a1 n1 c1) m from by rw[hW8];exact NV.drN M7.out _);clear hW8 B7 X7 R7 S7 V7 M7
 go_upto_if 48 with fail
 go_cut [9,10] (fun s9 s10 wx=>∃z1 z2 z3,s9=.slice z1 z2 z3/\s10=.bool G/\Hid (Below w.heap.size w wx)/\Hid (ax wx w.heap.size 68 (.bool g) (.slice a1 n1 c1) (.int .i64 e))/\Hid (GD wx (w.heap.size+1) nz)/\Hid (GD wx (w.heap.size+1+1) nz)/\Hid (NV wx (.slice y1 y2 y3) O)/\Hid (NV wx (.slice a1 n1 c1) m)/\Hid (NV wx (.slice z1 z2 z3) U))
 case first=>
  rcases hgc with⟨hG,hU,hle⟩|⟨hG,hU,hle⟩
  all_goals
   rw[hG];go_wp2_with fail
   first
    |refine(MI1.out _ _ _ V8.out M8.out hle).mono ?_
    |refine(MI2.out _ _ _ M8.out V8.out hle).mono ?_
   rintro r w9 ⟨v9,rfl,hv9,hb9⟩;obtain⟨z1,z2,z3,rfl⟩:=hv9.shape;rw[<-hU]at hv9;have B9:=bt0 B8 hb9;have X9:=hid (X8.out.below hb9);have R9:=hid (R8.out.below hb9);have S9:=hid (S8.out.below hb9);have V9:=hid (V8.out.below hb9);have M9:=hid (M8.out.below hb9);have U9:=hid hv9;clear hv9 hb9 B8 X8 R8 S8 V8 M8 hU hle MI1 MI2;go_wp2_with fail
   go_meet
   exact⟨z1,z2,z3,rfl,by rw[hG],B9,X9,R9,S9,V9,M9,U9⟩
 case rest=>
 obtain⟨z1,z2,z3,rfl,rfl,B9,X9,R9,S9,V9,M9,U9⟩:=hcut;obtain⟨x0,x1,x2,-,-,-⟩:=X9.out.cells;clear B8 X8 R8 S8 V8 M8 MI1 MI2 hgc;go_wp2_with fail
 refine(PLm.out _ _ _ M9.out V9.out).mono ?_;rintro r w10 ⟨v10,rfl,hv10,hb10⟩;have B10:=bt0 B9 hb10;have R10:=hid (R9.out.below hb10);have S10:=hid (S9.out.below hb10);have U10:=hid (U9.out.below hb10);have D10:=hid hv10;clear hv10 hb10 B9 X9 R9 S9 V9 M9 U9 x0 x1 x2 PLm;go_wp2_with fail
 refine(AT.out _ _ _ U10.out D10.out).mono ?_;rintro r w11 ⟨k,v11,rfl,hk,hend,hp11,hb11⟩;have HK:=hid (show(k<=p/\(cf (qP U (m+O) p) p k).h<=1)/\True from⟨⟨hk,hend⟩,trivial⟩);have SG:=hid (fun w' ht hv=>Nk v11 (aZ U (m+O) p k) G p (p+26) p w' ht hv rfl (ATB.out k hk hend).1 (ATB.out k hk hend).2 (by omega) (by omega));have B11:=bt0 B10 hb11;have R11:=hid (R10.out.below hb11);have S11:=hid (S10.out.below hb11);have P11:=hid hp11;have BD1:=hid (show((eg (aZ U (m+O) p k) G p).m<2^(p+26)/\ -((p+26:Nat):Int)<=(eg (aZ U (m+O) p k) G p).e/\(eg (aZ U (m+O) p k) G p).e<=((p+26:Nat):Int))/\True from⟨Bf (ATB.out k hk hend).1 (ATB.out k hk hend).2 (by omega),trivial⟩);have BD2:=hid (show((iA (aZ U (m+O) p k) G p).m<2^(p+26)/\ -((p+26:Nat):Int)<=(iA (aZ U (m+O) p k) G p).e/\(iA (aZ U (m+O) p k) G p).e<=((p+26:Nat):Int))/\True from⟨Hr (ATB.out k hk hend).1 (ATB.out k hk hend).2 (by omega),trivial⟩);clear hp11 hb11 hk hend B10 R10 S10 U10 D10 AT ATB;go_wp2_with fail
 refine(SG.out _ (HT.out.below B11.out) P11.out).mono ?_;rintro r w12 ⟨u1,u2,rfl,hu1,hu2,hb12⟩;obtain⟨A,hA⟩:∃A,A=eg (aZ U (m+O) p k) G p:=⟨_,rfl⟩;obtain⟨B,hB⟩:∃B,B=iA (aZ U (m+O) p k) G p:=⟨_,rfl⟩;change DV w12 u1 (eg (aZ U (m+O) p k) G p) at hu1;change DV w12 u2 (iA (aZ U (m+O) p k) G p) at hu2;rw[<-hA]at hu1 BD1;rw[<-hB]at hu2 BD2;have HAB:=hid (show(A=eg (aZ U (m+O) p k) G p/\B=iA (aZ U (m+O) p k) G p)/\True from⟨⟨hA,hB⟩,trivial⟩);clear hA hB;obtain⟨e1,f1,g1,rfl,hv1⟩:=hu1.parts;obtain⟨e2,f2,g2,rfl,hv2⟩:=hu2.parts;obtain⟨V12,hV12⟩:∃V,V=((w12.alloc (.cells #[.bool A.neg,.slice e1 f1 g1,.int .i64 A.e] 68)).alloc (.cells #[.bool B.neg,.slice e2 f2 g2,.int .i64 B.e] 68)):=⟨_,rfl⟩;have B12:=hid (show Below w.heap.size w V12 from by rw[hV12];exact((af B11.out le0 hb12).alloc (af B11.out le0 hb12).size _).alloc (by have :=(af B11.out le0 hb12).size;simp;omega) _);have R12:=hid (show GD V12 (w.heap.size+1) nz from by rw[hV12];exact((R11.out.below hb12).alloc _).alloc _);have S12:=hid (show GD V12 (w.heap.size+1+1) nz from by rw[hV12];exact((S11.out.below hb12).alloc _).alloc _);have hz12:w.heap.size+1+1<w12.heap.size:=(S11.out.below hb12).lt;have XA12:=hid (show ax V12 w12.heap.size 68 (.bool A.neg) (.slice e1 f1 g1) (.int .i64 A.e) from by rw[hV12];exact(ax.new w12 _ _ _ _).alloc _);have XB12:=hid (show ax V12 (w12.heap.size+1) 68 (.bool B.neg) (.slice e2 f2 g2) (.int .i64 B.e) from by rw[hV12];exact ax.new2 w12 _ _ _ _ _);have NA12:=hid (show NV V12 (.slice e1 f1 g1) A.m from by rw[hV12];exact(hv1.alloc _).alloc _)
 have NB12:=hid (show NV V12 (.slice e2 f2 g2) B.m from by rw[hV12];exact(hv2.alloc _).alloc _);obtain⟨bA,hbA⟩:∃bA,bA=w12.heap.size:=⟨_,rfl⟩;rw[<-hbA]at XA12 XB12 hz12;clear hu1 hu2 hv1 hv2 hb12 B11 R11 S11 P11 SG;go_wp2_with fail
 rw[<-hV12,<-hbA];clear hV12 hbA;refine(O1c.out _).mono ?_;rintro r w13 ⟨v13,rfl,hv13,hb13⟩;have B13:=bt0 B12 hb13;have R13:=hid (R12.out.below hb13);have S13:=hid (S12.out.below hb13);have XA13:=hid (XA12.out.below hb13);have XB13:=hid (XB12.out.below hb13);have NA13:=hid (NA12.out.below hb13);have NB13:=hid (NB12.out.below hb13);have I13:=hid hv13;clear hv13 hb13 B12 R12 S12 XA12 XB12 NA12 NB12;go_wp2_with fail
 refine(O3c.out _).mono ?_;rintro r w14 ⟨v14,rfl,hv14,hb14⟩;have B14:=bt0 B13 hb14;have R14:=hid (R13.out.below hb14);have S14:=hid (S13.out.below hb14);have XA14:=hid (XA13.out.below hb14);have XB14:=hid (XB13.out.below hb14);have NA14:=hid (NA13.out.below hb14);have NB14:=hid (NB13.out.below hb14);have I14:=hid (I13.out.below hb14);have J14:=hid hv14;clear hv14 hb14 B13 R13 S13 XA13 XB13 NA13 NB13 I13;go_wp2_with fail
 refine(AT3.out _ _ _ I14.out J14.out).mono ?_;rintro r w15 ⟨j,v15,rfl,hj,hjend,hp15,hb15⟩;obtain⟨t1,t2,t3,t4,t5,t6,rfl,hv1,hv2⟩:=hp15.parts;have HJ:=hid (show(j<=p/\(cf (qP 1 3 p) p j).h<=1)/\True from⟨⟨hj,hjend⟩,trivial⟩);have TB:=hid (show((aZ 1 3 p j).l<2^(p+4)/\(aZ 1 3 p j).h<2^(p+4))/\True from⟨AT3B.out j hj hjend,trivial⟩);obtain⟨V15,hV15⟩:∃V,V=w15.alloc (.cells #[.slice t1 t2 t3,.slice t4 t5 t6] 238):=⟨_,rfl⟩;have B15:=hid (show Below w.heap.size w V15 from by rw[hV15];exact(af B14.out le0 hb15).alloc (af B14.out le0 hb15).size _);have R15:=hid (show GD V15 (w.heap.size+1) nz from by rw[hV15];exact(R14.out.below hb15).alloc _);have S15:=hid (show GD V15 (w.heap.size+1+1) nz from by rw[hV15];exact(S14.out.below hb15).alloc _);have XA15:=hid (show ax V15 bA 68 (.bool A.neg) (.slice e1 f1 g1) (.int .i64 A.e) from by rw[hV15];exact(XA14.out.below hb15).alloc _);have XB15:=hid (show ax V15 (bA+1) 68 (.bool B.neg) (.slice e2 f2 g2) (.int .i64 B.e) from by rw[hV15];exact(XB14.out.below hb15).alloc _);have NA15:=hid (show NV V15 (.slice e1 f1 g1) A.m from by rw[hV15];exact(NA14.out.below hb15).alloc _);have NB15:=hid (show NV V15 (.slice e2 f2 g2) B.m from by rw[hV15];exact(NB14.out.below hb15).alloc _);have XT15:=hid (show Bp V15 w15.heap.size (.slice t1 t2 t3) (.slice t4 t5 t6) from by rw[hV15];exact Bp.new w15 _ _);have NT1:=hid (show NV V15 (.slice t1 t2 t3) (aZ 1 3 p j).l from by rw[hV15];exact hv1.alloc _);have NT2:=hid (show NV V15 (.slice t4 t5 t6) (aZ 1 3 p j).h from by rw[hV15];exact hv2.alloc _)
 have hz15:bA+1<w15.heap.size:=(XB14.out.below hb15).lt;obtain⟨bT,hbT⟩:∃bT,bT=w15.heap.size:=⟨_,rfl⟩;rw[<-hbT]at XT15 hz15;clear hp15 hb15 hv1 hv2 hj hjend B14 R14 S14 XA14 XB14 NA14 NB14 I14 J14 AT3 AT3B;go_wp2_with fail
 rw[<-hV15,<-hbT];clear hV15 hbT;obtain⟨M,hM⟩:∃M,M=N.natAbs:=⟨_,rfl⟩;have EM:max N (-N)=((M:Nat):Int):=by rw[hM];omega
 rw[EM];have hM3:M<=3000000:=by omega
 have OM:Hid (∀w',Calls prog 61 #[.int .u64 (M:Int)] w' (kn w' M)):=hid (fun w'=>by
  have :=dU (M:Int) (by omega) (by omega) w'
  rwa [gf]at this)
 have p26:2^(p+26)=2^(p+4)*4194304:=by rw[show p+26=p+4+22 by omega,aB]
 have p4:=az (p+4);have TM1:=hid (fun vb w' ha hb=>kB (.slice t1 t2 t3) vb (aZ 1 3 p j).l M (p+26) w' ha hb (by have :=TB.out.1.1;omega) (by omega) (by omega));have TM2:=hid (fun vb w' ha hb=>kB (.slice t4 t5 t6) vb (aZ 1 3 p j).h M (p+26) w' ha hb (by have :=TB.out.1.2;omega) (by omega) (by omega))
 have m1:(aZ 1 3 p j).l*M<2^(p+26):=by
  have h1:=TB.out.1.1;have :=cZ (aZ 1 3 p j).l (show M<=4194304 by omega);have :=cS h1 (show 0<4194304 by decide);omega
 have m2:(aZ 1 3 p j).h*M<2^(p+26):=by
  have h1:=TB.out.1.2;have :=cZ (aZ 1 3 p j).h (show M<=4194304 by omega);have :=cS h1 (show 0<4194304 by decide);omega
 obtain⟨C,hC⟩:∃C,C=eg (lF (aZ 1 3 p j) M) (decide (N<0)) p:=⟨_,rfl⟩;obtain⟨E,hE⟩:∃E,E=iA (lF (aZ 1 3 p j) M) (decide (N<0)) p:=⟨_,rfl⟩;have BD3:=hid (show(C.m<2^(p+26)/\ -((p+26:Nat):Int)<=C.e/\C.e<=((p+26:Nat):Int))/\True from⟨by rw[hC];exact Bf (x:=lF (aZ 1 3 p j) M) m1 m2 (by omega),trivial⟩);have BD4:=hid (show(E.m<2^(p+26)/\ -((p+26:Nat):Int)<=E.e/\E.e<=((p+26:Nat):Int))/\True from⟨by rw[hE];exact Hr (x:=lF (aZ 1 3 p j) M) m1 m2 (by omega),trivial⟩)
 have SGT:Hid (∀v w',aQ w'->PV w' v ⟨(aZ 1 3 p j).l*M,(aZ 1 3 p j).h*M⟩->Calls prog 245 #[v,.bool (decide (N<0)),.int .i64 (p:Int)] w' (nM w' C E)):=hid (fun v w' ht hv=>by
  rw[hC,hE];exact Nk v (lF (aZ 1 3 p j) M) (decide (N<0)) p (p+26) p w' ht hv rfl m1 m2 (by omega) (by omega))
 have HCE:=hid (show(C=eg (lF (aZ 1 3 p j) N.natAbs) (decide (N<0)) p/\E=iA (lF (aZ 1 3 p j) N.natAbs) (decide (N<0)) p)/\True from⟨⟨by rw[hC,hM],by rw[hE,hM]⟩,trivial⟩);have HT15:=hid (HT.out.below B15.out);have CT:Hid (∀w',Below V15.heap.size V15 w'->w'.cell? ⟨bT,0,none⟩=some (.slice t1 t2 t3)/\w'.cell? ⟨bT,1,none⟩=some (.slice t4 t5 t6)):=hid (fun w' hb=>⟨(XT15.out.below hb).cells.1,(XT15.out.below hb).cells.2.1⟩);have hTl:bT<V15.heap.size:=XT15.out.lt;have hz12':=hid (show(w.heap.size+1+1<bA/\bA+1<V15.heap.size)/\True from⟨⟨hz12,XB15.out.lt⟩,trivial⟩);clear hM EM p26 p4 m1 m2 hC hE hz15 hz12 hNb
 go_cut [15,16] (fun s15 s16 wx=>∃bC bE:Nat,s15=.pointer (some ⟨bC,0,none⟩)/\s16=.pointer (some ⟨bE,0,none⟩)/\Hid (gh V15 wx bC bE C E))
 case first=>
  refine wp_region_held_drew (S:=fun w'=>w'.cell? ⟨bT,0,none⟩=some (.slice t1 t2 t3)/\w'.cell? ⟨bT,1,none⟩=some (.slice t4 t5 t6)) (by kernel_rfl) (CT.out _ (mA V15).drew) (fun hHeld=>?_);refine tk 0 (v:=?_) rfl (by kernel_rfl) (fun _ _ _ h=>h) (by rfl) (CT.out _ (mA V15).drew) (fun w hSw=>?_) ?_;rotate_left
  ·(try dsimp only at hSw);first|(go_simp;done)|(go_simp;with_reducible rfl)
  try simp only[Act.put,bj,bB,bg]
  refine tk 1 (v:=?_) rfl (by kernel_rfl) (fun _ _ _ h=>h) (by rfl) (CT.out _ (mA V15).drew) (fun w hSw=>?_) ?_;rotate_left
  ·(try dsimp only at hSw);first|(go_simp;done)|(go_simp;with_reducible rfl)
  try simp only[Act.put,bj,bB,bg]
  refine tk 2 (v:=?_) rfl (by kernel_rfl) (fun _ _ _ h=>h) (by rfl) (CT.out _ (mA V15).drew) (fun w hSw=>?_) ?_;rotate_left
  ·(try dsimp only at hSw);first|(go_simp;done)|(go_simp;with_reducible rfl)
  try simp only[Act.put,bj,bB,bg]
  refine tk 5 (v:=?_) rfl (by kernel_rfl) (fun _ _ _ h=>h) (by rfl) (CT.out _ (mA V15).drew) (fun w hSw=>?_) ?_;rotate_left
  ·(try dsimp only at hSw);first|(go_simp;done)|(go_simp;with_reducible rfl)
  try simp only[Act.put,bj,bB,bg]
  refine tk 6 (v:=?_) rfl (by kernel_rfl) (fun _ _ _ h=>h) (by rfl) (CT.out _ (mA V15).drew) (fun w hSw=>?_) ?_;rotate_left
  ·(try dsimp only at hSw);first|(go_simp;done)|(go_simp;with_reducible rfl)
  try simp only[Act.put,bj,bB,bg]
  refine tk 7 (v:=?_) rfl (by kernel_rfl) (fun _ _ _ h=>h) (by rfl) (CT.out _ (mA V15).drew) (fun w hSw=>?_) ?_;rotate_left
  ·(try dsimp only at hSw);first|(go_simp;done)|(go_simp;with_reducible rfl)
  try simp only[Act.put,bj,bB,bg]
  refine tk 11 (v:=?_) rfl (by kernel_rfl) (fun _ _ _ h=>h) (by rfl) (CT.out _ (mA V15).drew) (fun w hSw=>?_) ?_;rotate_left
  ·(try dsimp only at hSw);first|(go_simp;done)|(go_simp;with_reducible rfl)
  try simp only[Act.put,bj,bB,bg]
  refine tk 12 (v:=?_) rfl (by kernel_rfl) (fun _ _ _ h=>h) (by rfl) (CT.out _ (mA V15).drew) (fun w hSw=>?_) ?_;rotate_left
  ·(try dsimp only at hSw);first|(go_simp;done)|(go_simp;with_reducible rfl)
  try simp only[Act.put,bj,bB,bg]
  refine tk 13 (v:=?_) rfl (by kernel_rfl) (fun _ _ _ h=>h) (by rfl) (CT.out _ (mA V15).drew) (fun w hSw=>?_) ?_;rotate_left
  ·(try dsimp only at hSw);first|(go_simp;done)|(go_simp;with_reducible rfl)
  try simp only[Act.put,bj,bB,bg]
  obtain⟨fA,hA⟩:∃fA:Value->Value->Value->Value->Value->Value->Value->Value->Value->Value->Value->Act,fA=fun x15 x16 x77 x81 x82 x86 x87 x88 x92 x93 x94=> { tmps:= #[.agg #[.bool g,.slice a1 n1 c1,.int .i64 e],.int .i64 (p:Int),.pointer (some ⟨w.heap.size,0,none⟩),undef,.pointer (some ⟨w.heap.size+1,0,none⟩),.pointer (some ⟨w.heap.size+1+1,0,none⟩),.int .i64 (L:Int),.slice y1 y2 y3,.int .i64 N,.slice z1 z2 z3,.bool G,.pointer (some ⟨bA,0,none⟩),.pointer (some ⟨bA+1,0,none⟩),.pointer (some ⟨bT,0,none⟩),.int .u64 (M:Int),x15,x16,u17,u18,u19,u20,u21,u22,u23,u24,u25,u26,u27,u28,u29,u30,u31,u32,u33,u34,u35,u36,u37,u38,u39,u40,u41,u42,u43,u44,u45,u46,u47,u48,u49,u50,u51,u52,u53,u54,.tuple #[.agg #[.bool A.neg,.slice e1 f1 g1,.int .i64 A.e],.agg #[.bool B.neg,.slice e2 f2 g2,.int .i64 B.e]],.slice z1 z2 z3,.pointer (some ⟨w.heap.size,1,none⟩),.slice a1 n1 c1,.slice y1 y2 y3,v10,.int .i64 (p:Int),v11,.bool G,.int .i64 (p:Int),.tuple #[.agg #[.bool A.neg,.slice e1 f1 g1,.int .i64 A.e],.agg #[.bool B.neg,.slice e2 f2 g2,.int .i64 B.e]],.agg #[.bool A.neg,.slice e1 f1 g1,.int .i64 A.e],.agg #[.bool B.neg,.slice e2 f2 g2,.int .i64 B.e],v13,v14,.int .i64 (p:Int),.agg #[.slice t1 t2 t3,.slice t4 t5 t6],.int .i64 N,.int .i64 N,.int .i64 (-N),.int .i64 (M:Int),.int .u64 (M:Int),x77,.pointer (some ⟨bT,0,none⟩),.slice t1 t2 t3,.int .u64 (M:Int),x81,x82,.pointer (some ⟨bT,1,none⟩),.slice t4 t5 t6,.int .u64 (M:Int),x86,x87,x88,.int .i64 N,.bool (decide (N<0)),.int .i64 (p:Int),x92,x93,x94,u95,u96,u97,u98,u99,u100],defers:=[] } :=⟨_,rfl⟩
  refine Uf (fun n x y a' w'=>∃(q u r v c e:Value) (b d:Nat),a'=fA (bif x then .pointer (some ⟨b,0,none⟩) else undef) (bif y then .pointer (some ⟨d,0,none⟩) else undef) (mu n 5 (.tuple #[.agg #[.bool C.neg,c,.int .i64 C.e],.agg #[.bool E.neg,e,.int .i64 E.e]]) u77) (mu n 1 q u81) (mu n 2 u u82) (mu n 3 r u86) (mu n 4 v u87) (mu n 4 (.agg #[u,v]) u88) (mu n 5 (.tuple #[.agg #[.bool C.neg,c,.int .i64 C.e],.agg #[.bool E.neg,e,.int .i64 E.e]]) u92) (mu n 5 (.agg #[.bool C.neg,c,.int .i64 C.e]) u93) (mu n 5 (.agg #[.bool E.neg,e,.int .i64 E.e]) u94)/\Hid (nO V15 w' n x y M ((aZ 1 3 p j).l*M) ((aZ 1 3 p j).h*M) C.m E.m q u r v c e b d))
   (by kernel_rfl) (by kernel_rfl) ⟨undef,undef,undef,undef,undef,undef,0,0,by rw[hA];kernel_rfl,hid ⟨(mA V15).drew,trivial,by simp,by simp,by simp⟩⟩ (fun n x y hn5 IC0 IX0 IY0=>?_)
  rintro a' w' ⟨q,u,r,v,c,e',b,d,rfl,I⟩;have IC:=hid IC0;have IX:=hid IX0;have IY:=hid IY0;clear IC0 IX0 IY0;by_cases hfin:n=5/\x=true/\y=true
  .obtain⟨rfl,rfl,rfl⟩:=hfin
   obtain⟨I1,⟨E1,E2⟩,GX,GY,NEb⟩:=I.out;obtain⟨k1,k2,k3,rfl⟩:=NV.shape E1;obtain⟨k4,k5,k6,rfl⟩:=NV.shape E2;have FB:=hid I1;have GC:=hid (GX rfl);have GE':=hid (GY rfl);have NE':=hid (show b≠d/\True from⟨NEb rfl rfl,trivial⟩);have N1:=hid E1;have N2:=hid E2;clear I IC IX IY I1 E1 E2 GX GY NEb hn5;obtain⟨_,_,_,ia0,ia1,ia2,ia3,ia4,ia5⟩:=GC.out.1.cells;obtain⟨_,_,_,ic0,ic1,ic2,ic3,ic4,ic5⟩:=GC.out.1.two GE'.out.1 (gX NE'.out.1) (.bool C.neg) (.slice k1 k2 k3) (.int .i64 C.e);rw[hA];simp only[mu,Fq,Fs,Nat.reduceLeDiff,↓reduceIte,ae,cQ];refine wpAnyH_ready (rs:=[20]) (by kernel_rfl) (by simp) ?_;refine AllReadyH.cons (o:=_) (xj rfl) (fun K hK=>?_) AllReadyH.nil;go_simp;refine hK.out _ _ (CT.out _ (cJ FB.out GC.out.2 _ _ _)) (fun _=>?_);try simp only[Act.put,bj,bB,bg]
   refine wpAnyH_ready (rs:=[21]) (by kernel_rfl) (by simp) ?_;refine AllReadyH.cons (o:=_) (xj rfl) (fun K hK=>?_) AllReadyH.nil;go_simp;refine hK.out _ _ (CT.out _ (cJ (cJ FB.out GC.out.2 _ _ _) GE'.out.2 _ _ _)) (fun _=>?_);try simp only[Act.put,bj,bB,bg]
   refine wpAnyH_done (by kernel_rfl) ?_ _;go_wp2_with fail
   go_meet
   exact⟨_,_,rfl,rfl,hid (yT FB.out GC.out.1 GE'.out.1 NE'.out.1 GC.out.2 GE'.out.2 N1.out N2.out)⟩
  obtain⟨hnn,hxx,hyy⟩:=Pp hn5 hfin;rcases hnn with hn|hn|hn|hn|hn|hn <;> rcases hxx with hx|hx <;> rcases hyy with hy|hy
  all_goals first
   |(have h1:n=5/\x=true/\y=true:=⟨hn,hx,hy⟩;exact(hfin h1).elim)
   |(clear hfin hn5
     have I':=I.out;rw[hn]at I';obtain⟨I1,FN,-⟩:=I';have FB:=hid I1;have FN':=hid FN;clear I1 FN;rw[hn,hx,hy];rw[hA];simp only[mu,Fq,Fs,Nat.reduceLeDiff,↓reduceIte,ae,cQ]
     first
      |refine wpAnyH_ready (rs:=[3,18,19]) (by decide+kernel) (by simp) ?_
      |refine wpAnyH_ready (rs:=[3,18]) (by decide+kernel) (by simp) ?_
      |refine wpAnyH_ready (rs:=[3,19]) (by decide+kernel) (by simp) ?_
      |refine wpAnyH_ready (rs:=[3]) (by decide+kernel) (by simp) ?_
      |refine wpAnyH_ready (rs:=[4,18,19]) (by decide+kernel) (by simp) ?_
      |refine wpAnyH_ready (rs:=[4,18]) (by decide+kernel) (by simp) ?_
      |refine wpAnyH_ready (rs:=[4,19]) (by decide+kernel) (by simp) ?_
      |refine wpAnyH_ready (rs:=[4]) (by decide+kernel) (by simp) ?_
      |refine wpAnyH_ready (rs:=[8,18,19]) (by decide+kernel) (by simp) ?_
      |refine wpAnyH_ready (rs:=[8,18]) (by decide+kernel) (by simp) ?_
      |refine wpAnyH_ready (rs:=[8,19]) (by decide+kernel) (by simp) ?_
      |refine wpAnyH_ready (rs:=[8]) (by decide+kernel) (by simp) ?_
      |refine wpAnyH_ready (rs:=[9,18,19]) (by decide+kernel) (by simp) ?_
      |refine wpAnyH_ready (rs:=[9,18]) (by decide+kernel) (by simp) ?_
      |refine wpAnyH_ready (rs:=[9,19]) (by decide+kernel) (by simp) ?_
      |refine wpAnyH_ready (rs:=[9]) (by decide+kernel) (by simp) ?_
      |refine wpAnyH_ready (rs:=[14,18,19]) (by decide+kernel) (by simp) ?_
      |refine wpAnyH_ready (rs:=[14,18]) (by decide+kernel) (by simp) ?_
      |refine wpAnyH_ready (rs:=[14,19]) (by decide+kernel) (by simp) ?_
      |refine wpAnyH_ready (rs:=[14]) (by decide+kernel) (by simp) ?_
      |refine wpAnyH_ready (rs:=[18,19]) (by decide+kernel) (by simp) ?_
      |refine wpAnyH_ready (rs:=[18]) (by decide+kernel) (by simp) ?_
      |refine wpAnyH_ready (rs:=[19]) (by decide+kernel) (by simp) ?_
     repeat' first
      |with_reducible exact AllReadyH.nil
      |refine AllReadyH.cons (o:=_) (xj rfl) (fun K hK=>?_) ?_
     all_goals
      go_simp
      first
       |(refine hK.out _ _ (CT.out _ (QI FB.out _)) (fun _=>?_)
         first
          |exact IX.out hx _ _ _ _ (by rw[hn,hy];decide+kernel) (by rw[hn,hy];rfl) ⟨q,u,r,v,c,e',_,d,by rw[hn,hy,hA];kernel_rfl,hid I.out.nx⟩
          |exact IY.out hy _ _ _ _ (by rw[hn,hx];decide+kernel) (by rw[hn,hx];rfl) ⟨q,u,r,v,c,e',b,_,by rw[hn,hx,hA];kernel_rfl,hid I.out.ny⟩)
       |(refine(OM.out _).mono ?_
         rintro rr wn ⟨qn,rfl,hq,hb⟩;have I2:=I.out.up hb;dsimp only;refine hK.out _ _ (CT.out _ I2.1) (fun _=>?_)
         first
          |(have h0:n=0:=hn;exact IC.out (by rw[hn];decide) _ _ _ _ (by rw[hn,hx,hy];decide+kernel) (by rw[hn,hx,hy];rfl) ⟨qn,u,r,v,c,e',b,d,by rw[hn,hx,hy,hA];kernel_rfl,hid ⟨I2.1,by rw[hn];exact hq,I2.2.2⟩⟩)
          |exact IC.out (by rw[hn];decide) _ _ _ _ (by rw[hn,hx,hy];decide+kernel) (by rw[hn,hx,hy];rfl) ⟨q,u,qn,v,c,e',b,d,by rw[hn,hx,hy,hA];kernel_rfl,hid ⟨I2.1,by rw[hn];exact⟨(by have :=I2.2.1;rw[hn]at this;exact this),hq⟩,I2.2.2⟩⟩)
       |(refine(TM1.out _ _ (NT1.out.below FB.out) FN'.out).mono ?_
         rintro rr wn ⟨qn,rfl,hq,hb⟩;have I2:=I.out.up hb;dsimp only;refine hK.out _ _ (CT.out _ I2.1) (fun _=>?_);exact IC.out (by rw[hn];decide) _ _ _ _ (by rw[hn,hx,hy];decide+kernel) (by rw[hn,hx,hy];rfl) ⟨q,qn,r,v,c,e',b,d,by rw[hn,hx,hy,hA];kernel_rfl,hid ⟨I2.1,by rw[hn];exact hq,I2.2.2⟩⟩)
       |(refine(TM2.out _ _ (NT2.out.below FB.out) FN'.out.2).mono ?_
         rintro rr wn ⟨qn,rfl,hq,hb⟩;obtain⟨p4,p5,p6,rfl⟩:=hq.shape;obtain⟨p1,p2,p3,rfl⟩:=NV.shape FN'.out.1;have I2:=I.out.up hb;have J2:=I2.2.1;rw[hn]at J2;dsimp only;refine hK.out _ _ (CT.out _ I2.1) (fun _=>?_);try simp only[Act.put,bj,bB,bg]
         refine tk 10 (v:=?_) rfl (by kernel_rfl) (fun _ _ _ h=>h) (by rfl) (CT.out _ I2.1) (fun w hSw=>?_) ?_;rotate_left
         ·(try dsimp only at hSw);first|(go_simp;done)|(go_simp;with_reducible rfl)
         try simp only[Act.put,bj,bB,bg]
         exact IC.out (by rw[hn];decide) _ _ _ _ (by rw[hn,hx,hy];decide+kernel) (by rw[hn,hx,hy];rfl) ⟨q,.slice p1 p2 p3,r,.slice p4 p5 p6,c,e',b,d,by rw[hn,hx,hy,hA];kernel_rfl,hid ⟨I2.1,by rw[hn];exact⟨J2.1,hq⟩,I2.2.2⟩⟩)
       |(refine(SGT.out _ _ (HT15.out.below FB.out) ⟨_,_,rfl,FN'.out.1,FN'.out.2⟩).mono ?_
         rintro rr wn ⟨r1,r2,rfl,hr1,hr2,hb⟩;obtain⟨k1,k2,k3,rfl,hr3⟩:=hr1.parts;obtain⟨k4,k5,k6,rfl,hr4⟩:=hr2.parts;have I2:=I.out.up hb;dsimp only;refine hK.out _ _ (CT.out _ I2.1) (fun _=>?_);try simp only[Act.put,bj,bB,bg]
         refine tk 15 (v:=?_) rfl (by kernel_rfl) (fun _ _ _ h=>h) (by rfl) (CT.out _ I2.1) (fun w hSw=>?_) ?_;rotate_left
         ·(try dsimp only at hSw);first|(go_simp;done)|(go_simp;with_reducible rfl)
         try simp only[Act.put,bj,bB,bg]
         refine tk 16 (v:=?_) rfl (by kernel_rfl) (fun _ _ _ h=>h) (by rfl) (CT.out _ I2.1) (fun w hSw=>?_) ?_;rotate_left
         ·(try dsimp only at hSw);first|(go_simp;done)|(go_simp;with_reducible rfl)
         try simp only[Act.put,bj,bB,bg]
         refine tk 17 (v:=?_) rfl (by kernel_rfl) (fun _ _ _ h=>h) (by rfl) (CT.out _ I2.1) (fun w hSw=>?_) ?_;rotate_left
         ·(try dsimp only at hSw);first|(go_simp;done)|(go_simp;with_reducible rfl)
         try simp only[Act.put,bj,bB,bg]
         exact IC.out (by rw[hn];decide) _ _ _ _ (by rw[hn,hx,hy];decide+kernel) (by rw[hn,hx,hy];rfl) ⟨q,u,r,v,.slice k1 k2 k3,.slice k4 k5 k6,b,d,by rw[hn,hx,hy,hA];kernel_rfl,hid ⟨I2.1,by rw[hn];exact⟨hr3,hr4⟩,I2.2.2⟩⟩))
 case rest=>
 obtain⟨bC,bE,rfl,rfl,hfin⟩:=hcut;obtain⟨hne,hC1,hE1,hbl,gC,gE⟩:=hfin.out;obtain⟨xc1,xc2,xc3,hXC,hNC⟩:=gC;obtain⟨xe1,xe2,xe3,hXE,hNE⟩:=gE;have P1:=hid (fun vc vd w' ht hc hd=>pW vc vd A C (p+26) w' ht hc hd BD1.out.1.1 BD3.out.1.1 (by omega) (by have :=BD1.out.1.2.1;omega) (by have :=BD1.out.1.2.2;omega) (by have :=BD3.out.1.2.1;omega) (by have :=BD3.out.1.2.2;omega));have P2:=hid (fun vc vd w' ht hc hd=>pW vc vd B E (p+26) w' ht hc hd BD2.out.1.1 BD4.out.1.1 (by omega) (by have :=BD2.out.1.2.1;omega) (by have :=BD2.out.1.2.2;omega) (by have :=BD4.out.1.2.1;omega) (by have :=BD4.out.1.2.2;omega));obtain⟨S1,hS1⟩:∃S1,S1=plus A C:=⟨_,rfl⟩;obtain⟨S2,hS2⟩:∃S2,S2=plus B E:=⟨_,rfl⟩;rw[<-hS1]at P1;rw[<-hS2]at P2;have HSS:=hid (show(S1=plus A C/\S2=plus B E)/\True from⟨⟨hS1,hS2⟩,trivial⟩);have YA:=hid (XA15.out.below hbl);have YB:=hid (XB15.out.below hbl);have YC:=hid hXC;have YE:=hid hXE;have MA:=hid (NA15.out.below hbl);have MB:=hid (NB15.out.below hbl);have MC:=hid hNC;have ME:=hid hNE;have RR:=hid (R15.out.below hbl);have SS:=hid (S15.out.below hbl);have BB:=hid (B15.out.trans (hbl.mono B15.out.size));have HTc0:=HT15.out.below hbl;have HTc:=hid (HTc0.below ((Below.refl wc.heap.size wc).drew));clear HTc0
 have n1:Hid ((w.heap.size+1≠bA/\w.heap.size+1≠bA+1/\w.heap.size+1≠bC/\w.heap.size+1≠bE/\w.heap.size+1+1≠bA/\w.heap.size+1+1≠bA+1/\w.heap.size+1+1≠bC/\w.heap.size+1+1≠bE)/\True):=hid ⟨by
  have h1:=S15.out.lt;have h2:=hz12'.out.1;omega,trivial⟩
 clear hS1 hS2 hXC hXE hNC hNE hne hC1 hE1 hbl hfin XA15 XB15 NA15 NB15 R15 S15 B15 NT1 NT2 XT15 TM1 TM2 SGT OM CT HT15 TB BD1 BD2 BD3 BD4;go_wp2_with fail
 obtain⟨a0,a1',a2',-,-,-⟩:=YA.out.drew.cells;obtain⟨b0,b1,b2,-,-,-⟩:=YB.out.drew.cells;obtain⟨c0,c1',c2',-,-,-⟩:=YC.out.drew.cells;obtain⟨d0,d1,d2,-,-,-⟩:=YE.out.drew.cells
 go_region_held3 (fun w'=>(w'.cell? ⟨bA,0,none⟩=some (.bool A.neg)/\w'.cell? ⟨bA,1,none⟩=some (.slice e1 f1 g1)/\w'.cell? ⟨bA,2,none⟩=some (.int .i64 A.e))/\(w'.cell? ⟨bA+1,0,none⟩=some (.bool B.neg)/\w'.cell? ⟨bA+1,1,none⟩=some (.slice e2 f2 g2)/\w'.cell? ⟨bA+1,2,none⟩=some (.int .i64 B.e))/\(w'.cell? ⟨bC,0,none⟩=some (.bool C.neg)/\w'.cell? ⟨bC,1,none⟩=some (.slice xc1 xc2 xc3)/\w'.cell? ⟨bC,2,none⟩=some (.int .i64 C.e))/\(w'.cell? ⟨bE,0,none⟩=some (.bool E.neg)/\w'.cell? ⟨bE,1,none⟩=some (.slice xe1 xe2 xe3)/\w'.cell? ⟨bE,2,none⟩=some (.int .i64 E.e)))
  (first
   |with_reducible exact⟨⟨a0,a1',a2'⟩,⟨b0,b1,b2⟩,⟨c0,c1',c2'⟩,⟨d0,d1,d2⟩⟩
   |(obtain⟨a0,a1',a2',-,-,-⟩:=(YA.out.drew.below hb1).cells
     obtain⟨b0,b1,b2,-,-,-⟩:=(YB.out.drew.below hb1).cells;obtain⟨c0,c1',c2',-,-,-⟩:=(YC.out.drew.below hb1).cells;obtain⟨d0,d1,d2,-,-,-⟩:=(YE.out.drew.below hb1).cells
     with_reducible exact⟨⟨a0,a1',a2'⟩,⟨b0,b1,b2⟩,⟨c0,c1',c2'⟩,⟨d0,d1,d2⟩⟩)
   |(obtain⟨a0,a1',a2',-,-,-⟩:=((YA.out.drew.below HB1.out).below hb2).cells
     obtain⟨b0,b1,b2,-,-,-⟩:=((YB.out.drew.below HB1.out).below hb2).cells;obtain⟨c0,c1',c2',-,-,-⟩:=((YC.out.drew.below HB1.out).below hb2).cells;obtain⟨d0,d1,d2,-,-,-⟩:=((YE.out.drew.below HB1.out).below hb2).cells
     with_reducible exact⟨⟨a0,a1',a2'⟩,⟨b0,b1,b2⟩,⟨c0,c1',c2'⟩,⟨d0,d1,d2⟩⟩)
   |(obtain⟨a0,a1',a2',-,-,-⟩:=(ZA.out.st (b':=w.heap.size+1) (gX n1.out.1.1) (.bool S1.neg) (.slice k1 k2 k3) (.int .i64 S1.e)).cells
     obtain⟨b0,b1,b2,-,-,-⟩:=(ZB.out.st (b':=w.heap.size+1) (gX n1.out.1.2.1) (.bool S1.neg) (.slice k1 k2 k3) (.int .i64 S1.e)).cells;obtain⟨c0,c1',c2',-,-,-⟩:=(ZC.out.st (b':=w.heap.size+1) (gX n1.out.1.2.2.1) (.bool S1.neg) (.slice k1 k2 k3) (.int .i64 S1.e)).cells;obtain⟨d0,d1,d2,-,-,-⟩:=(ZE.out.st (b':=w.heap.size+1) (gX n1.out.1.2.2.2.1) (.bool S1.neg) (.slice k1 k2 k3) (.int .i64 S1.e)).cells
     with_reducible exact⟨⟨a0,a1',a2'⟩,⟨b0,b1,b2⟩,⟨c0,c1',c2'⟩,⟨d0,d1,d2⟩⟩)
   |(obtain⟨a0,a1',a2',-,-,-⟩:=((ZA.out.st (b':=w.heap.size+1) (gX n1.out.1.1) (.bool S1.neg) (.slice k1 k2 k3) (.int .i64 S1.e)).st (b':=w.heap.size+1+1) (gX n1.out.1.2.2.2.2.1) (.bool S2.neg) (.slice k4 k5 k6) (.int .i64 S2.e)).cells
     obtain⟨b0,b1,b2,-,-,-⟩:=((ZB.out.st (b':=w.heap.size+1) (gX n1.out.1.2.1) (.bool S1.neg) (.slice k1 k2 k3) (.int .i64 S1.e)).st (b':=w.heap.size+1+1) (gX n1.out.1.2.2.2.2.2.1) (.bool S2.neg) (.slice k4 k5 k6) (.int .i64 S2.e)).cells;obtain⟨c0,c1',c2',-,-,-⟩:=((ZC.out.st (b':=w.heap.size+1) (gX n1.out.1.2.2.1) (.bool S1.neg) (.slice k1 k2 k3) (.int .i64 S1.e)).st (b':=w.heap.size+1+1) (gX n1.out.1.2.2.2.2.2.2.1) (.bool S2.neg) (.slice k4 k5 k6) (.int .i64 S2.e)).cells;obtain⟨d0,d1,d2,-,-,-⟩:=((ZE.out.st (b':=w.heap.size+1) (gX n1.out.1.2.2.2.1) (.bool S1.neg) (.slice k1 k2 k3) (.int .i64 S1.e)).st (b':=w.heap.size+1+1) (gX n1.out.1.2.2.2.2.2.2.2) (.bool S2.neg) (.slice k4 k5 k6) (.int .i64 S2.e)).cells
     with_reducible exact⟨⟨a0,a1',a2'⟩,⟨b0,b1,b2⟩,⟨c0,c1',c2'⟩,⟨d0,d1,d2⟩⟩))
  (first
   |(go_at_call_of 194 (Value.slice e1 f1 g1)
     refine(P1.out _ _ _ HTc.out ⟨_,rfl,MA.out.dr⟩ ⟨_,rfl,MC.out.dr⟩).mono ?_;rintro r u1 ⟨v1,rfl,hu1,hb1⟩;obtain⟨k1,k2,k3,rfl,hv1⟩:=hu1.parts;have HB1:=hid hb1;have Q1:=hid hv1;have C1:=hid (af BB.out.drew le0 hb1))
   |(go_at_call_of 194 (Value.slice e2 f2 g2)
     refine(P2.out _ _ _ (HTc.out.below HB1.out) ⟨_,rfl,MB.out.dr.below HB1.out⟩ ⟨_,rfl,ME.out.dr.below HB1.out⟩).mono ?_;rintro r u2 ⟨v2,rfl,hu2,hb2⟩;obtain⟨k4,k5,k6,rfl,hv2⟩:=hu2.parts;have Q2:=hid hv2;have Q12:=hid (Q1.out.below hb2);have C2:=bt0 C1 hb2;have ZA:=hid ((YA.out.drew.below HB1.out).below hb2);have ZB:=hid ((YB.out.drew.below HB1.out).below hb2);have ZC:=hid ((YC.out.drew.below HB1.out).below hb2);have ZE:=hid ((YE.out.drew.below HB1.out).below hb2);have RR2:=hid ((RR.out.drew.below HB1.out).below hb2);have SS2:=hid ((SS.out.drew.below HB1.out).below hb2);obtain⟨_,_,_,i0,i1,i2,i3,i4,i5⟩:=RR2.out.cells;obtain⟨_,_,_,j0,j1,j2,j3,j4,j5⟩:=RR2.out.two SS2.out (by omega) (.bool S1.neg) (.slice k1 k2 k3) (.int .i64 S1.e)))
 clear a0 a1' a2' b0 b1 b2 c0 c1' c2' d0 d1 d2 i0 i1 i2 i3 i4 i5 j0 j1 j2 j3 j4 j5 hb1 hb2 hu1 hu2 hv1 hv2;rename_i hHeld1;clear hHeld1;obtain⟨h1,h2,h3,h4,h5,h6⟩:=yT (V:=w) C2.out RR2.out SS2.out (by omega) (by omega) (by omega) Q12.out Q2.out;obtain⟨W,hW⟩:∃W,W=((((((u2.setCell ⟨w.heap.size+1,0,none⟩ (.bool S1.neg)).setCell ⟨w.heap.size+1,1,none⟩ (.slice k1 k2 k3)).setCell ⟨w.heap.size+1,2,none⟩ (.int .i64 S1.e)).setCell ⟨w.heap.size+1+1,0,none⟩ (.bool S2.neg)).setCell ⟨w.heap.size+1+1,1,none⟩ (.slice k4 k5 k6)).setCell ⟨w.heap.size+1+1,2,none⟩ (.int .i64 S2.e)):=⟨_,rfl⟩;rw[<-hW]at h4 h5 h6 ⊢;clear hW;simp only[Exit.then];clear Q1 Q2 Q12 P1 P2 HTc YA YB YC YE MA MB MC ME RR SS BB C1 C2 ZA ZB ZC ZE RR2 SS2
 go_step
 go_step
 obtain⟨l1,l2,l3,hl,hln⟩:=h5;obtain⟨o1,o2,o3,ho,hon⟩:=h6;have HLN:=hid hln;have HON:=hid hon;have BW:=hid h4;obtain⟨s0,s1,s2,-,-,-⟩:=hl.cells;obtain⟨r0,r1,r2,-,-,-⟩:=ho.cells;clear hl ho hln hon h4;refine bodyPost_ret (v:= .tuple #[.agg #[.bool S1.neg,.slice l1 l2 l3,.int .i64 S1.e],.agg #[.bool S2.neg,.slice o1 o2 o3,.int .i64 S2.e]]) (by simp [results,Tryz.results232,go_sem,s0,s1,s2,r0,r1,r2]) rfl ?_;refine⟨k,j,HK.out.1.1,HJ.out.1.1,HK.out.1.2,HJ.out.1.2,_,_,rfl,?_,?_,BW.out⟩
 .rw[<-HAB.out.1.1,<-HCE.out.1.1,<-HSS.out.1.1];exact⟨_,rfl,HLN.out⟩
 .rw[<-HAB.out.1.2,<-HCE.out.1.2,<-HSS.out.1.2];exact⟨_,rfl,HON.out⟩
open Go.RowKit Nt Fm
open Ea (Pr qP cf aZ tw PB Lg ke dm iV)
theorem yS (x:Pr) (g:Bool) (p:Nat):rv (eg x g p)=if g then -((x.h:Rat)/2^p) else(x.l:Rat)/2^p:=by
 unfold eg;cases g
 .simp only[ga,e9]
  rw[o0,jd,qN]
 .simp only[cQ]
  rw[ta,o0,jd,qN]
theorem Ef (x:Pr) (g:Bool) (p:Nat):rv (iA x g p)=if g then -((x.l:Rat)/2^p) else(x.h:Rat)/2^p:=yS ⟨x.h,x.l⟩ g p
theorem UU {x:Pr}{p:Nat}{a b:Rat}(ha:0<a) (hb:0<b) (g:Bool) (h:Lg (if g then b/a else a/b) ((x.l:Rat)/2^p) ((x.h:Rat)/2^p)):Lg (a/b) (rv (eg x g p)) (rv (iA x g p)):=by
 rw[yS,Ef];cases g
 .exact h
 .simp only[cQ]at h ⊢
  have :=h.inv
  have e:1/(b/a)=a/b:=by
   have h1:b/a*a=b:=bM (cR ha);have h2:a/b*b=a:=bM (cR hb);have hr:0<b/a:=by rw[jW ha];grind
   have h3:=Ea.nK hr;generalize b/a=r at *;generalize 1/r=x at *;generalize a/b=y at *
   have h4:(x-y)*b=0:=by
    have :x*b=x*r*a:=by grind
    grind
   rcases gr.1 h4 with h|h <;> grind
  rwa [e]at this
theorem Mx {x:Pr}{g:Bool}{p n:Nat}(h:x.h<=x.l+n):rv (iA x g p)<=rv (eg x g p)+(n:Rat)/2^p:=by
 rw[yS,Ef];have hP:=Ea.two_pos p
 have h2:(x.h:Rat)/2^p<=(x.l:Rat)/2^p+(n:Rat)/2^p:=by
  rw[Ea.lD hP,Fv,bM (cR hP),bM (cR hP),<-dW];exact cL.2 h
 cases g
 .exact h2
 .simp only[cQ]
  grind
def qW (m:Nat):Nat:=if lL m then aC m-1+1 else aC m-1
theorem Qq (m:Nat):du m=2^qW m:=by
 unfold du qW;cases lL m
 .rfl
 .simp only[cQ];rw[bH];omega
theorem KG {m:Nat}(e:Int) (hm:m≠0):dP m e=e+(qW m:Int):=by
 have :=nP hm;have h2:0<aC m:=this;unfold dP qW;cases lL m
 .simp only[ga,e9];omega
 .simp only[cQ];omega
theorem P_ {m p k j:Nat}{e:Int}(hm0:m≠0) (hp:4<=p) (hk:k<=p) (hj:j<=p) (hend:(cf (qP (ie m) (m+du m) p) p k).h<=1) (hend2:(cf (qP 1 3 p) p j).h<=1):
  Lg ((m:Rat)*tw e) (rv (lJ m e p k j)) (rv (lG m e p k j))/\rv (lG m e p k j)<=rv (lJ m e p k j)+((10+6*k+(10+6*j)*(dP m e).natAbs:Nat):Rat)/2^p:=by
 obtain⟨O0,O3,O2,OG1,OG2⟩:=ye hm0;have hmr:(0:Rat)<(m:Rat):=fo.2 (by omega);have hOr:(0:Rat)<(du m:Rat):=fo.2 O0;have hden:0<m+du m:=by omega
 have hdr:(0:Rat)<((m+du m:Nat):Rat):=fo.2 hden;have hP:=Ea.two_pos p;have w1:=(Ea.xf (x:=(ie m:Rat)/((m+du m:Nat):Rat)) hden O3 hp hk hend (bM (cR hdr))).2.2.2.1;have w2:=(Ea.xf (num:=1) (den:=3) (x:=((1:Nat):Rat)/((3:Nat):Rat)) (by decide) (by decide) hp hj hend2 (bM (by decide))).2.2.2.1
 have L1:Lg ((m:Rat)/(du m:Rat)) (rv (eg (aZ (ie m) (m+du m) p k) (lk m) p)) (rv (iA (aZ (ie m) (m+du m) p k) (lk m) p)):=by
  refine UU hmr hOr _ ?_;cases hg:lk m
  .have :=OG2 hg
   have hU:ie m=m-du m:=by unfold ie;rw[hg];rfl
   simp only[ga,e9];exact Ea.Cd hden O3 hp hk hend O0 (by omega) (by omega)
  .have :=OG1 hg
   have hU:ie m=du m-m:=by unfold ie;rw[hg];rfl
   simp only[cQ];exact Ea.Cd hden O3 hp hk hend (by omega) (by omega) (by omega)
 have L2:=Ea.Cd (num:=1) (den:=3) (a:=2) (b:=1) (by decide) (by decide) hp hj hend2 (by decide) (by decide) (by decide);have e21:((2:Nat):Rat)/((1:Nat):Rat)=2:=by decide+kernel
 rw[e21]at L2;have L3:=L2.pow (dP m e).natAbs;have e22:(2:Rat)^(dP m e).natAbs=tw (((dP m e).natAbs:Nat):Int):=(Ea.bN _).symm;rw[e22]at L3
 have eq1:∀n:Nat,((dP m e).natAbs:Rat)*((n:Rat)/2^p)=((n*(dP m e).natAbs:Nat):Rat)/2^p:=by
  intro n;rw[<-qN,<-qN,ft];grind
 rw[eq1,eq1]at L3
 have L4:Lg (tw (dP m e)) (rv (eg (lF (aZ 1 3 p j) (dP m e).natAbs) (decide (dP m e<0)) p)) (rv (iA (lF (aZ 1 3 p j) (dP m e).natAbs) (decide (dP m e<0)) p)):=by
  rw[yS,Ef];by_cases hn:dP m e<0
  .rw[fR hn]
   simp only[cQ];have :=L3.inv;rw[Ea.vj,show -(((dP m e).natAbs:Nat):Int)=dP m e by omega]at this;exact this
  .rw[e_ hn]
   simp only[ga,e9];rw[show(((dP m e).natAbs:Nat):Int)=dP m e by omega]at L3;exact L3
 have hA:(m:Rat)*tw e=(m:Rat)/(du m:Rat)*tw (dP m e):=by
  rw[KG e hm0,Ea.fM,Ea.bN];have :(du m:Rat)=2^qW m:=by rw[Qq,Ea.c_]
  rw[<-this];have h1:(m:Rat)/(du m:Rat)*(du m:Rat)=(m:Rat):=bM (cR hOr);grind
 unfold lJ lG;rw[ib,ib,hA];refine⟨L1.mul L4,?_⟩;have n1:=Mx (g:=lk m) (p:=p) w1
 have n2:=Mx (x:=lF (aZ 1 3 p j) (dP m e).natAbs) (g:=decide (dP m e<0)) (p:=p) (n:=(10+6*j)*(dP m e).natAbs) (by
  show(aZ 1 3 p j).h*_<=(aZ 1 3 p j).l*_+_
  rw[<-a_];exact bR _ w2)
 rw[<-qN]at n1 n2 ⊢;rw[dW];grind
theorem sB {d:D}{p K:Nat}(hn:d.Nf) (he: -(p:Int)<=d.e) (h:(d.vl p).natAbs<2^K):d.m<2^K/\ -(p:Int)<=d.e/\d.e<=K:=by
 rw[nI]at h;have hP:=az (d.e+(p:Int)).toNat;refine⟨de (ug _ hP) h,he,?_⟩;rcases hn with hz|hz
 .rw[hz];show(0:Int)<=_;omega
 .have hm:1<=d.m:=by omega
  have h2:2^(d.e+(p:Int)).toNat<2^K:=de (by have :=bR (2^(d.e+(p:Int)).toNat) hm;omega) h;have :=(lW (by decide)).1 h2;omega
theorem Gz (x:Pr) (g:Bool) (p:Nat):(eg x g p).vl p=if g then -(x.h:Int) else(x.l:Int):=by
 unfold eg;cases g
 .simp only[ga,e9];exact sP _ _
 .simp only[cQ];rw[Ev,sP]
theorem xz (x:Pr) (g:Bool) (p:Nat): -(p:Int)<=(eg x g p).e:=by
 unfold eg;cases g
 .exact rz _ _
 .exact rz _ _
theorem Da {c d:D}{p:Nat}(hc: -(p:Int)<=c.e) (hd: -(p:Int)<=d.e): -(p:Int)<=(plus c d).e:=by
 have :=uW (c:=c) (d:=d) (T:=p) (by omega) (by omega);omega
theorem KW {x y:Pr}{g g':Bool}{p K:Nat}(hxl:x.l<2^K) (hxh:x.h<2^K) (hyl:y.l<2^K) (hyh:y.h<2^K):
  (plus (eg x g p) (eg y g' p)).Nf/\(plus (eg x g p) (eg y g' p)).m<2^(K+1)/\ -(p:Int)<=(plus (eg x g p) (eg y g' p)).e/\(plus (eg x g p) (eg y g' p)).e<=((K+1:Nat):Int):=by
 refine⟨mw _ _,sB (mw _ _) (Da (xz _ _ _) (xz _ _ _)) ?_⟩;rw[qt _ _ _ (by have :=xz x g p;omega) (by have :=xz y g' p;omega),Gz,Gz,bH];cases g <;> cases g' <;> simp only[ga,e9,cQ] <;> omega
theorem Pe {m p k j:Nat}{e:Int}(hm0:m≠0) (hp:4<=p) (hk:k<=p) (hj:j<=p) (hend:(cf (qP (ie m) (m+du m) p) p k).h<=1) (hend2:(cf (qP 1 3 p) p j).h<=1) (hN:(dP m e).natAbs<2^20):
  ((lJ m e p k j).Nf/\(lJ m e p k j).m<2^(p+24+1)/\ -(p:Int)<=(lJ m e p k j).e/\(lJ m e p k j).e<=((p+24+1:Nat):Int))/\
  ((lG m e p k j).Nf/\(lG m e p k j).m<2^(p+24+1)/\ -(p:Int)<=(lG m e p k j).e/\(lG m e p k j).e<=((p+24+1:Nat):Int)):=by
 obtain⟨O0,O3,-,-,-⟩:=ye hm0;obtain⟨b1,b2⟩:=zo (den:=m+du m) (by omega) O3 hp hk hend;obtain⟨b3,b4⟩:=zo (num:=1) (den:=3) (by decide) (by decide) hp hj hend2;have h4:2^(p+4)<=2^(p+24):=aG (by decide) (by omega)
 have hm:∀n,n<2^(p+4)->n*(dP m e).natAbs<2^(p+24):=by
  intro n hn;rw[show p+24=(p+4)+20 by omega,aB 2 (p+4) 20];exact Fu hn hN
 unfold lJ lG;refine⟨KW (by omega) (by omega) (hm _ b3) (hm _ b4),?_⟩;exact KW (x:=⟨(aZ (ie m) (m+du m) p k).h,(aZ (ie m) (m+du m) p k).l⟩) (y:=⟨(aZ 1 3 p j).h*(dP m e).natAbs,(aZ 1 3 p j).l*(dP m e).natAbs⟩) (aX b2 h4) (aX b1 h4) (hm _ b4) (hm _ b3)
theorem Vy {k j p N:Nat}(hk:k<=p) (hj:j<=p) (hN:N<2^20) (hp:PB<=p) (hp1:p<=20000000000000):((10+6*k+(10+6*j)*N:Nat):Rat)/2^p<=tw (-((Ea.Qs+24400:Nat):Int)):=by
 have h1:10+6*k+(10+6*j)*N<=2^80:=by
  have a:10+6*j<2^50:=by have :(2:Nat)^50=1125899906842624:=by decide
                         omega
  have b:(10+6*j)*N<=2^50*2^20:=eI (by omega) (by omega);have c:(2:Nat)^50=1125899906842624:=by decide
  have d:(2:Nat)^50*2^20+2^50<=2^80:=by decide
  omega
 have h2:((10+6*k+(10+6*j)*N:Nat):Rat)<=tw ((80:Nat):Int):=by
  rw[Ea.bN,<-Ea.c_];exact cL.2 h1
 rw[Ea.lD (Ea.two_pos p),<-Ea.bN,<-Ea.fM];refine cI h2 (Ea.dH ?_);have :PB=4398500000000:=rfl;have :Ea.Qs=4398046511104:=rfl;omega
theorem Qu {m:Nat}{e:Int}(hm0:m≠0) (hm:m<2^1280) (he: -3000<=e) (he1:e<=3000):(dP m e).natAbs<2^20:=by
 have h1:aC m<=1280:=uB hm;have h2:qW m<=1280:=by unfold qW;have :0<aC m:=nP hm0;split <;> omega
 rw[KG e hm0];have :(2:Nat)^20=1048576:=by decide
 omega
open Go.RowKit Nt Fm Fl
open Ea (tw PB Lo Hi iV dm Lg)
def jq (x:Rat):gj:=⟨Lo x,Hi x,fun a b h1 h2=>Ea.mn h1 h2⟩
def iL (x:Rat):gj:=⟨fun a=>Lo x (a+1),fun b=>Hi x (b+1),fun a b h1 h2=>by have :=Ea.mn h1 h2;grind⟩
def im (A:Rat):gj:=⟨fun a=>Hi a A,fun b=>Lo b A,fun a b h1 h2=>by
 refine fw.1 fun e=>?_
 have :=Ea.aa2 e h1.pos h2 h1;grind⟩
def BR (c:gj) (p:Nat) (C E:D):Prop:= ∃K:Nat,K<=16000000000000/\C.m<2^K/\E.m<2^K/\ -16000000000000<=C.e/\C.e<=16000000000000/\ -16000000000000<=E.e/\E.e<=16000000000000/\
 (C.m=0->C.e<=1000)/\(E.m=0->E.e<=1000)/\c.lb (rv C)/\c.ub (rv E)/\(PB<=p->∀mode,aE C mode=aE E mode/\aU C=true/\aU E=true)
theorem Np {x t ε l h:Rat}(hl:Lo x l) (hh:Hi x h) (hw:h<l+ε) (hs:iV x t ε):¬(l<=t/\t<=h):=by
 rintro⟨a,b⟩;rcases hs with hs|hs
 .have :=Ea.mn hs hh;grind
 .have :=Ea.mn hl hs;grind
theorem sy {d:D}(h:d.Nf):d.m=0->d.e<=1000:=by
 intro hm;rcases h with h|h
 .rw[h];decide
 .omega
theorem Ql (j:Int):(j:Rat)*tw (-((1075:Nat):Int))=(j:Rat)*tw (-1075):=rfl
theorem Pf:((((2^1075:Nat):Int)):Rat)*tw (-1075)=1:=by
 show((2^1075:Nat):Rat)*_=1
 rw[Ea.c_ 1075,<-Ea.bN];exact Ea.Aj ((1075:Nat):Int)
theorem Ht {d:D}(hm0:d.m≠0) (hm:d.m<2^1280) (he: -19000<=d.e) (hx:(d.m:Rat)*tw d.e<=2048) (j:Int):iV (rv d) ((j:Rat)*tw (-1075)) dm:=by
 have :=Ea.UW (pl:=1075) (by omega) hm he hx (by decide) j;rw[Ql]at this;obtain⟨g,m,e⟩:=d;cases g
 .rw[jd];exact this.1
 .rw[rb];exact this.2
theorem PF {d:D}(h0:0<rv d) (hm:d.m<2^1280) (he: -3000<=d.e) (he1:d.e<=3000) (h1:rv d≠1) (j:Int):iV ((j:Rat)*tw (-1075)) (rv d) dm:=by
 obtain⟨hn,hm0⟩:=oU h0;have hv:rv d=(d.m:Rat)*tw d.e:=by unfold rv D.sm;rw[hn];rfl
 rw[hv]at h1 ⊢;exact Ea.Q5 (pl:=1075) (by omega) hm he he1 h1 (by decide) j
theorem Q_ (j:Int):(j:Rat)*tw (-1075)+1=((j+((2^1075:Nat):Int):Int):Rat)*tw (-1075):=by
 rw[wz,Fv,Pf]
theorem JY {x:Rat}{p:Nat}{y:Ea.Pr}(h:Ea.Good x p y):Lo x (rv (norm false y.l (-(p:Int))))/\Hi x (rv (norm false y.h (-(p:Int)))):=by
 rw[o0,o0,jd,jd,qN,qN];exact⟨h.lo,h.hi⟩
theorem NI {p w:Nat}{y:Ea.Pr}(hw:y.h<=y.l+w) (hl:y.l<=y.h) (hW:(w:Rat)<dm*2^p):rv (norm false y.h (-(p:Int)))<rv (norm false y.l (-(p:Int)))+dm/\rv (norm false y.l (-(p:Int)))<=rv (norm false y.h (-(p:Int))):=by
 rw[o0,o0,jd,jd];have hP:=Ea.two_pos p;have e:tw (-(p:Int))*2^p=1:=by rw[<-Ea.bN,Ea.mE]
 have ht:=Ea.db (-(p:Int));have h1:(y.h:Rat)<=(y.l:Rat)+(w:Rat):=by rw[<-dW];exact cL.2 hw
 have h2:(y.l:Rat)<=(y.h:Rat):=cL.2 hl;have g1:=aV h1 (aJ ht);have g2:=aV h2 (aJ ht);have g3:=oe hW ht
 have g4:dm*2^p*tw (-(p:Int))=dm:=by
  rw[iu,l7 (2^p),e,fz]
 rw[g4]at g3;grind
theorem Lj {d:D}{p Q k s:Nat}(hm0:d.m≠0) (hm:d.m<2^1280) (he: -19000<=d.e) (hx:(d.m:Rat)*tw d.e<=2048) (hs:(s:Int)=max 0 (aC d.m+d.e+16)) (hs1:s<=27)
  (hQ:256<=Q) (hQ2:Q<=9000000000000) (hpQ:p<=Q) (hk:k<=Q) (hend:(Ea.bZ (Ea.dz d.m (d.e-s) Q) Q k).h<=1):
  BR (jq (rv d)) p (norm false (fT d.neg d.m d.e Q k s).l (-(Q:Int))) (norm false (fT d.neg d.m d.e Q k s).h (-(Q:Int))):=by
 obtain⟨o1,o2,o3,o4⟩:=Bz (neg:=d.neg) (k:=k) (p:=Q) (tQ d.m) (show((aC d.m:Nat):Int)+d.e-s<= -16 by omega) (by omega) hk hend;have h2s:2^s<=134217728:=aG (show 0<2 by decide) hs1;have hg:=JY o1;have ee:d=⟨d.neg,d.m,d.e⟩:=rfl;have bd:=fun n (hn:n<2^(Q+3*2^s+1))=>(show(norm false n (-(Q:Int))).m<2^(Q+3*2^s+1)/\ -(Q:Int)<=(norm false n (-(Q:Int))).e/\(norm false n (-(Q:Int))).e<=((Q+3*2^s+1:Nat):Int) from sB (iT _ _ _) (rz _ _) (by rw[sP];simpa using hn))
 have b1:=bd _ (de o2 o4);have b2:=bd _ o4;refine⟨Q+3*2^s+1,by omega,b1.1,b2.1,by omega,by omega,by omega,by omega,sy (iT _ _ _),sy (iT _ _ _),hg.1,hg.2,fun hp mode=>?_⟩;have hw:=NI o3 o2 (Ea.KB hk hs1 (show PB<=Q by omega) (by omega));exact xC hw.2 (fun j=>Np hg.1 hg.2 hw.1 (Ht hm0 hm he hx j)) mode
theorem K3 {d:D}{p k s:Nat}(hm0:d.m≠0) (hm:d.m<2^1280) (he: -19000<=d.e) (hx:(d.m:Rat)*tw d.e<=2048) (hs:(s:Int)=max 0 (aC d.m+d.e+16)) (hs1:s<=27)
  (hp:256<=p) (hp2:p<=9000000000000) (hk:k<=p) (hend:(Ea.bZ (Ea.dz d.m (d.e-s) p) p k).h<=1):
  BR (iL (rv d)) p (plus (norm false (fT d.neg d.m d.e p k s).l (-(p:Int))) (aO (norm false 1 0))) (plus (norm false (fT d.neg d.m d.e p k s).h (-(p:Int))) (aO (norm false 1 0))):=by
 obtain⟨o1,o2,o3,o4⟩:=Bz (neg:=d.neg) (k:=k) (p:=p) (tQ d.m) (show((aC d.m:Nat):Int)+d.e-s<= -16 by omega) (by omega) hk hend;have h2s:2^s<=134217728:=aG (show 0<2 by decide) hs1;have hg:=JY o1
 have hv1:rv (aO (norm false 1 0))= -1:=by
  rw[ta,o0,jd,Ea.lC,fz];rfl
 have e1:0<=(aO (norm false 1 0)).e+(p:Int):=by
  have :(norm false 1 0).e=0:=by decide+kernel
  show 0<=(norm false 1 0).e+(p:Int)
  omega
 have h2p:2^p<=2^(p+3*2^s+1):=aG (by decide) (by omega)
 have v1:(aO (norm false 1 0)).vl p= -((2^p:Nat):Int):=by
  rw[Ev,j9 _ _ _ _ (by omega)];unfold D.vl D.sm;simp only[ga,e9];rw[show((0:Int)+(p:Int)).toNat=p by omega];simp
 have bd:=fun n (hn:n<2^(p+3*2^s+1))=>(show(plus (norm false n (-(p:Int))) (aO (norm false 1 0))).m<2^(p+3*2^s+2)/\ -(p:Int)<=(plus (norm false n (-(p:Int))) (aO (norm false 1 0))).e/\(plus (norm false n (-(p:Int))) (aO (norm false 1 0))).e<=((p+3*2^s+2:Nat):Int) from by
  refine sB (mw _ _) (Da (rz _ _) (by omega)) ?_;rw[qt _ _ _ (by have :=rz n p;omega) e1,sP,v1,show p+3*2^s+2=(p+3*2^s+1)+1 by omega,bH];generalize 2^(p+3*2^s+1)=A at *;generalize 2^p=B at *;omega)
 have b1:=bd _ (de o2 o4);have b2:=bd _ o4;have hlb:∀z:D,rv (plus z (aO (norm false 1 0)))=rv z-1:=fun z=>by rw[ib,hv1];grind
 have ba:∀z:Rat,z-1+1=z:=fun z=>by grind
 refine⟨p+3*2^s+2,by omega,b1.1,b2.1,by omega,by omega,by omega,by omega,sy (mw _ _),sy (mw _ _),?_,?_,fun hpp mode=>?_⟩
 .show Lo (rv d) (_+1)
  rw[hlb,ba];exact hg.1
 .show Hi (rv d) (_+1)
  rw[hlb,ba];exact hg.2
 have hw:=NI o3 o2 (Ea.KB hk hs1 (show PB<=p by omega) (by omega));refine xC ?_ (fun j=>?_) mode
 .rw[hlb,hlb];grind
 .rw[hlb,hlb]
  rintro⟨a,b⟩;refine Np hg.1 hg.2 hw.1 (Ht hm0 hm he hx (j+((2^1075:Nat):Int))) ?_;rw[<-Q_];constructor <;> grind
theorem NF {d:D}{p k j:Nat}(h0:0<rv d) (hm:d.m<2^1280) (he: -3000<=d.e) (he1:d.e<=3000) (h1:rv d≠1) (hp:4<=p) (hp2:p<=9000000000000) (hk:k<=p) (hj:j<=p)
  (hend:(Ea.cf (Ea.qP (ie d.m) (d.m+du d.m) p) p k).h<=1) (hend2:(Ea.cf (Ea.qP 1 3 p) p j).h<=1):BR (im (rv d)) p (lJ d.m d.e p k j) (lG d.m d.e p k j):=by
 obtain⟨hn,hm0⟩:=oU h0;have hv:rv d=(d.m:Rat)*tw d.e:=by unfold rv D.sm;rw[hn];rfl
 have hN:=Qu hm0 hm he he1;obtain⟨b1,b2⟩:=Pe (e:=d.e) hm0 hp hk hj hend hend2 hN;obtain⟨o1,o2⟩:=P_ (e:=d.e) hm0 hp hk hj hend hend2;rw[<-hv]at o1;refine⟨p+24+1,by omega,b1.2.1,b2.2.1,by omega,by omega,by omega,by omega,sy b1.1,sy b2.1,o1.1,o1.2,fun hpp mode=>?_⟩;have hw:=Vy hk hj hN hpp (by omega)
 have w0:0<=((10+6*k+(10+6*j)*(dP d.m d.e).natAbs:Nat):Rat)/2^p:=by
  rw[Ea.eB (Ea.two_pos p),fS];exact df
 have hA:rv d<=tw ((4280:Nat):Int):=by
  rw[hv];have h2:(d.m:Rat)<=tw ((1280:Nat):Int):=by rw[Ea.bN,<-Ea.c_];exact cL.2 (gn hm)
  have h1:=aV h2 (aJ (Ea.db d.e));rw[<-Ea.fM]at h1;exact cI h1 (Ea.dH (by omega))
 exact xC ((im (rv d)).le _ _ o1.1 o1.2) (fun i=>fun hh=>Ea.Sj o1 o2 hw w0 hA (PF h0 hm he he1 h1 i) hh.1 hh.2) mode
open Go.RowKit Nt Fm Fl
open Ea (PB)
theorem yq (f:Nat) (hf:f=205\/f=208\/f=231) (c:gj) (c0:Nat) (d:D) (mode:Int) (w:World) (hT:aQ w) (hd:GD w c0 d) (m0:0<=mode) (m1:mode<=4)
  (hcl:∀(p:Nat) (w':World),256<=p->p<=2*PB->aQ w'->GD w' c0 d->Calls prog f #[.int .i64 (p:Int),.pointer (some ⟨c0,0,none⟩)] w' fun r w''=>∃C E,nM w' C E r w''/\BR c p C E):
  Calls prog 204 #[.int .i64 mode,.func (.func f) #[] #[.pointer (some ⟨c0,0,none⟩)]] w fun r w'=>∃a,Rn c mode a/\r=.returned (.tuple #[.int .u64 a,.bool true,.int .i64 0])/\Below w.heap.size w w':=by
 have hlt:c0<w.heap.size:=hd.lt;have hPB:PB=4398500000000:=rfl;have CL:=hid hcl;have HT:=hid hT;have HD:=hid hd;have B0:=hid (Below.refl w.heap.size w);clear hcl hT hd;obtain⟨B,hB⟩:∃B:Nat,B=2*PB:=⟨_,rfl⟩;have hB2:B=8797000000000:=by rw[hB];rfl
 rw[<-hB]at CL;have hPB2:PB+PB=B:=by omega
 clear hB;rcases hf with rfl|rfl|rfl
 all_goals
  go_enter func204,ntmps204;go_wp2_with fail
  go_loopw [7] (fun i wr=>∃Q:Nat,i=.int .i64 (Q:Int)/\256<=Q/\Q<=B/\Hid (GD wr c0 d)/\Hid (Below w.heap.size w wr))
   (fun i _=>B+1-(intOf i).toNat)
  case atStart=>exact⟨256,rfl,ae _,by omega,HD,B0⟩
  case round=>
   obtain⟨Q,rfl,q1,q2,gD,hbel⟩:=hrel;clear HD B0;go_wp2_with fail
   refine(CL.out Q _ q1 q2 (HT.out.below hbel.out) gD.out).mono ?_;rintro r w1 ⟨C,E,⟨u1,u2,rfl,hu1,hu2,hb1⟩,hbr⟩;obtain⟨K,k1,k2,k3,k4,k5,k6,k7,k8,k9,k10,k11,k12⟩:=hbr;have NUC:=hid (fun v w' hd=>kS v C K mode w' hd k2 k1 k4 k5 k8 m0 m1);have NUE:=hid (fun v w' hd=>kS v E K mode w' hd k3 k1 k6 k7 k9 m0 m1);have RES:Hid (aE C mode=aE E mode->aU C=true->aU E=true->Rn c mode (aE C mode)):=hid (fun e1 e2 e3=>⟨C,E,k10,k11,rfl,e1.symm,e2,e3⟩);have MET:Hid (PB<=Q->aE C mode=aE E mode/\aU C=true/\aU E=true):=hid (fun h=>k12 h mode);clear k1 k2 k3 k4 k5 k6 k7 k8 k9 k10 k11 k12;obtain⟨e1,f1,g1,rfl,hv1⟩:=hu1.parts;obtain⟨e2,f2,g2,rfl,hv2⟩:=hu2.parts;have B1:=af hbel.out le0 hb1;have D1:=gD.out.below hb1;obtain⟨V1,hV1⟩:∃V,V=((w1.alloc (.cells #[.bool C.neg,.slice e1 f1 g1,.int .i64 C.e] 68)).alloc (.cells #[.bool E.neg,.slice e2 f2 g2,.int .i64 E.e] 68)):=⟨_,rfl⟩;have gD1:=hid (show GD V1 c0 d from by rw[hV1];exact(D1.alloc _).alloc _);have BB1:=hid (show Below w.heap.size w V1 from by rw[hV1];exact(B1.alloc B1.size _).alloc (by have :=B1.size;simp;omega) _);have XE:=hid (show ax V1 (w1.heap.size+1) 68 (.bool E.neg) (.slice e2 f2 g2) (.int .i64 E.e) from by rw[hV1];exact ax.new2 w1 _ _ _ _ _);have NC:=hid (show NV V1 (.slice e1 f1 g1) C.m from by rw[hV1];exact(hv1.alloc _).alloc _);have NE:=hid (show NV V1 (.slice e2 f2 g2) E.m from by rw[hV1];exact(hv2.alloc _).alloc _);obtain⟨b8,hb8⟩:∃b8,b8=w1.heap.size:=⟨_,rfl⟩;rw[<-hb8]at XE;generalize aE C mode=A at *;generalize aE E mode=F at *;generalize aU C=cC at *
   generalize aU E=cE at *;clear hu1 hu2 hb1 hv1 hv2 B1 D1 gD hbel CL;go_wp2_with fail
   rw[<-hV1,<-hb8];clear hV1 hb8;refine(NUC.out _ _ ⟨_,rfl,NC.out⟩).mono ?_;rintro r w2 ⟨rfl,hb2⟩;have BB2:=bt0 BB1 hb2;have gD2:=hid (gD1.out.below hb2);have XE2:=hid (XE.out.below hb2);have NE2:=hid (NE.out.below hb2);obtain⟨j0,j1,j2,-,-,-⟩:=XE2.out.cells;clear hb2 gD1 BB1 XE NC NE NUC;go_wp2_with fail
   clear j0 j1 j2;refine(NUE.out _ _ ⟨_,rfl,NE2.out⟩).mono ?_;rintro r w3 ⟨rfl,hb3⟩;have BB3:=bt0 BB2 hb3;have gD3:=hid (gD2.out.below hb3);clear hb3 gD2 BB2 XE2 NE2 NUE
   have hcase:(A=F/\cC=true/\cE=true)\/(Q<PB/\((A==F)=false\/(A=F/\(cC=false\/(cC=true/\cE=false))))):=by
    by_cases hz:A=F/\cC=true/\cE=true
    .exact Or.inl hz
    .right
     refine⟨Nat.lt_of_not_le fun h=>hz (MET.out h),?_⟩;by_cases ha:A=F
     .right;refine⟨ha,?_⟩
      cases cC
      .exact Or.inl rfl
      .right;refine⟨rfl,?_⟩
       cases cE
       .rfl
       .exact absurd ⟨ha,rfl,rfl⟩ hz
     .left;rw[aH];exact ha
   rcases hcase with⟨rfl,rfl,rfl⟩|⟨hQlt,h|⟨rfl,rfl|⟨rfl,rfl⟩⟩⟩
   .have hr:=hid (RES.out rfl rfl rfl)
    clear RES MET;go_wp2_with fail
    go_ret3;exact⟨_,hr.out,rfl,BB3.out⟩
   all_goals
    clear RES MET;go_wp2_with fail
    go_roundw
    case rel=>exact⟨Q*2,by simp,by omega,by omega,gD3,BB3⟩
    case measure=>simp [intOf];omega
open Go.RowKit Nt Fm
open Ea (Pr cD nE qP cf aZ tw PB)
theorem Xg (c0:Nat) (d:D) (s p:Nat) (w:World) (hT:aQ w) (hd:GD w c0 d) (hm0:d.m≠0) (hm:d.m<2^1280) (he: -19000<=d.e) (he1:d.e<=20000) (hx:(d.m:Rat)*tw d.e<=2048)
  (hs:(s:Int)=max 0 (aC d.m+d.e+16)) (hs1:s<=27) (q0:256<=p) (q1:p<=2*PB):
  Calls prog 205 #[.int .i64 (p:Int),.pointer (some ⟨c0,0,none⟩)] w fun r w''=>∃C E,nM w C E r w''/\BR (jq (rv d)) p C E:=by
 have hPB:PB=4398500000000:=rfl;obtain⟨a1,n1,c1,hBx,hNv⟩:=hd;have EB:=hid (fun P w' (hP:P=((p+1600:Nat):Int)) ht hv=>Mv (.agg #[.bool d.neg,.slice a1 n1 c1,.int .i64 d.e]) d 1280 (p+1600) s P w' ht ⟨_,rfl,hv⟩ hP hm (by omega) (by omega) (by omega) (by omega) (by omega) hs hs1);have BRE:=hid (fun k (hk:k<=p+1600) hend=>Lj (p:=p) (Q:=p+1600) (k:=k) hm0 hm he hx hs hs1 (by omega) (by omega) (by omega) hk hend);have q2:p<=9000000000000:=by omega
 have HB:=hid hBx;have HN:=hid hNv;have HT:=hid hT;have hlt:c0<w.heap.size:=hBx.lt;have L1:=hid ((GD.nil w).alloc (.cells #[.bool false,.slice none 0 0,.int .i64 0] 68));have M1:=hid (GD.nil2 w (.cells #[.bool false,.slice none 0 0,.int .i64 0] 68));have X1:=hid ((HB.out.alloc (.cells #[.bool false,.slice none 0 0,.int .i64 0] 68)).alloc (.cells #[.bool false,.slice none 0 0,.int .i64 0] 68));obtain⟨z90,z91,z92,-,-,-⟩:=X1.out.cells;clear hBx hNv hT hm hs hx hm0 he he1;go_enter func205,ntmps205;go_wp2_with fail
 refine(EB.out ((p:Int)+1600) _ (by omega) (HT.out.below (gL _ _ _)) (HN.out.below (gL _ _ _))).mono ?_;rintro r w1 ⟨k,hk,hend,u1,u2,rfl,hu1,hu2,hb1⟩;obtain⟨C,hC⟩:∃C,C=norm false (fT d.neg d.m d.e (p+1600) k s).l (-((p+1600:Nat):Int)):=⟨_,rfl⟩;obtain⟨E,hE⟩:∃E,E=norm false (fT d.neg d.m d.e (p+1600) k s).h (-((p+1600:Nat):Int)):=⟨_,rfl⟩;rw[<-hC]at hu1;rw[<-hE]at hu2;obtain⟨e1,f1,g1,rfl,hv1⟩:=hu1.parts;obtain⟨e2,f2,g2,rfl,hv2⟩:=hu2.parts;have hbr:=BRE.out k hk hend;rw[<-hC,<-hE]at hbr;have HK:=hid hbr;have B1:=hid (af (gL w _ _) le0 hb1);have L2:=hid (L1.out.below hb1);have M2:=hid (M1.out.below hb1);have N1:=hid hv1;have N2:=hid hv2;clear hu1 hu2 hv1 hv2 hb1 hk hend hC hE z90 z91 z92 L1 M1 X1 HB HN hbr BRE EB;obtain⟨_,_,_,z0,z1,z2,z3,z4,z5⟩:=L2.out.cells;obtain⟨_,_,_,y0,y1,y2,y3,y4,y5⟩:=L2.out.two M2.out (by omega) (.bool C.neg) (.slice e1 f1 g1) (.int .i64 C.e);go_wp2_with fail
 clear z0 z1 z2 z3 z4 z5 y0 y1 y2 y3 y4 y5;obtain⟨h1,h2,h3,h4,h5,h6⟩:=yT (V:=w) B1.out L2.out M2.out (by omega) le0 (by omega) N1.out N2.out;obtain⟨W,hW⟩:∃W,W=((((((w1.setCell ⟨w.heap.size,0,none⟩ (.bool C.neg)).setCell ⟨w.heap.size,1,none⟩ (.slice e1 f1 g1)).setCell ⟨w.heap.size,2,none⟩ (.int .i64 C.e)).setCell ⟨w.heap.size+1,0,none⟩ (.bool E.neg)).setCell ⟨w.heap.size+1,1,none⟩ (.slice e2 f2 g2)).setCell ⟨w.heap.size+1,2,none⟩ (.int .i64 E.e)):=⟨_,rfl⟩;rw[<-hW]at h4 h5 h6 ⊢;clear hW;obtain⟨i1,i2,i3,hi,hin⟩:=h5;obtain⟨j1,j2,j3,hj,hjn⟩:=h6;have HIN:=hid hin;have HJN:=hid hjn;have BW:=hid h4;obtain⟨s0,s1,s2,-,-,-⟩:=hi.cells;obtain⟨r0,r1,r2,-,-,-⟩:=hj.cells;clear hi hj hin hjn h4;refine bodyPost_ret (v:= .tuple #[.agg #[.bool C.neg,.slice i1 i2 i3,.int .i64 C.e],.agg #[.bool E.neg,.slice j1 j2 j3,.int .i64 E.e]]) (by simp [results,Tryz.results205,go_sem,s0,s1,s2,r0,r1,r2]) rfl ?_;exact⟨C,E,⟨_,_,rfl,⟨_,rfl,HIN.out⟩,⟨_,rfl,HJN.out⟩,BW.out⟩,HK.out⟩
theorem XG (c0:Nat) (d:D) (p:Nat) (w:World) (hT:aQ w) (hd:GD w c0 d) (h0:0<rv d) (hm:d.m<2^1280) (he: -3000<=d.e) (he1:d.e<=3000) (h1:rv d≠1) (q0:256<=p) (q1:p<=2*PB):
  Calls prog 231 #[.int .i64 (p:Int),.pointer (some ⟨c0,0,none⟩)] w fun r w''=>∃C E,nM w C E r w''/\BR (im (rv d)) p C E:=by
 have hPB:PB=4398500000000:=rfl;obtain⟨-,hm0⟩:=oU h0;obtain⟨a1,n1,c1,hBx,hNv⟩:=hd;have EB:=hid (fun w' ht hv=>Ws (.agg #[.bool d.neg,.slice a1 n1 c1,.int .i64 d.e]) d.neg d.m 1280 p d.e p w' ht ⟨_,rfl,hv⟩ rfl hm hm0 (by omega) (by omega) (by omega) (by omega) (by omega));have BRL:=hid (fun k j (hk:k<=p) (hj:j<=p) hend hend2=>NF (d:=d) (p:=p) (k:=k) (j:=j) h0 hm he he1 h1 (by omega) (by omega) hk hj hend hend2);have HB:=hid hBx;have HN:=hid hNv;have HT:=hid hT;have hlt:c0<w.heap.size:=hBx.lt;have L1:=hid ((GD.nil w).alloc (.cells #[.bool false,.slice none 0 0,.int .i64 0] 68));have M1:=hid (GD.nil2 w (.cells #[.bool false,.slice none 0 0,.int .i64 0] 68));have X1:=hid ((HB.out.alloc (.cells #[.bool false,.slice none 0 0,.int .i64 0] 68)).alloc (.cells #[.bool false,.slice none 0 0,.int .i64 0] 68));obtain⟨z90,z91,z92,-,-,-⟩:=X1.out.cells;clear hBx hNv hT hm hm0 h0 h1 he he1;go_enter func231,ntmps231;go_wp2_with fail
 refine(EB.out _ (HT.out.below (gL _ _ _)) (HN.out.below (gL _ _ _))).mono ?_;rintro r w1 ⟨k,j,hk,hj',hend,hend2,u1,u2,rfl,hu1,hu2,hb1⟩;obtain⟨C,hC⟩:∃C,C=lJ d.m d.e p k j:=⟨_,rfl⟩;obtain⟨E,hE⟩:∃E,E=lG d.m d.e p k j:=⟨_,rfl⟩;rw[<-hC]at hu1;rw[<-hE]at hu2;obtain⟨e1,f1,g1,rfl,hv1⟩:=hu1.parts;obtain⟨e2,f2,g2,rfl,hv2⟩:=hu2.parts;have hbr:=BRL.out k j hk hj' hend hend2;rw[<-hC,<-hE]at hbr;have HK:=hid hbr;have B1:=hid (af (gL w _ _) le0 hb1);have L2:=hid (L1.out.below hb1);have M2:=hid (M1.out.below hb1);have N1:=hid hv1;have N2:=hid hv2;clear hu1 hu2 hv1 hv2 hb1 hk hj' hend hend2 hC hE z90 z91 z92 L1 M1 X1 HB HN hbr BRL EB;obtain⟨_,_,_,z0,z1,z2,z3,z4,z5⟩:=L2.out.cells;obtain⟨_,_,_,y0,y1,y2,y3,y4,y5⟩:=L2.out.two M2.out (by omega) (.bool C.neg) (.slice e1 f1 g1) (.int .i64 C.e);go_wp2_with fail
 clear z0 z1 z2 z3 z4 z5 y0 y1 y2 y3 y4 y5;obtain⟨h1,h2,h3,h4,h5,h6⟩:=yT (V:=w) B1.out L2.out M2.out (by omega) le0 (by omega) N1.out N2.out;obtain⟨W,hW⟩:∃W,W=((((((w1.setCell ⟨w.heap.size,0,none⟩ (.bool C.neg)).setCell ⟨w.heap.size,1,none⟩ (.slice e1 f1 g1)).setCell ⟨w.heap.size,2,none⟩ (.int .i64 C.e)).setCell ⟨w.heap.size+1,0,none⟩ (.bool E.neg)).setCell ⟨w.heap.size+1,1,none⟩ (.slice e2 f2 g2)).setCell ⟨w.heap.size+1,2,none⟩ (.int .i64 E.e)):=⟨_,rfl⟩;rw[<-hW]at h4 h5 h6 ⊢;clear hW;obtain⟨i1,i2,i3,hi,hin⟩:=h5;obtain⟨j1,j2,j3,hj,hjn⟩:=h6;have HIN:=hid hin;have HJN:=hid hjn;have BW:=hid h4;obtain⟨s0,s1,s2,-,-,-⟩:=hi.cells;obtain⟨r0,r1,r2,-,-,-⟩:=hj.cells;clear hi hj hin hjn h4;refine bodyPost_ret (v:= .tuple #[.agg #[.bool C.neg,.slice i1 i2 i3,.int .i64 C.e],.agg #[.bool E.neg,.slice j1 j2 j3,.int .i64 E.e]]) (by simp [results,Tryz.results231,go_sem,s0,s1,s2,r0,r1,r2]) rfl ?_;exact⟨C,E,⟨_,_,rfl,⟨_,rfl,HIN.out⟩,⟨_,rfl,HJN.out⟩,BW.out⟩,HK.out⟩
open Go.RowKit Nt Fm
theorem yJ (w:World) (hT:aQ w):Calls prog 200 #[] w (iR w (norm false 1 0)):=by
 have O1:=hid (fun w'=>dU 1 (by omega) (by omega) w');have N1:=hid (fun va w' ht ha=>iU false va 1 1 0 w' ht ha (by decide) (by omega) (by omega) (by omega));have Z0:=hid (GD.nil w);have B0:=hid ((Below.refl w.heap.size w).alloc le0 (.cells #[.bool false,.slice none 0 0,.int .i64 0] 68));obtain⟨R,hR⟩:∃R,R=norm false 1 0:=⟨_,rfl⟩;rw[<-hR]at N1 ⊢;have HT:=hid hT;clear hR hT;go_enter func200,ntmps200;go_wp2_with fail
 refine(O1.out _).mono ?_;rintro r w1 ⟨v1,rfl,hv1,hb1⟩;have B1:=bt0 B0 hb1;have Z1:=hid (Z0.out.below hb1);have V1:=hid hv1;clear hv1 hb1 B0 Z0;go_wp2_with fail
 refine(N1.out _ _ (HT.out.below B1.out) V1.out).mono ?_;rintro r w2 ⟨v2,rfl,hu2,hb2⟩;obtain⟨e1,f1,g1,rfl,hv2⟩:=hu2.parts;have B2:=bt0 B1 hb2;have Z2:=hid (Z1.out.below hb2);have V2:=hid hv2;clear hu2 hv2 hb2 B1 Z1 V1;obtain⟨_,_,_,z0,z1,z2,z3,z4,z5⟩:=Z2.out.cells;go_wp2_with fail
 clear z0 z1 z2 z3 z4 z5;obtain⟨r1,r2,r3,hr,hrn⟩:=Z2.out.put (e:=R) V2.out;have HR:=hid hrn;obtain⟨s0,s1,s2,-,-,-⟩:=hr.cells;clear hr hrn;refine bodyPost_ret (v:= .agg #[.bool R.neg,.slice r1 r2 r3,.int .i64 R.e]) (by simp [results,Tryz.results200,go_sem,s0,s1,s2]) rfl ?_;exact⟨_,rfl,⟨_,rfl,HR.out⟩,cJ B2.out le0 _ _ _⟩
theorem GP (neg:Bool) (w:World):Calls prog 203 #[.bool neg] w (iR w ⟨neg,1,2000⟩):=by
 have O1:=hid (fun w'=>dU 1 (by omega) (by omega) w');have Z0:=hid (GD.nil w);have B0:=hid ((Below.refl w.heap.size w).alloc le0 (.cells #[.bool false,.slice none 0 0,.int .i64 0] 68));obtain⟨R,hR⟩:∃R:D,R=⟨neg,1,2000⟩:=⟨_,rfl⟩;have h1:R.neg=neg:=by rw[hR]
 have h2:R.m=1:=by rw[hR]
 have h3:R.e=2000:=by rw[hR]
 rw[<-hR];clear hR;have HR:=hid (show(R.neg=neg/\R.m=1/\R.e=2000)/\True from⟨⟨h1,h2,h3⟩,trivial⟩);clear h1 h2 h3;go_enter func203,ntmps203;go_wp2_with fail
 refine(O1.out _).mono ?_;rintro r w1 ⟨v1,rfl,hv1,hb1⟩;have B1:=bt0 B0 hb1;have Z1:=hid (Z0.out.below hb1);obtain⟨e1,f1,g1,rfl⟩:=hv1.shape;have V1:=hid (show NV w1 (.slice e1 f1 g1) R.m by rw[HR.out.1.2.1];exact hv1);clear hv1 hb1 B0 Z0;obtain⟨_,_,_,z0,z1,z2,z3,z4,z5⟩:=Z1.out.cells;go_wp2_with fail
 clear z0 z1 z2 z3 z4 z5;obtain⟨r1,r2,r3,hr,hrn⟩:=Z1.out.put (e:=R) V1.out;rw[HR.out.1.1,HR.out.1.2.2]at hr hrn;have HN:=hid hrn;obtain⟨s0,s1,s2,-,-,-⟩:=hr.cells;clear hr hrn;refine bodyPost_ret (v:= .agg #[.bool neg,.slice r1 r2 r3,.int .i64 2000]) (by simp [results,Tryz.results203,go_sem,s0,s1,s2]) rfl ?_;refine⟨_,rfl,⟨_,by rw[HR.out.1.1,HR.out.1.2.2],HN.out⟩,cJ B1.out le0 _ _ _⟩
theorem Yf (w:World):Calls prog 202 #[] w (iR w ⟨false,1,-2000⟩):=by
 have O1:=hid (fun w'=>dU 1 (by omega) (by omega) w');have Z0:=hid (GD.nil w);have B0:=hid ((Below.refl w.heap.size w).alloc le0 (.cells #[.bool false,.slice none 0 0,.int .i64 0] 68));obtain⟨R,hR⟩:∃R:D,R=⟨false,1,-2000⟩:=⟨_,rfl⟩;have h1:R.neg=false:=by rw[hR]
 have h2:R.m=1:=by rw[hR]
 have h3:R.e= -2000:=by rw[hR]
 rw[<-hR];clear hR;have HR:=hid (show(R.neg=false/\R.m=1/\R.e= -2000)/\True from⟨⟨h1,h2,h3⟩,trivial⟩);clear h1 h2 h3;go_enter func202,ntmps202;go_wp2_with fail
 refine(O1.out _).mono ?_;rintro r w1 ⟨v1,rfl,hv1,hb1⟩;have B1:=bt0 B0 hb1;have Z1:=hid (Z0.out.below hb1);obtain⟨e1,f1,g1,rfl⟩:=hv1.shape;have V1:=hid (show NV w1 (.slice e1 f1 g1) R.m by rw[HR.out.1.2.1];exact hv1);clear hv1 hb1 B0 Z0;obtain⟨_,_,_,z0,z1,z2,z3,z4,z5⟩:=Z1.out.cells;go_wp2_with fail
 clear z0 z1 z2 z3 z4 z5;obtain⟨r1,r2,r3,hr,hrn⟩:=Z1.out.put (e:=R) V1.out;rw[HR.out.1.1,HR.out.1.2.2]at hr hrn;have HN:=hid hrn;obtain⟨s0,s1,s2,-,-,-⟩:=hr.cells;clear hr hrn;refine bodyPost_ret (v:= .agg #[.bool false,.slice r1 r2 r3,.int .i64 (-2000)]) (by simp [results,Tryz.results202,go_sem,s0,s1,s2]) rfl ?_;refine⟨_,rfl,⟨_,by rw[HR.out.1.1,HR.out.1.2.2],HN.out⟩,cJ B1.out le0 _ _ _⟩
def eM (d:D):Int:=(aC d.m:Int)+d.e-1
theorem Ci (v:Value) (d:D) (w:World) (hd:DV w v d) (hm:d.m<2^1280) (e0: -20000<=d.e) (e1:d.e<=20000):
  Calls prog 197 #[v] w fun r w'=>r=.returned (.int .i64 (eM d))/\Below w.heap.size w w':=by
 obtain⟨a1,n1,c1,rfl,hv⟩:=hd.parts;have LN:=hid (fun w' hv=>lx (.slice a1 n1 c1) d.m 1280 w' hv hm (by omega));have hbl:aC d.m<=1280:=uB hm;have hL:eM d=(aC d.m:Int)+d.e-1:=rfl;rw[hL];clear hL hm;generalize aC d.m=L at *;have HV:=hid hv;have X0:=hid (ax.new w (.bool d.neg) (.slice a1 n1 c1) (.int .i64 d.e) 68);have B0:=hid ((Below.refl w.heap.size w).alloc le0 (.cells #[.bool d.neg,.slice a1 n1 c1,.int .i64 d.e] 68));clear hv;go_enter func197,ntmps197;go_wp2;go_quiet ((go_at_call 59;exact Io (LN.out _ (NV.drewN (NV.alloc HV.out _) _))))
 go_wp2;go_ret;exact⟨rfl,dh B0.out⟩
theorem rP (v:Value) (d:D) (k0:Nat) (mode:Int) (w:World) (hd:DV w v d) (hm:d.m<2^k0) (hk0:k0<=16000000000000) (e0: -16000000000000<=d.e) (e1:d.e<=16000000000000) (hz:d.m=0->d.e<=1000) (h0:0<=mode) (h1:mode<=4):
  Calls prog 198 #[v,.int .i64 mode] w fun e w'=>e=.returned (.tuple #[.int .u64 (aE d mode),.bool (aU d),.int .i64 0])/\Below w.heap.size w w':=by
 obtain⟨a1,n1,c1,rfl,hv⟩:=hd.parts;have NU:=hid (fun v w' hd=>kS v d k0 mode w' hd hm hk0 e0 e1 hz h0 h1);have HV:=hid hv;generalize aE d mode=A at *;generalize aU d=C at *;clear hv hm hz;go_enter func198,ntmps198;go_wp2_with fail
 refine(NU.out _ _ ⟨_,rfl,HV.out.alloc _⟩).mono ?_;rintro r w1 ⟨rfl,hb1⟩;have B1:=hid (af ((Below.refl w.heap.size w).alloc le0 (.cells #[.bool d.neg,.slice a1 n1 c1,.int .i64 d.e] 68)) le0 hb1);clear hb1;go_wp2;go_ret3;exact⟨rfl,B1.out⟩
open Go.RowKit Nt Fm Fl
open Ea (tw PB Lo Hi)
theorem X' {k t T T' n:Nat}(h:T<=T') (hA:∀n,¬(T<=aw n*2^t/\aw n*2^t<=T')) (hB:∀n,¬(2*T<=(aw n+aw (n+1))*2^t/\(aw n+aw (n+1))*2^t<=2*T')) (hp:Pk k t T' n):Pk k t T n:=by
 have a:=hA n;have b:=hA (n-1);rcases fl n with h0|h0
 .subst h0
  rcases k with _|_|_|k <;> simp [Pk,kv]
 .have c:=hB (n-1)
  rw[show n-1+1=n by omega]at c;rcases k with _|_|_|k <;> simp only[Pk]at * <;> omega
theorem Yb {t m m':Nat}{e e':Int}(ht:0<=e+1074+t) (ht':0<=e'+1074+t) (h:tt t m e<=tt t m' e') (hA:∀n,¬(tt t m e<=aw n*2^t/\aw n*2^t<=tt t m' e'))
  (hB:∀n,¬(2*tt t m e<=(aw n+aw (n+1))*2^t/\(aw n+aw (n+1))*2^t<=2*tt t m' e')) (k:Nat):dw k m e=dw k m' e'/\fF m e=true/\fF m' e'=true:=by
 refine⟨pC (s' ht ht' k h) ((lI ht k _).2 (X' h hA hB ((lI ht' k _).1 le0))),?_,?_⟩
 .cases hc:fF m e
  .obtain⟨r,-,h2⟩:=(nD ht).1 hc
   have :=hA r;omega
  .rfl
 .cases hc:fF m' e'
  .obtain⟨r,-,h2⟩:=(nD ht').1 hc
   have :=hA r;omega
  .rfl
theorem Sm (r:Nat):aw (r+1)<=18014398509481984*jK r:=by
 have h1:=K6 r;have h2:=sC r;have h3:=Cu r;omega
theorem FL {r t T T':Nat}(h0:aw r*2^t<T) (h:T<=T') (h1:(T' -aw r*2^t)*2^56<=aw r*2^t):
  (∀n,¬(T<=aw n*2^t/\aw n*2^t<=T'))/\(∀n,¬(2*T<=(aw n+aw (n+1))*2^t/\(aw n+aw (n+1))*2^t<=2*T')):=by
 have hw:=az t;have m1:=K6 r;have m2:=sC r;have smono:∀ {x y:Nat},x<=y->aw x*2^t<=aw y*2^t:=fun h=>bR _ (k_ h)
 have e1:aw (r+1)*2^t=aw r*2^t+jK r*2^t:=by rw[m2,a_]
 have e2:=cS m1 hw;rw[aF]at e2;have key:2*T' <aw r*2^t+aw (r+1)*2^t:=by omega
 constructor
 .rintro n ⟨a,b⟩
  rcases eJ r n with hn|hn
  .have :=smono (show r+1<=n by omega);omega
  .have :=smono hn;omega
 .rintro n ⟨a,b⟩
  rw[a_]at a b;rcases eJ n r with hn|hn
  .have :=smono (show n<=r by omega)
   have :=smono (show n+1<=r by omega);omega
  .have :=smono hn
   have :=smono (show r+1<=n+1 by omega);omega
theorem IJ {r t T T':Nat}(h0:T' <aw r*2^t) (h:T<=T') (h1:(aw r*2^t-T)*2^56<=aw r*2^t):
  (∀n,¬(T<=aw n*2^t/\aw n*2^t<=T'))/\(∀n,¬(2*T<=(aw n+aw (n+1))*2^t/\(aw n+aw (n+1))*2^t<=2*T')):=by
 have hw:=az t;rcases fl r with hr|hr
 .subst hr
  rw[kv]at h0;omega
 obtain⟨s,rfl⟩:∃s,r=s+1:=⟨r-1,by omega⟩;have m1:=Sm s;have m2:=sC s;have smono:∀ {x y:Nat},x<=y->aw x*2^t<=aw y*2^t:=fun h=>bR _ (k_ h)
 have e1:aw (s+1)*2^t=aw s*2^t+jK s*2^t:=by rw[m2,a_]
 have e2:=bR (2^t) m1;rw[aF]at e2;have hu:0<jK s*2^t:=fm (Cu s) hw;have key:aw s*2^t+aw (s+1)*2^t<2*T:=by omega
 constructor
 .rintro n ⟨a,b⟩
  rcases eJ s n with hn|hn
  .have :=smono (show s+1<=n by omega);omega
  .have :=smono hn;omega
 .rintro n ⟨a,b⟩
  rw[a_]at a b;rcases eJ s n with hn|hn
  .have :=smono (show s+1<=n by omega)
   have :=smono (show s+1<=n+1 by omega);omega
  .have :=smono hn
   have :=smono (show n+1<=s+1 by omega);omega
theorem zA {d:D}{t:Nat}(h:0<=d.e+1074+t):(rv d).abs*2^(1074+t)=((tt t d.m d.e:Nat):Rat):=by
 have a:=oV d (T:=1074+t) (by omega);have sd:d.vl (1074+t)=if d.neg then -((tt t d.m d.e:Nat):Int) else((tt t d.m d.e:Nat):Int):=by rw[<-uI];rfl
 have hP:=Ea.two_pos (1074+t);have hn:=df (a:=tt t d.m d.e);rw[sd]at a;cases hg:d.neg
 .rw[hg]at a
  simp only[ga,e9]at a
  have h0:0<=rv d:=by
   refine fw.1 fun e=>?_
   have :=(xE e).1;rw[hg]at this;cases this
  rw[l9 h0,a];rfl
 .rw[hg]at a
  simp only[cQ]at a
  have h0:rv d<=0:=by
   refine fw.1 fun e=>?_
   have :=(oU e).1;rw[hg]at this;cases this
  rw[wE h0,Fw,a,Af,wD];rfl
theorem yO {z y:D}{t:Nat}(h1:0<=z.e+1074+t) (h2:0<=y.e+1074+t) (hn:z.neg=y.neg) (h:tt t z.m z.e<=tt t y.m y.e) (hA:∀n,¬(tt t z.m z.e<=aw n*2^t/\aw n*2^t<=tt t y.m y.e))
  (hB:∀n,¬(2*tt t z.m z.e<=(aw n+aw (n+1))*2^t/\(aw n+aw (n+1))*2^t<=2*tt t y.m y.e)) (mode:Int):aE z mode=aE y mode/\aU z=true/\aU y=true:=by
 have key:=Yb h1 h2 h hA hB (kd z.neg mode);unfold aE aU;rw[<-hn,key.1];exact⟨rfl,key.2⟩
theorem yI {z:D}(h:0<rv z):z.neg=false:=(oU h).1
theorem yB {z:D}(h:rv z<0):z.neg=true:=(xE h).1
theorem yQ {x:Int}(x0:0<=x) (x1:x<=18446744073709551615) (hx:ay x<9218868437227405312) {z y:D}(mode:Int)
  (h:(rv (ai x)<rv z/\rv z<=rv y/\(rv y-rv (ai x))*2^56<=(rv (ai x)).abs)\/(rv y<rv (ai x)/\rv z<=rv y/\(rv (ai x)-rv z)*2^56<=(rv (ai x)).abs)):aE z mode=aE y mode/\aU z=true/\aU y=true:=by
 obtain⟨t,g1,g2,g3⟩:=Ti ((ai x).e+1074) (z.e+1074) (y.e+1074);have hP:=Ea.two_pos (1074+t);have a:=zA g1;have b:=zA g2;have c:=zA g3
 have hm:tt t (ai x).m (ai x).e=aw (ay x).toNat*2^t:=by
  rcases yk x x0 x1 t with h|h
  .exact h
  .omega
 rw[hm]at a;generalize (ay x).toNat=r at *;generalize rv (ai x)=d at *
 have lt:∀ {p q:Rat}{i j:Nat},p*2^(1074+t)=(i:Rat)->q*2^(1074+t)=(j:Rat)->p<q->i<j:=fun hp hq h=>by
  have :=oe h hP;rw[hp,hq]at this;exact OD.1 this
 have le:∀ {p q:Rat}{i j:Nat},p*2^(1074+t)=(i:Rat)->q*2^(1074+t)=(j:Rat)->p<=q->i<=j:=fun hp hq h=>by
  have :=aV h (aJ hP);rw[hp,hq]at this;exact cL.1 this
 have fr:∀ {p q:Rat}{i j:Nat},p*2^(1074+t)=(i:Rat)->q*2^(1074+t)=(j:Rat)->q<=p->(p-q)*2^56<=q->(i-j)*2^56<=j:=fun {p q i j} hp hq hle h=>by
  have h1:=le hq hp hle;have h2:=aV h (aJ hP)
  have h3:(p-q)*2^56*2^(1074+t)=(((i-j)*2^56:Nat):Rat):=by
   obtain⟨k,rfl⟩:∃k,i=j+k:=⟨i-j,by omega⟩;rw[E5,ft,Ea.c_];rw[dW]at hp;generalize (2:Rat)^(1074+t)=P at *;generalize (2:Rat)^56=U at *;grind
  rw[h3,hq]at h2;exact cL.1 h2
 have fr2:∀ {p q:Rat}{i j:Nat},p*2^(1074+t)=(i:Rat)->q*2^(1074+t)=(j:Rat)->p<=q->(q-p)*2^56<=q->(j-i)*2^56<=j:=fun {p q i j} hp hq hle h=>by
  have h1:=le hp hq hle;have h2:=aV h (aJ hP)
  have h3:(q-p)*2^56*2^(1074+t)=(((j-i)*2^56:Nat):Rat):=by
   obtain⟨k,rfl⟩:∃k,j=i+k:=⟨j-i,by omega⟩;rw[E5,ft,Ea.c_];rw[dW]at hq;generalize (2:Rat)^(1074+t)=P at *;generalize (2:Rat)^56=U at *;grind
  rw[h3,hq]at h2;exact cL.1 h2
 have p56:(1:Rat)<2^56:=by decide+kernel
 have half:∀u v:Rat,u*2^56<=v->0<v->u<v:=fun u v h hv=>by
  refine kY.1 fun e=>?_
  have :=aV e (show(0:Rat)<=2^56 by decide+kernel);have :=uu p56 hv;grind
 rcases h_ (a:=0) (b:=d) with hd|hd
 .rw[l9 hd]at a h
  rcases h with⟨h1,h2,h3⟩|⟨h1,h2,h3⟩
  .have pz:0<rv z:=by grind
   have py:0<rv y:=by grind
   rw[l9 (aJ pz)]at b;rw[l9 (aJ py)]at c;obtain⟨k1,k2⟩:=FL (r:=r) (t:=t) (lt a b h1) (le b c h2) (fr c a (by grind) h3);exact yO g2 g3 (by rw[yI pz,yI py]) (le b c h2) k1 k2 mode
  .have pd:0<d:=by
    refine kY.1 fun e=>?_
    have d0:d=0:=by grind
    have u1:=iJ (show 0<d-rv z by grind) (show(0:Rat)<2^56 by decide+kernel);grind
   have pz:0<rv z:=by have :=half _ _ h3 pd;grind
   have py:0<rv y:=by grind
   rw[l9 (aJ pz)]at b;rw[l9 (aJ py)]at c;obtain⟨k1,k2⟩:=IJ (r:=r) (t:=t) (lt c a h1) (le b c h2) (fr2 b a (by grind) h3);exact yO g2 g3 (by rw[yI pz,yI py]) (le b c h2) k1 k2 mode
 .rw[wE hd]at a h
  rcases h with⟨h1,h2,h3⟩|⟨h1,h2,h3⟩
  .have pd:0< -d:=by
    refine kY.1 fun e=>?_
    have d0:d=0:=by grind
    have u1:=iJ (show 0<rv y-d by grind) (show(0:Rat)<2^56 by decide+kernel);grind
   have py:rv y<0:=by have :=half _ _ h3 pd;grind
   have pz:rv z<0:=by grind
   rw[wE (aJ pz)]at b;rw[wE (aJ py)]at c;obtain⟨k1,k2⟩:=IJ (r:=r) (t:=t) (lt b a (by grind)) (le c b (by grind)) (fr2 c a (by grind) (by grind));have :=yO g3 g2 (by rw[yB pz,yB py]) (le c b (by grind)) k1 k2 mode;exact⟨this.1.symm,this.2.2,this.2.1⟩
  .have py:rv y<0:=by grind
   have pz:rv z<0:=by grind
   rw[wE (aJ pz)]at b;rw[wE (aJ py)]at c;obtain⟨k1,k2⟩:=FL (r:=r) (t:=t) (lt a c (by grind)) (le c b (by grind)) (fr b a (by grind) (by grind));have :=yO g3 g2 (by rw[yB pz,yB py]) (le c b (by grind)) k1 k2 mode;exact⟨this.1.symm,this.2.2,this.2.1⟩
theorem yy {z y:D}(mode:Int) (hz:tw ((1024:Nat):Int)<=rv z) (hy:tw ((1024:Nat):Int)<=rv y):aE z mode=aE y mode/\aU z=true/\aU y=true:=by
 have p:=Ea.db ((1024:Nat):Int)
 have aux:∀z:D,tw ((1024:Nat):Int)<=rv z->z.neg=false/\fF z.m z.e=true/\∀k,dw k z.m z.e=if k=0 then MR-1 else MR:=by
  intro z hz;have pz:0<rv z:=by grind
  obtain⟨hn,hm⟩:=oU pz;obtain⟨t,g1,-⟩:=ly (z.e+1074) (z.e+1074);have b:=zA g1;rw[l9 (aJ pz)]at b;have hP:=Ea.two_pos (1074+t);obtain⟨K,hK⟩:∃K,K=2046:=⟨_,rfl⟩;have hMR:MR=9218868437227405312:=rfl
  have hM:aw MR=2^(52+K):=by
   have h:=nT 4503599627370496 K (by omega) (by omega);have e:4503599627370496+K*4503599627370496=MR:=by omega
   have e52:(4503599627370496:Nat)=2^52:=by decide
   rw[e]at h;rw[h,aB,e52]
  have hT:aw MR*2^t<=tt t z.m z.e:=by
   have h1:=aV hz (aJ hP);rw[b,<-Ea.bN,<-Ea.fM]at h1
   have h2:tw (((1024:Nat):Int)+((1074+t:Nat):Int))=((aw MR*2^t:Nat):Rat):=by
    rw[hM,<-aB,Ea.c_,<-Ea.bN,show((1024:Nat):Int)+((1074+t:Nat):Int)=((52+K+t:Nat):Int) by omega]
   rw[h2]at h1;exact cL.1 h1
  have hw:=az t;have smono:∀ {x y:Nat},x<y->aw x*2^t<aw y*2^t:=fun h=>cS (nN h) hw
  refine⟨hn,?_,fun k=>?_⟩
  .cases hc:fF z.m z.e
   .obtain⟨r,h1,h2⟩:=(nD g1).1 hc
    have :=smono h1;omega
   .rfl
  .have hle:dw k z.m z.e<=if k=0 then MR-1 else MR:=by
    by_cases hk:k=0
    .subst hk
     have :=(lI g1 0 _).1 (ae (dw 0 z.m z.e));simp only[Pk]at this;rw[aj rfl];exact this.1
    .rw[ag hk]
     exact nB k z.m z.e
   refine pC hle ((lI g1 k _).2 ?_);have s1:=smono (show MR-1<MR by omega);rcases k with _|_|_|k <;> simp only[Pk] <;> simp <;> (try rw[a_]) <;> omega
 obtain⟨a1,a2,a3⟩:=aux z hz;obtain⟨b1,b2,b3⟩:=aux y hy;unfold aE aU;rw[a1,b1,a3,b3];exact⟨rfl,a2,b2⟩
theorem Gr {z y:D}(mode:Int) (hz:0<rv z) (hz1:rv z<tw (-1075)) (hy:0<rv y) (hy1:rv y<tw (-1075)):aE z mode=aE y mode/\aU z=true/\aU y=true:=by
 have key:∀(z y:D),0<rv z->rv y<tw (-1075)->rv z<=rv y->aE z mode=aE y mode/\aU z=true/\aU y=true:=by
  intro z y h1 h2 h3;refine xC h3 (fun j=>?_) mode;rintro⟨a,b⟩;have p:=Ea.db (-1075)
  have j0:0<j:=by
   refine Int.not_le.1 fun e=>?_
   have :=Ea.qg (aJ p) e;have e0:((0:Int):Rat)=0:=rfl;rw[e0,fS]at this;grind
  have :=Ea.qg (aJ p) (show 1<=j by omega);have e1:((1:Int):Rat)=1:=rfl;rw[e1,l8]at this;grind
 rcases h_ (a:=rv z) (b:=rv y) with h|h
 .exact key z y hz hy1 h
 .have :=key y z hy hz1 h
  exact⟨this.1.symm,this.2.2,this.2.1⟩
open Go.RowKit Nt Fm Fl
open Ea (tw PB Lo Hi)
theorem ve {d:D}(hm:d.m≠0):tw (eM d)<=(d.m:Rat)*tw d.e/\(d.m:Rat)*tw d.e<tw (eM d+1):=by
 have h1:2^(aC d.m-1)<=d.m:=oZ hm;have h2:d.m<2^aC d.m:=qo d.m;have h3:0<aC d.m:=nP hm;have ht:=Ea.db d.e;have g1:=aV (cL.2 h1) (aJ ht);have g2:=oe (OD.2 h2) ht;rw[Ea.c_,<-Ea.bN,<-Ea.fM]at g1 g2;unfold eM;rw[show((aC d.m-1:Nat):Int)+d.e=(aC d.m:Int)+d.e-1 by omega]at g1;rw[show(aC d.m:Int)+d.e-1+1=(aC d.m:Int)+d.e by omega];exact⟨g1,g2⟩
theorem uQ (d:D):(rv d).abs=(d.m:Rat)*tw d.e:=by
 have h0:=aN (df (a:=d.m)) (aJ (Ea.db d.e));obtain⟨g,m,e⟩:=d;cases g
 .rw[jd];exact l9 h0
 .rw[rb,Rat.abs_neg];exact l9 h0
theorem rT {d:D} :(d.neg=false->rv d=(d.m:Rat)*tw d.e)/\(d.neg=true->rv d= -((d.m:Rat)*tw d.e)):=by
 obtain⟨g,m,e⟩:=d;constructor
 .rintro rfl;exact jd
 .rintro rfl;exact rb
def jG (d:D) (k:Int):D:=⟨d.neg,d.m,d.e+k⟩
theorem rB (d:D) (k:Int):rv (jG d k)=rv d*tw k:=by
 unfold rv jG D.sm;rw[Ea.fM,iu]
def iP (k:Int):D:=⟨false,1,k⟩
theorem ph (k:Int):rv (iP k)=tw k:=by
 unfold iP;rw[jd];have :((1:Nat):Rat)=1:=rfl;rw[this,l8]
theorem zg:rv (norm false 1 0)=1:=by rw[o0,jd,Ea.lC,fz];rfl
theorem Hs:rv (aO (norm false 1 0))= -1:=by rw[ta,zg]
theorem Gq:(2:Rat)^56=tw ((56:Nat):Int):=(Ea.bN 56).symm
theorem Rn.mk3 {c:gj}{mode:Int}{L z H:D}(h1:c.lb (rv L)) (h2:c.ub (rv H)) (a:aE L mode=aE z mode/\aU L=true/\aU z=true) (b:aE H mode=aE z mode/\aU H=true/\aU z=true):Rn c mode (aE z mode)/\aU z=true:=
 ⟨⟨L,H,h1,h2,a.1,b.1,a.2.1,b.2.1⟩,a.2.2⟩
def kf (d:Rat) (z:D):Prop:=d<rv z/\(rv z-d)*2^56<=d.abs
def lP (d:Rat) (z:D):Prop:=rv z<d/\(d-rv z)*2^56<=d.abs
theorem xn {x:Int}(x0:0<=x) (x1:x<=18446744073709551615) (hx:ay x<9218868437227405312) {z y:D}(mode:Int) (hz:kf (rv (ai x)) z) (hy:kf (rv (ai x)) y):aE z mode=aE y mode/\aU z=true/\aU y=true:=by
 rcases h_ (a:=rv z) (b:=rv y) with h|h
 .exact yQ x0 x1 hx mode (Or.inl ⟨hz.1,h,hy.2⟩)
 .have :=yQ x0 x1 hx mode (Or.inl ⟨hy.1,h,hz.2⟩)
  exact⟨this.1.symm,this.2.2,this.2.1⟩
theorem As {x:Int}(x0:0<=x) (x1:x<=18446744073709551615) (hx:ay x<9218868437227405312) {z y:D}(mode:Int) (hz:lP (rv (ai x)) z) (hy:lP (rv (ai x)) y):aE z mode=aE y mode/\aU z=true/\aU y=true:=by
 rcases h_ (a:=rv z) (b:=rv y) with h|h
 .exact yQ x0 x1 hx mode (Or.inr ⟨hy.1,h,hz.2⟩)
 .have :=yQ x0 x1 hx mode (Or.inr ⟨hz.1,h,hy.2⟩)
  exact⟨this.1.symm,this.2.2,this.2.1⟩
theorem Ia {d:D}(hm:d.m≠0):rv (cW d 1)=rv d+tw (d.e-64)/\rv (cW d (-1))=rv d-tw (d.e-64):=by
 have e:tw d.e=tw (d.e-64)*((2^64:Nat):Rat):=by rw[Ea.c_,<-Ea.bN,<-Ea.fM];congr 1;omega
 have hs:1<=d.m*2^64:=by omega
 have e1:((1:Nat):Rat)=1:=rfl;have c1:((d.m*2^64+1:Nat):Rat)=(d.m:Rat)*((2^64:Nat):Rat)+1:=by rw[dW,ft,e1]
 have c2:((d.m*2^64-1:Nat):Rat)=(d.m:Rat)*((2^64:Nat):Rat)-1:=by
  obtain⟨k,hk⟩:∃k,d.m*2^64=k+1:=⟨d.m*2^64-1,by omega⟩;have h1:((d.m*2^64:Nat):Rat)=((k+1:Nat):Rat):=by rw[hk]
  rw[ft,dW]at h1;rw[hk,kX];rw[e1]at h1;grind
 generalize ((2^64:Nat):Rat)=U at *;obtain⟨g,m,x⟩:=d;simp only at *;unfold cW;rw[ag (by decide),ag (by simpa using hm),ag (by decide),ag (by simpa using hm)];cases g
 .have b1:gB false m 1=m*2^64+1:=by unfold gB;rw[aj (by decide)]
  have b2:gB false m (-1)=m*2^64-1:=by unfold gB;rw[ag (by decide)]
  simp only[b1,b2];rw[jd,jd,jd,c1,c2,e];generalize tw (x-64)=t at *;grind
 .have b1:gB true m 1=m*2^64-1:=by unfold gB;rw[ag (by decide)]
  have b2:gB true m (-1)=m*2^64+1:=by unfold gB;rw[aj (by decide)]
  simp only[b1,b2];rw[rb,rb,rb,c1,c2,e];generalize tw (x-64)=t at *;grind
theorem Nv {d:D}(hm:d.m≠0):tw (d.e-64)*2^56<=(rv d).abs:=by
 rw[uQ,Gq,<-Ea.fM];have h1:=Ea.dH (show d.e-64+((56:Nat):Int)<=d.e by omega);have hm1:(1:Rat)<=(d.m:Rat):=cL.2 (show 1<=d.m by omega);have h2:=aV hm1 (aJ (Ea.db d.e));grind
theorem Ee {d:D}(hm:d.m≠0):kf (rv d) (cW d 1):=by
 have h1:=(Ia hm).1;have h2:=Nv hm;have h3:=Ea.db (d.e-64);unfold kf;rw[h1];have e:rv d+tw (d.e-64)-rv d=tw (d.e-64):=by grind
 rw[e];exact⟨by grind,h2⟩
theorem Jv {d:D}(hm:d.m≠0):lP (rv d) (cW d (-1)):=by
 have h1:=(Ia hm).2;have h2:=Nv hm;have h3:=Ea.db (d.e-64);unfold lP;rw[h1];have e:rv d-(rv d-tw (d.e-64))=tw (d.e-64):=by grind
 rw[e];exact⟨by grind,h2⟩
theorem Gl {x:Rat}(h: -1<=x):Lo x (1+x+x*x/4):=by
 have h1:=Ea.iy (x/2);have hx:x/2*2=x:=bM (by decide);have hq:x*x/4*4=x*x:=bM (by decide)
 have h2:0<=1+x/2:=by
  generalize x/2=y at *;grind
 have h3:=Ea.pI (a:=1+x/2) (b:=1+x/2) h2 h2 (h1.le (by grind)) (h1.le (by grind));have e1:x/2+x/2=x:=by generalize x/2=y at *;grind
 rw[e1]at h3;refine h3.le ?_;generalize x*x/4=z at *;generalize x/2=y at *;subst hx;have hz:z=y*y:=by grind
 rw[hz];grind
theorem Kd {x:Rat}(h0: -1<=x) (h1:4*x<=1):Hi x (1+x+x*x):=by
 have hx:x/2*2=x:=bM (by decide);generalize hy:x/2=y at *;have p:0<1-y:=by grind
 have h2:=Ea.xD (x:=y) (by grind);have h3:=Ea.tu h2 h2;have e1:y+y=x:=by grind
 rw[e1]at h3;refine h3.le ?_;have hu:=Ea.nK p;generalize 1/(1-y)=u at *;have pp:0<(1-y)*(1-y):=iJ p p;refine iw (c:=(1-y)*(1-y)) ?_ pp;have e2:u*u*((1-y)*(1-y))=(u*(1-y))*(u*(1-y)):=by grind
 rw[e2,hu];have ex:x=2*y:=by grind
 subst ex
 have q1:=aN (show 0<=y*y by rcases h_ (a:=0) (b:=y) with h|h
                             .exact aN h h
                             .have :=aN (show 0<= -y by grind) (show 0<= -y by grind)
                              grind) (show 0<=1-6*y+4*(y*y) by
  rcases h_ (a:=0) (b:=y) with h|h
  .have :=aN h h
   have :=aN (show 0<=1-8*y by grind) h;grind
  .have :=aN (show 0<= -y by grind) (show 0<= -y by grind)
   grind)
 grind
open Go.RowKit Nt Fm Fl
open Ea (tw PB Lo Hi)
theorem val_one:ai 4607182418800017408=norm false 1 0:=by kernel_rfl
theorem Jj:ai 13830554455654793216=aO (norm false 1 0):=by kernel_rfl
theorem Ml {d:D}(hm:d.m≠0) (h:d.neg=false):sign d=1:=by unfold sign;rw[ag hm,h];rfl
theorem FV {d:D}(hm:d.m≠0) (h:d.neg=true):sign d= -1:=by unfold sign;rw[ag hm,h];rfl
theorem WH:tw (-60)*2^60=1:=by
 have e:(2:Rat)^60=tw ((60:Nat):Int):=(Ea.bN 60).symm;rw[e,l7];exact Ea.Aj ((60:Nat):Int)
theorem BJ {d:D}(hm:d.m≠0) (ht:eM d< -60):0<(d.m:Rat)*tw d.e/\(d.m:Rat)*tw d.e*2^60<=1:=by
 obtain⟨h1,h2⟩:=ve hm;have h3:=Ea.dH (show eM d+1<= -60 by omega);have h4:=Ea.db (eM d);refine⟨by grind,?_⟩;rw[<-WH];exact aV (by grind) (by decide+kernel)
theorem p60:(2:Rat)^60=2^56*16:=by decide+kernel
theorem af8 {d:D}(hm:d.m≠0) (ht:eM d< -60) (mode:Int):Rn (jq (rv d)) mode (aE (cW (norm false 1 0) (sign d)) mode)/\aU (cW (norm false 1 0) (sign d))=true:=by
 obtain⟨x0,x1⟩:=BJ hm ht;rw[p60]at x1;have c56:(0:Rat)<2^56:=by decide+kernel
 have k56:(16:Rat)<2^56:=by decide+kernel
 have hO:(norm false 1 0).m≠0:=by decide+kernel
 have ab1:(1:Rat).abs=1:=l9 (by decide);have hr:=zg;have vv:=val_one;generalize hU:(2:Rat)^56=U at *
 have x2:256*((d.m:Rat)*tw d.e)<=1:=by
  have :=uu k56 x0;grind
 cases hg:d.neg
 .have hv:=(rT (d:=d)).1 hg
  rw[Ml hm hg];have z:=Ee hO;rw[hr]at z
  have L:kf 1 (plus (norm false 1 0) d):=by
   unfold kf;rw[hU,ib,hr,ab1,hv];grind
  have H:kf 1 (plus (norm false 1 0) (jG d 1)):=by
   unfold kf;rw[hU,ib,hr,ab1,rB,hv];have :tw 1=2:=by have :=Ea.bN 1;rw[uw]at this;exact this
   rw[this];grind
  have a:=xn (x:=4607182418800017408) (by decide) (by decide) (by decide) mode (by rw[vv,hr];exact L) (by rw[vv,hr];exact z);have b:=xn (x:=4607182418800017408) (by decide) (by decide) (by decide) mode (by rw[vv,hr];exact H) (by rw[vv,hr];exact z);refine Rn.mk3 (L:=plus (norm false 1 0) d) (H:=plus (norm false 1 0) (jG d 1)) ?_ ?_ a b
  .show Lo (rv d) _
   rw[ib,hr];exact Ea.iy _
  .show Hi (rv d) _
   rw[ib,hr,rB,hv];have t1:tw 1=2:=by have :=Ea.bN 1;rw[uw]at this;exact this
   rw[t1];generalize (d.m:Rat)*tw d.e=x at *;have hx:2*x<=1:=by grind
   refine(Ea.xD (x:=x) (by grind)).le ?_;rw[Ea.lD (by grind)];have :=aN (aJ x0) (show 0<=1-2*x by grind);grind
 .have hv:=(rT (d:=d)).2 hg
  rw[FV hm hg];have z:=Jv hO;rw[hr]at z;have th:tw (-1)*2=1:=by have :=Ea.kF 0;rw[Ea.lC]at this;exact this
  have L:lP 1 (plus (norm false 1 0) d):=by
   unfold lP;rw[hU,ib,hr,ab1,hv];grind
  have H:lP 1 (plus (norm false 1 0) (jG d (-1))):=by
   unfold lP;rw[hU,ib,hr,ab1,rB,hv];generalize (d.m:Rat)*tw d.e=x at *;generalize tw (-1)=h at *;have :h=1/2:=by grind
   have e2: -x*h*2= -x:=by grind
   generalize hy: -x*h=y at *;constructor
   .grind
   .have :(1-(1+y))*U*2=x*U:=by grind
    grind
  have a:=As (x:=4607182418800017408) (by decide) (by decide) (by decide) mode (by rw[vv,hr];exact L) (by rw[vv,hr];exact z);have b:=As (x:=4607182418800017408) (by decide) (by decide) (by decide) mode (by rw[vv,hr];exact H) (by rw[vv,hr];exact z);refine Rn.mk3 (L:=plus (norm false 1 0) d) (H:=plus (norm false 1 0) (jG d (-1))) ?_ ?_ a b
  .show Lo (rv d) _
   rw[ib,hr];exact Ea.iy _
  .show Hi (rv d) _
   rw[ib,hr,rB,hv];generalize (d.m:Rat)*tw d.e=x at *;have hx:2*x<=1:=by grind
   have h1:=Ea.lf (show 0<1+x by grind) (Ea.iy x);refine h1.le ?_;rw[Ea.lD (by grind)];generalize tw (-1)=h at *;have e2: -x*h*2= -x:=by grind
   generalize -x*h=y at *;have hxy:x= -(2*y):=by grind
   rw[hxy]at x0 hx ⊢;have :=aN (aJ x0) (show 0<=1-2* -(2*y) by grind);have :=aN (show 0<= -y by grind) (show 0<= -y by grind);grind
theorem JE {x:Rat}(h:1024<=x):Lo x (tw ((1190:Nat):Int)):=by
 have h1:=Ea.sN (x:=6) (y:=128) (by decide+kernel) Ea.Eo 170;have e1:((170:Nat):Rat)*6=1020:=by decide+kernel
 have e2:(128:Rat)^170=tw ((1190:Nat):Int):=by
  rw[Ea.bN];have :(128:Rat)=2^7:=by decide+kernel
  rw[this,Ea.oh]
 rw[e1,e2]at h1;exact Ea.sx h1 (by grind)
theorem Zd {x:Rat}(h:x<= -1024):Hi x (tw (-((1190:Nat):Int))):=by
 have h1:=Ea.lf (Ea.db _) (JE (x:= -x) (by grind));rw[Ea.vj,wD]at h1;exact h1
theorem CS {d:D}(hm:d.m≠0) (k:Nat) (ht:(k:Int)<=eM d):2^k<=(d.m:Rat)*tw d.e:=by
 obtain⟨h1,h2⟩:=ve hm;have h3:=Ea.dH ht;rw[Ea.bN]at h3;exact cI h3 h1
theorem Jn {d:D}(hm:d.m≠0) (hg:d.neg=true) (ht:10<=eM d) (mode:Int):Rn (jq (rv d)) mode (aE ⟨false,1,-2000⟩ mode)/\aU ⟨false,1,-2000⟩=true:=by
 have h1:=CS hm 10 ht;have e10:(2:Rat)^10=1024:=by decide+kernel
 rw[e10]at h1;have hv:=(rT (d:=d)).2 hg;obtain⟨n,hn⟩:=Ea.q_ ((d.m:Rat)*tw d.e)
 have n1:1024<=n:=by
  have :((1024:Nat):Rat)<=(n:Rat):=by
   have e:((1024:Nat):Rat)=1024:=rfl;rw[e];grind
  exact cL.1 this
 have q:∀k:Int,k<= -1076->0<rv (iP k)/\rv (iP k)<tw (-1075):=fun k hk=>by
  rw[ph];refine⟨Ea.db _,?_⟩;have a:=Ea.dH hk;have b:=Ea.kF (-1075);rw[show(-1075:Int)-1= -1076 by decide]at b;have c:=Ea.db (-1076);grind
 obtain⟨z1,z2⟩:=q (-2000) (by decide);obtain⟨l1,l2⟩:=q (-((2*n:Nat):Int)) (by omega);obtain⟨u1,u2⟩:=q (-((1190:Nat):Int)) (by omega);refine Rn.mk3 (z:=iP (-2000)) (L:=iP (-((2*n:Nat):Int))) (H:=iP (-((1190:Nat):Int))) ?_ ?_ (Gr mode l1 l2 z1 z2) (Gr mode u1 u2 z1 z2)
 .show Lo (rv d) _
  rw[ph];exact Ea.Du (by rw[hv];grind)
 .show Hi (rv d) _
  rw[ph];exact Zd (by rw[hv];grind)
theorem xL {d:D}(hm:d.m≠0) (hg:d.neg=false) (ht:10<=eM d) (mode:Int):(Rn (jq (rv d)) mode (aE ⟨false,1,2000⟩ mode)/\aU ⟨false,1,2000⟩=true)/\Rn (iL (rv d)) mode (aE ⟨false,1,2000⟩ mode):=by
 have h1:=CS hm 10 ht;have e10:(2:Rat)^10=1024:=by decide+kernel
 rw[e10]at h1;have hv:=(rT (d:=d)).1 hg;obtain⟨n,hn⟩:=Ea.q_ ((d.m:Rat)*tw d.e)
 have n1:1024<=n:=by
  have :((1024:Nat):Rat)<=(n:Rat):=by
   have e:((1024:Nat):Rat)=1024:=rfl;rw[e];grind
  exact cL.1 this
 have q:∀k:Int,1024<=k->tw ((1024:Nat):Int)<=rv (iP k):=fun k hk=>by
  rw[ph];exact Ea.dH (by omega)
 have z1:=q 2000 (by decide);have l1:=q ((1189:Nat):Int) (by omega);have u1:=q ((2*n:Nat):Int) (by omega);have hlo:Lo (rv d) (tw ((1190:Nat):Int)):=JE (by rw[hv];exact h1);have hhi:Hi (rv d) (tw ((2*n:Nat):Int)):=Ea.Eh (by rw[hv];exact hn);have h2:=Ea.y_ ((1189:Nat):Int);have h3:=Ea.dH (show(0:Int)<=((1189:Nat):Int) by omega);rw[Ea.lC]at h3;rw[show((1189:Nat):Int)+1=((1190:Nat):Int) by omega]at h2;have r1:=ph ((1189:Nat):Int);have r2:=ph ((2*n:Nat):Int);refine⟨Rn.mk3 (z:=iP 2000) (L:=iP ((1189:Nat):Int)) (H:=iP ((2*n:Nat):Int)) ?_ ?_ (yy mode l1 z1) (yy mode u1 z1),(Rn.mk3 (z:=iP 2000) (L:=iP ((1189:Nat):Int)) (H:=iP ((2*n:Nat):Int)) ?_ ?_ (yy mode l1 z1) (yy mode u1 z1)).1⟩
 .show Lo (rv d) _
  rw[r1];exact hlo.le (by grind)
 .show Hi (rv d) _
  rw[r2];exact hhi
 .show Lo (rv d) (_+1)
  rw[r1];exact hlo.le (by grind)
 .show Hi (rv d) (_+1)
  rw[r2];exact hhi.le (by grind)
open Go.RowKit Nt Fm Fl
open Ea (tw PB Lo Hi)
theorem KZ:tw (-2)*4=1:=by
 have a:=Ea.kF 0;have b:=Ea.kF (-1);rw[Ea.lC]at a;rw[show(0:Int)-1= -1 by decide]at a;rw[show(-1:Int)-1= -2 by decide]at b;grind
theorem WK:tw (-3)*8=1:=by
 have a:=KZ;have b:=Ea.kF (-2);rw[show(-2:Int)-1= -3 by decide]at b;grind
theorem Uy:tw 1=2:=by have :=Ea.bN 1;rw[uw]at this;exact this
theorem zu (d:D):rv (times d d)=rv d*rv d:=P8 d d
theorem J0 {x a U:Rat}(hx:x=a\/x= -a) (a0:0<a) (h:a*(U*16)<=1) (hU:0<U):0<x*x/\x*x*(U*16)<=a:=by
 have e:x*x=a*a:=by rcases hx with h|h <;> rw[h] <;> grind
 rw[e];refine⟨iJ a0 a0,?_⟩;have :=cH h (aJ a0);grind
theorem G8 (d:D):rv d=(d.m:Rat)*tw d.e\/rv d= -((d.m:Rat)*tw d.e):=by
 cases hg:d.neg
 .exact Or.inl ((rT (d:=d)).1 hg)
 .exact Or.inr ((rT (d:=d)).2 hg)
theorem YI {x:Int}(x0:0<=x) (x1:x<=18446744073709551615) (hx:ay x<9218868437227405312) (hm:(ai x).m≠0) (ht:eM (ai x)< -60) (mode:Int):
  Rn (iL (rv (ai x))) mode (aE (cW (ai x) 1) mode)/\aU (cW (ai x) 1)=true:=by
 obtain⟨a0,a1⟩:=BJ hm ht;rw[p60]at a1;have hc:=G8 (ai x);have hab:=uQ (ai x);have z:=Ee hm;have key:=fun y h=>xn (z:=y) x0 x1 hx mode h z
 have k56:(16:Rat)<2^56:=by decide+kernel
 generalize ai x=d at *;have rL:rv (plus d (jG (times d d) (-2)))=rv d+rv d*rv d*tw (-2):=by rw[ib,rB,zu]
 have rH:rv (plus d (times d d))=rv d+rv d*rv d:=by rw[ib,zu]
 have t2:=KZ;have hk:=J0 hc a0 a1 (by grind)
 have x2:256*((d.m:Rat)*tw d.e)<=1:=by
  have :=uu k56 a0;grind
 have bd: -1<=rv d/\4*rv d<=1:=by rcases hc with h|h <;> rw[h] <;> constructor <;> grind
 have L:kf (rv d) (plus d (jG (times d d) (-2))):=by
  unfold kf;rw[rL,hab];generalize (d.m:Rat)*tw d.e=a at *;generalize rv d=x at *;generalize (2:Rat)^56=U at *;generalize tw (-2)=q at *;obtain⟨k1,k2⟩:=hk;have hz:x*x*q*4=x*x:=by grind
  generalize x*x=s at *;generalize s*q=v at *;constructor
  .grind
  .have :(x+v-x)*U*4=s*U:=by grind
   grind
 have H:kf (rv d) (plus d (times d d)):=by
  unfold kf;rw[rH,hab];generalize (d.m:Rat)*tw d.e=a at *;generalize rv d=x at *;generalize (2:Rat)^56=U at *;obtain⟨k1,k2⟩:=hk;generalize x*x=s at *;have :0<s*U:=iJ k1 (by grind);constructor
  .grind
  .have :(x+s-x)*U=s*U:=by grind
   grind
 refine Rn.mk3 (L:=plus d (jG (times d d) (-2))) (H:=plus d (times d d)) ?_ ?_ (key _ L) (key _ H)
 .show Lo (rv d) (_+1)
  rw[rL];refine(Gl bd.1).le ?_;have hq:rv d*rv d/4*4=rv d*rv d:=bM (by decide);generalize rv d*rv d/4=w at *;generalize rv d*rv d=s at *;generalize tw (-2)=q at *;have :s*q*4=s:=by grind
  generalize s*q=v at *;grind
 .show Hi (rv d) (_+1)
  rw[rH];exact(Kd bd.1 bd.2).le (by grind)
theorem LL {x:Int}(x0:0<=x) (x1:x<=18446744073709551615) (hx:ay x<9218868437227405312) (hm:(ai x).m≠0) (ht:eM (ai x)< -60) (mode:Int):
  Rn (im (1+rv (ai x))) mode (aE (cW (ai x) (-1)) mode)/\aU (cW (ai x) (-1))=true:=by
 obtain⟨a0,a1⟩:=BJ hm ht;rw[p60]at a1;have hc:=G8 (ai x);have hab:=uQ (ai x);have z:=Jv hm;have key:=fun y h=>As (z:=y) x0 x1 hx mode h z
 have k56:(16:Rat)<2^56:=by decide+kernel
 generalize ai x=d at *;have rL:rv (plus d (aO (jG (times d d) 1)))=rv d-rv d*rv d*2:=by rw[ib,ta,rB,zu,Uy];grind
 have rH:rv (plus d (aO (jG (times d d) (-3))))=rv d-rv d*rv d*tw (-3):=by rw[ib,ta,rB,zu];grind
 have t3:=WK;have hk:=J0 hc a0 a1 (by grind)
 have x2:256*((d.m:Rat)*tw d.e)<=1:=by
  have :=uu k56 a0;grind
 have hsq:256*(rv d*rv d)<=(d.m:Rat)*tw d.e:=by
  obtain⟨k1,k2⟩:=hk;have :=uu k56 k1;generalize rv d*rv d=s at *;grind
 have bd: -1<=256*rv d/\256*rv d<=1:=by rcases hc with h|h <;> rw[h] <;> constructor <;> grind
 have L:lP (rv d) (plus d (aO (jG (times d d) 1))):=by
  unfold lP;rw[rL,hab];generalize (d.m:Rat)*tw d.e=a at *;generalize rv d=x at *;generalize (2:Rat)^56=U at *;obtain⟨k1,k2⟩:=hk;generalize x*x=s at *;have :0<s*U:=iJ k1 (by grind);constructor
  .grind
  .have :(x-(x-s*2))*U=s*U*2:=by grind
   grind
 have H:lP (rv d) (plus d (aO (jG (times d d) (-3)))):=by
  unfold lP;rw[rH,hab];generalize (d.m:Rat)*tw d.e=a at *;generalize rv d=x at *;generalize (2:Rat)^56=U at *;generalize tw (-3)=q at *;obtain⟨k1,k2⟩:=hk;have hz:x*x*q*8=x*x:=by grind
  generalize x*x=s at *;generalize s*q=v at *;have :0<s*U:=iJ k1 (by grind);constructor
  .grind
  .have :(x-(x-v))*U*8=s*U:=by grind
   grind
 refine Rn.mk3 (L:=plus d (aO (jG (times d d) 1))) (H:=plus d (aO (jG (times d d) (-3)))) ?_ ?_ (key _ L) (key _ H)
 .show Hi _ (1+rv d)
  rw[rL];obtain⟨b1,b2⟩:=bd;generalize (d.m:Rat)*tw d.e=a at *;generalize rv d=x at *;have s0:=hk.1;have s1:256*(x*x)<=1:=by grind
  refine(Kd (x:=x-x*x*2) ?_ ?_).le ?_
  .grind
  .grind
  ·
   have h1:=aN (aJ s0) (show 0<=1+4*x-4*(x*x) by grind);grind
 .show Lo _ (1+rv d)
  rw[rH];obtain⟨b1,b2⟩:=bd;generalize (d.m:Rat)*tw d.e=a at *;generalize rv d=x at *;generalize tw (-3)=q at *;have s0:=hk.1;have s1:256*(x*x)<=1:=by grind
  have hz:x*x*q*8=x*x:=by grind
  have hu:∀y:Rat,y/4*4=y:=fun y=>bM (by decide)
  have hq:=hu ((x-x*x*q)*(x-x*x*q));refine(Gl (x:=x-x*x*q) ?_).le ?_
  .grind
  .generalize (x-x*x*q)*(x-x*x*q)/4=w at *
   have hv:x*x*q=x*x*(1/8):=by grind
   have h8:(1:Rat)/8*8=1:=bM (by decide);generalize (1:Rat)/8=e at *;have he:x*x*q=x*x*e:=hv;have h1:=aN (aJ s0) (show 0<=1-x by grind);have h2:=aN (aJ s0) (aJ s0);generalize hV:x*x*q=V at *;have e3:V*8=x*x:=hz;have e4:w*4=x*x-2*(x*V)+V*V:=by grind
   have e5:x*V*8=x*(x*x):=by grind
   have h3:0<=V*V:=by
    have :0<V:=by grind
    exact aN (aJ this) (aJ this)
   have h4:x*(x*x)<=x*x:=by grind
   grind
theorem Ge {d:D}(hm:d.m≠0) (hg:d.neg=true) (ht:6<=eM d) (mode:Int):Rn (iL (rv d)) mode (aE (cW (aO (norm false 1 0)) 1) mode)/\aU (cW (aO (norm false 1 0)) 1)=true:=by
 have h1:=CS hm 6 ht;have e6:(2:Rat)^6=64:=by decide+kernel
 rw[e6]at h1;have hv:=(rT (d:=d)).2 hg;obtain⟨n,hn⟩:=Ea.q_ ((d.m:Rat)*tw d.e)
 have n1:64<=n:=by
  have :((64:Nat):Rat)<=(n:Rat):=by
   have e:((64:Nat):Rat)=64:=rfl;rw[e];grind
  exact cL.1 this
 have hO:(aO (norm false 1 0)).m≠0:=by decide+kernel
 have hr:=Hs;have vv:=Jj;have z:=Ee hO;rw[hr]at z;have ab1:(-1:Rat).abs=1:=by rw[Rat.abs_neg];exact l9 (by decide)
 have q:∀k:Int,k<= -56->kf (-1) (plus (aO (norm false 1 0)) (iP k)):=fun k hk=>by
  unfold kf;rw[ib,hr,ph,ab1,Gq];have a:=Ea.db k;have b:=Ea.dH (show k+((56:Nat):Int)<=0 by omega);rw[Ea.lC,Ea.fM]at b;constructor <;> grind
 have key:=fun y h=>xn (x:=13830554455654793216) (z:=y) (y:=cW (aO (norm false 1 0)) 1) (by decide) (by decide) (by decide) mode (by rw[vv,hr];exact h) (by rw[vv,hr];exact z)
 have l60:Lo 60 (tw ((70:Nat):Int)):=by
  have h1:=Ea.sN (x:=6) (y:=128) (by decide+kernel) Ea.Eo 10;have e1:((10:Nat):Rat)*6=60:=by decide+kernel
  have e2:(128:Rat)^10=tw ((70:Nat):Int):=by
   rw[Ea.bN];have :(128:Rat)=2^7:=by decide+kernel
   rw[this,Ea.oh]
  rw[e1,e2]at h1;exact h1
 have h60:Hi (rv d) (tw (-((70:Nat):Int))):=by
  have h2:=Ea.lf (Ea.db _) l60;rw[Ea.vj]at h2;exact Ea.uK h2 (by rw[hv];grind)
 refine Rn.mk3 (L:=plus (aO (norm false 1 0)) (iP (-((2*n:Nat):Int)))) (H:=plus (aO (norm false 1 0)) (iP (-((70:Nat):Int)))) ?_ ?_ (key _ (q _ (by omega))) (key _ (q _ (by omega)))
 .show Lo (rv d) (_+1)
  rw[ib,hr,ph];exact(Ea.Du (x:=rv d) (n:=n) (by rw[hv];grind)).le (by grind)
 .show Hi (rv d) (_+1)
  rw[ib,hr,ph];exact h60.le (by grind)
open Go.RowKit Nt Fm Fl
open Ea (tw PB Lo Hi)
theorem Bl {c:gj}{p:Nat}{C E:D}(h:BR c p C E) (hp:PB<=p) (mode:Int):∃r,Rn c mode r:=by
 obtain⟨K,k1,k2,k3,k4,k5,k6,k7,k8,k9,k10,k11,k12⟩:=h;obtain⟨a,b,e⟩:=k12 hp mode;exact⟨aE C mode,C,E,k10,k11,rfl,a.symm,b,e⟩
theorem yb (d:D) (h:eM d<10):∃s:Nat,(s:Int)=max 0 ((aC d.m:Int)+d.e+16)/\s<=27:=by
 refine⟨(max 0 ((aC d.m:Int)+d.e+16)).toNat,by omega,?_⟩;unfold eM at h;omega
theorem yo {d:D}(hm:d.m≠0) (h:eM d<10):(d.m:Rat)*tw d.e<=2048:=by
 obtain⟨-,h2⟩:=ve hm;have h3:=Ea.dH (show eM d+1<=((10:Nat):Int) by omega);rw[Ea.bN]at h3;have e:(2:Rat)^10<=2048:=by decide+kernel
 grind
theorem M' {d:D}(hm0:d.m≠0) (hm:d.m<2^1280) (he: -19000<=d.e) (ht:eM d<10) (mode:Int):(∃r,Rn (jq (rv d)) mode r)/\∃r,Rn (iL (rv d)) mode r:=by
 obtain⟨s,hs,hs1⟩:=yb d ht;have hx:=yo hm0 ht;have hPB:PB=4398500000000:=rfl
 have hend:(Ea.bZ (Ea.dz d.m (d.e-s) PB) PB PB).h<=1:=by
  have h1:=(Ea.Cx (p:=PB) (e:=d.e-s) (tQ d.m) (show((aC d.m:Nat):Int)+(d.e-s)<= -16 by omega) (by omega)).1
  have h2:2*2^(PB-16)<=2^PB:=by
   have :2^PB=2^(PB-16)*2^16:=by rw[<-aB,Nat.sub_add_cancel (by omega)]
   rw[this];have :=az (PB-16);omega
  have h3:=Ea.wH (t:=Ea.dz d.m (d.e-s) PB) (p:=PB) (by omega) PB le0;rw[si,jT]at h3;exact h3
 exact⟨Bl (Lj (p:=PB) (Q:=PB) hm0 hm he hx hs hs1 (by omega) (by omega) le0 le0 hend) le0 mode,
  Bl (K3 (p:=PB) hm0 hm he hx hs hs1 (by omega) (by omega) le0 hend) le0 mode⟩
theorem Lv {d:D}(h0:0<rv d) (hm:d.m<2^1280) (he: -3000<=d.e) (he1:d.e<=3000) (h1:rv d≠1) (mode:Int):∃r,Rn (im (rv d)) mode r:=by
 have hPB:PB=4398500000000:=rfl;obtain⟨-,hm0⟩:=oU h0;obtain⟨O0,O3,-,-,-⟩:=ye hm0
 have fall:∀num den,0<den->3*num<=den->(Ea.cf (Ea.qP num den PB) PB PB).h<=1:=fun num den hd h=>by
  have h3:=Ea.yt (p:=PB) (Ea.BF (p:=PB) hd h (by omega)).1 PB le0;rw[si,jT]at h3;exact h3
 exact Bl (NF (p:=PB) h0 hm he he1 h1 (by omega) (by omega) le0 le0 (fall _ _ (by omega) O3) (fall 1 3 (by decide) (by decide))) le0 mode
def fk (x:Int):Prop:=0<=x/\x<=18446744073709551615/\ay x<9218868437227405312/\ay x≠0
theorem fk.m {x:Int}(h:fk x):(ai x).m≠0:=by
 obtain⟨x0,x1,h2,h3⟩:=h;have hb:=gV x;obtain⟨t,g1,-⟩:=ly ((ai x).e+1074) ((ai x).e+1074);intro e
 have h4:tt t (ai x).m (ai x).e=aw (ay x).toNat*2^t:=by
  rcases yk x x0 x1 t with h|h
  .exact h
  .omega
 have h5:tt t (ai x).m (ai x).e=0:=by unfold tt;rw[e,iq]
 rw[h5]at h4;have h6:=nN (show 0<(ay x).toNat by omega);rw[kv]at h6;have :=fm h6 (az t);omega
theorem fk.neg {x:Int}(h:fk x):(ai x).neg=di x:=(dR x h.1 h.2.1).2.2.2.2 h.m
theorem fk.bd {x:Int}(h:fk x):(ai x).m<2^1280/\ -1074<=(ai x).e/\(ai x).e<=1100/\(ai x).m<2^53:=by
 obtain⟨a,b,c,d,-⟩:=dR x h.1 h.2.1;exact⟨@l_ _ 53 1280 b (by decide),c,d,b⟩
theorem FE {x:Int}(h:fk x) (mode:Int):∃r,Rn (jq (rv (ai x))) mode r:=by
 have hm:=h.m;obtain⟨b1,b2,b3,-⟩:=h.bd;rcases jQ (eM (ai x)) 10 with ht|ht
 .exact(M' hm b1 (by omega) ht mode).1
 .cases hg:(ai x).neg
  .exact⟨_,(xL hm hg ht mode).1.1⟩
  .exact⟨_,(Jn hm hg ht mode).1⟩
theorem Yp {x:Int}(h:fk x) (mode:Int):∃r,Rn (iL (rv (ai x))) mode r:=by
 have hm:=h.m;obtain⟨b1,b2,b3,-⟩:=h.bd;rcases jQ (eM (ai x)) 10 with ht|ht
 .exact(M' hm b1 (by omega) ht mode).2
 .cases hg:(ai x).neg
  .exact⟨_,(xL hm hg ht mode).2⟩
  .exact⟨_,(Ge hm hg (by omega) mode).1⟩
theorem aa8 {x:Int}(h:fk x) (h0:0<rv (ai x)) (h1:rv (ai x)≠1) (mode:Int):∃r,Rn (im (rv (ai x))) mode r:=by
 obtain⟨b1,b2,b3,-⟩:=h.bd;exact Lv h0 b1 (by omega) (by omega) h1 mode
theorem MT (k l:Nat) (h:k<=l):2^k<=2^l:=aG (by decide) h
def mD (x:Int):D:=plus (ai x) (norm false 1 0)
theorem xb (x:Int):rv (mD x)=1+rv (ai x):=by unfold mD;rw[ib,zg];grind
theorem Na {x:Int}(h:fk x) (ht: -60<=eM (ai x)):(mD x).m<2^1280/\ -3000<=(mD x).e/\(mD x).e<=3000/\(mD x).Nf:=by
 obtain⟨b1,b2,b3,b4⟩:=h.bd;have hbl:aC (ai x).m<=53:=uB b4;have he: -112<=(ai x).e:=by unfold eM at ht;omega
 have e1:(norm false 1 0).e=0:=by decide+kernel
 have hv:((ai x).vl 112).natAbs<2^1265:=by
  rw[nI];have h1:2^((ai x).e+((112:Nat):Int)).toNat<=2^1212:=MT _ 1212 (by omega);have h2:=wm b4 h1 (az 1212);rw[<-aB 2 53 1212,show 53+1212=1265 from rfl]at h2;exact h2
 have v1:(norm false 1 0).vl 112=((2^112:Nat):Int):=by
  rw[j9 _ _ _ _ (by omega)];unfold D.vl D.sm;simp
 have hp:((mD x).vl 112).natAbs<2^1266:=by
  unfold mD;rw[qt _ _ _ (by omega) (by omega),v1];have h3:=MT 112 1265 (by decide);have h4:2^1266=2*2^1265:=by have :=bH (n:=2) (m:=1265);omega
  generalize 2^1265=A at *;generalize 2^1266=B at *;generalize 2^112=C at *;omega
 have :=sB (d:=mD x) (p:=112) (K:=1266) (mw _ _) (Da (by omega) (by omega)) hp;exact⟨@l_ _ 1266 1280 this.1 (by decide),by omega,by omega,mw _ _⟩
theorem Vs {x:Int}(h:fk x) (h0: -1<rv (ai x)) (mode:Int):∃r,Rn (im (1+rv (ai x))) mode r:=by
 rcases jQ (eM (ai x)) (-60) with ht|ht
 .exact⟨_,(LL h.1 h.2.1 h.2.2.1 h.m ht mode).1⟩
 .obtain⟨b1,b2,b3,-⟩:=Na h ht
  rw[<-xb];refine Lv (by rw[xb];grind) b1 b2 b3 ?_ mode;rw[xb];intro e;have hz:rv (ai x)=0:=by grind
  have hab:=uQ (ai x);rw[hz]at hab;have :=(ve h.m).1;have :=Ea.db (eM (ai x));have a0:(0:Rat).abs=0:=l9 (by decide);grind
noncomputable def fK (c:gj) (mode:Int):Int:=Classical.epsilon fun r=>Rn c mode r
theorem yv {c:gj}{mode r:Int}(h:Rn c mode r):fK c mode=r:=(z_ (p:=fun r=>Rn c mode r) ⟨r,h⟩).uniq h
theorem vG {c:gj}{mode:Int}(h:∃r,Rn c mode r):Rn c mode (fK c mode):=z_ (p:=fun r=>Rn c mode r) h
theorem Rn.bd {c:gj}{mode r:Int}(h:Rn c mode r):0<=r/\r<=18446744073709551615/\fe r=0:=by
 obtain⟨L,H,a1,a2,a3,a4,a5,a6⟩:=h;rw[<-a3];have h:=nB (kd L.neg mode) L.m L.e;have hMR:MR=9218868437227405312:=rfl;refine⟨?_,?_,(u_ L mode).2⟩
 .unfold aE;split <;> omega
 .unfold aE;split <;> omega
open Go.RowKit Nt Fm Fl
theorem DF (x:Int) (u0:0<=x) (u1:x<=18446744073709551615) (w:World) (hT:aQ w) {g:Bool}{m:Nat}{x2:Int}(hD:ai x=⟨g,m,x2⟩):
  Calls prog 79 #[.int .u64 x] w fun r w'=>∃a n c,r=.returned (.agg #[.bool g,.slice a n c,.int .i64 x2])/\NV w' (.slice a n c) m/\Below w.heap.size w w':=by
 refine(ia x u0 u1 w hT).mono ?_;rintro r w' ⟨v,rfl,hv,hb⟩;obtain⟨a,n,c,rfl,h2⟩:=hv.parts;rw[hD]at h2 ⊢;exact⟨a,n,c,rfl,h2,hb⟩
theorem qi {x:Int}(u0:0<=x) (u1:x<=18446744073709551615) (h5:ak x≠5) (h1:ak x≠1) (h4:ak x≠4):fk x:=by
 have hb:=gV x;unfold ak at h5 h1 h4;refine⟨u0,u1,?_,?_⟩ <;> (repeat' split at h5) <;> (repeat' split at h1) <;> (repeat' split at h4) <;> omega
theorem zm {x:Int}(h:fk x):ak x≠5/\ak x≠1/\ak x≠4:=by
 obtain⟨a,b,c,d⟩:=h;unfold ak;rw[ag d];by_cases h2:ay x<4503599627370496
 .rw[aj h2];decide
 .rw[ag h2,aj c];decide
theorem qs {x:Int}(u0:0<=x) (u1:x<=18446744073709551615) (h:ak x=4):x=9218868437227405312\/x=18442240474082181120:=by
 have hb:=gV x
 have :ay x=9218868437227405312:=by
  unfold ak at h
  (repeat' split at h) <;> omega
 unfold ay at this;omega
def dT (mode:Int):Int:=if aD mode then 0 else 1
noncomputable def jf (x mode:Int):Int:=
 if aD mode then(if ak x=5 then 9221120237041090560 else if ak x=1 then 4607182418800017408 else if x=9218868437227405312 then x else if x=18442240474082181120 then 0 else fK (jq (rv (ai x))) mode) else 0
def tr (x:Int):Bool:=decide (ay x<9218868437227405312/\ay x≠0)
def gU (x mode:Int):Bool:=aD mode && tr x
theorem CK {x:Int}(h:fk x):tr x=true:=fR ⟨h.2.2.1,h.2.2.2⟩
theorem oI {x:Int}(h:ak x=5\/ak x=1\/ak x=4):tr x=false:=by
 unfold tr;rw[jx];rintro⟨a,b⟩;unfold ak at h;rw[ag b]at h;by_cases h2:ay x<4503599627370496
 .rw[aj h2]at h;omega
 .rw[ag h2,aj a]at h;omega
theorem jY {mode:Int}(h:aD mode=true):dT mode=0:=by unfold dT;rw[h];rfl
theorem CJ {mode:Int}(h:aD mode=false):dT mode=1:=by unfold dT;rw[h];rfl
theorem zv {x mode:Int}(h:aD mode=false):jf x mode=0/\gU x mode=false/\dT mode=1:=by
 refine⟨?_,?_,CJ h⟩
 .unfold jf;rw[h];rfl
 .unfold gU;rw[h];rfl
theorem xt {x mode:Int}(h:aD mode=true) (h5:ak x=5):jf x mode=9221120237041090560/\gU x mode=false/\dT mode=0:=by
 refine⟨?_,?_,jY h⟩
 .unfold jf;rw[aj h,aj h5]
 .unfold gU;rw[h,oI (Or.inl h5)];rfl
theorem x_ {x mode:Int}(h:aD mode=true) (h1:ak x=1):jf x mode=4607182418800017408/\gU x mode=false/\dT mode=0:=by
 refine⟨?_,?_,jY h⟩
 .unfold jf;rw[aj h,ag (by omega),aj h1]
 .unfold gU;rw[h,oI (Or.inr (Or.inl h1))];rfl
theorem xA {mode:Int}(h:aD mode=true):jf 9218868437227405312 mode=9218868437227405312/\gU 9218868437227405312 mode=false/\dT mode=0:=by
 refine⟨?_,?_,jY h⟩
 .unfold jf;rw[aj h,ag (by decide),ag (by decide),aj rfl]
 .unfold gU;rw[h,oI (Or.inr (Or.inr (by decide)))];rfl
theorem yE {mode:Int}(h:aD mode=true):jf 18442240474082181120 mode=0/\gU 18442240474082181120 mode=false/\dT mode=0:=by
 refine⟨?_,?_,jY h⟩
 .unfold jf;rw[aj h,ag (by decide),ag (by decide),ag (by decide),aj rfl]
 .unfold gU;rw[h,oI (Or.inr (Or.inr (by decide)))];rfl
theorem yn {x mode:Int}(h:aD mode=true) (hf:fk x):jf x mode=fK (jq (rv (ai x))) mode/\gU x mode=true/\dT mode=0:=by
 obtain⟨a,b,c⟩:=zm hf;refine⟨?_,?_,jY h⟩
 .unfold jf
  rw[aj h,ag a,ag b,ag (by rintro rfl;exact c (by decide)),ag (by rintro rfl;exact c (by decide))]
 .unfold gU;rw[h,CK hf];rfl
theorem Xd {s:Int}(h:s=1\/s= -1):(cW (norm false 1 0) s).m<2^70/\ -16000000000000<=(cW (norm false 1 0) s).e/\(cW (norm false 1 0) s).e<=16000000000000/\(cW (norm false 1 0) s).m≠0:=by
 rcases h with rfl|rfl <;> decide+kernel
theorem Ue (x mode:Int) (w:World) (hT:aQ w) (u0:0<=x) (u1:x<=18446744073709551615) (p0: -9223372036854775808<=mode) (p1:mode<=9223372036854775807):
  Calls prog 151 #[.int .u64 x,.int .i64 mode] w fun r w'=>r=.returned (.tuple #[.int .u64 (jf x mode),.bool (gU x mode),.int .i64 (dT mode)])/\Below w.heap.size w w':=by
 have HT:=hid hT;have KN:=hid (fun w'=>dF mode w');have CL:=hid (fun w'=>fB x u0 u1 w');by_cases hk:aD mode=true
 case neg=>
  have hk':aD mode=false:=by simpa using hk
  rw[(zv (x:=x) hk').1,(zv (x:=x) hk').2.1,(zv (x:=x) hk').2.2];rw[hk']at KN;clear CL hT hk hk';go_enter func151,ntmps151;go_wp2_with (go_at_call 28;refine(KN.out _).mono ?_;rintro e w' ⟨rfl,rfl⟩)
  go_ret3;exact⟨rfl,Below.refl _ _⟩
 have hmode:0<=mode/\mode<=4:=by unfold aD at hk;exact gY hk
 rw[hk]at KN;by_cases h5:ak x=5
 .rw[(xt hk h5).1,(xt hk h5).2.1,(xt hk h5).2.2]
  rw[h5]at CL;clear hT hk h5;go_enter func151,ntmps151
  go_wp2_with (first
   |(go_at_call 28;refine(KN.out _).mono ?_;rintro e w' ⟨rfl,rfl⟩)
   |(go_at_call 8;refine(CL.out _).mono ?_;rintro e w' ⟨rfl,rfl⟩))
  go_ret3;exact⟨rfl,Below.refl _ _⟩
 by_cases h1:ak x=1
 .rw[(x_ hk h1).1,(x_ hk h1).2.1,(x_ hk h1).2.2]
  rw[h1]at CL;clear hT hk h5 h1;go_enter func151,ntmps151
  go_wp2_with (first
   |(go_at_call 28;refine(KN.out _).mono ?_;rintro e w' ⟨rfl,rfl⟩)
   |(go_at_call 8;refine(CL.out _).mono ?_;rintro e w' ⟨rfl,rfl⟩))
  go_ret3;exact⟨rfl,Below.refl _ _⟩
 by_cases h4:ak x=4
 .rcases qs u0 u1 h4 with hx|hx
  .subst hx
   rw[(xA hk).1,(xA hk).2.1,(xA hk).2.2];rw[h4]at CL;clear hT hk h5 h1 h4;go_enter func151,ntmps151;go_wp2_with (first
   |(go_at_call 28;refine(KN.out _).mono ?_;rintro e w' ⟨rfl,rfl⟩)
   |(go_at_call 8;refine(CL.out _).mono ?_;rintro e w' ⟨rfl,rfl⟩))
   go_ret3;exact⟨rfl,Below.refl _ _⟩
  .subst hx
   rw[(yE hk).1,(yE hk).2.1,(yE hk).2.2];rw[h4]at CL;clear hT hk h5 h1 h4;go_enter func151,ntmps151;go_wp2_with (first
   |(go_at_call 28;refine(KN.out _).mono ?_;rintro e w' ⟨rfl,rfl⟩)
   |(go_at_call 8;refine(CL.out _).mono ?_;rintro e w' ⟨rfl,rfl⟩))
   go_ret3;exact⟨rfl,Below.refl _ _⟩
 have F0:fk x:=qi u0 u1 h5 h1 h4;obtain⟨g,m,x2,hD⟩:∃g m x2,ai x=⟨g,m,x2⟩:=⟨_,_,_,rfl⟩;have hm0:=F0.m;obtain⟨bd1,bd2,bd3,bd4⟩:=F0.bd;have VA:=hid (fun w' ht=>DF x u0 u1 w' ht hD);have TP:=hid (fun a n c w' hv=>Ci (.agg #[.bool g,.slice a n c,.int .i64 x2]) ⟨g,m,x2⟩ w' ⟨_,rfl,hv⟩ (by rw[hD]at bd1;exact bd1) (by rw[hD]at bd2;simp only at bd2 ⊢;omega) (by rw[hD]at bd3;simp only at bd3 ⊢;omega));have c5:(ak x==5)=false:=by rw[aH];exact h5
 have c1':(ak x==1)=false:=by rw[aH];exact h1
 have i1:(x==9218868437227405312)=false:=by rw[aH];rintro rfl;exact h4 (by decide)
 have i2:(x==18442240474082181120)=false:=by rw[aH];rintro rfl;exact h4 (by decide)
 rw[(yn hk F0).1,(yn hk F0).2.1,(yn hk F0).2.2];have W1:=fun ht=>af8 hm0 ht mode
 have W2:=fun hg ht=>Jn hm0 hg ht mode
 have W3:=fun hg ht=>xL hm0 hg ht mode
 have W4:=fun a=>(yv (c:=jq (rv (ai x))) (mode:=mode) (r:=a))
 generalize ak x=cc at *;rw[hD]at W1 W2 W3 W4 hm0 bd1 bd2 bd3 bd4 ⊢;simp only at bd1 bd2 bd3 bd4 W2 W3
 have RV:0<=fK (jq (rv ⟨g,m,x2⟩)) mode/\True:=by
  have :=vG (FE F0 mode);rw[hD]at this;exact⟨this.bd.1,trivial⟩
 obtain⟨T,hTp⟩:∃T,T=eM ⟨g,m,x2⟩:=⟨_,rfl⟩;rw[<-hTp]at TP W1 W2 W3
 have hcase:T< -60\/(-60<=T/\((10<=T/\(g=true\/g=false))\/T<10)):=by
  by_cases h:T< -60
  .exact Or.inl h
  .right
   refine⟨by omega,?_⟩;by_cases h2:10<=T
   .left
    refine⟨h2,?_⟩;cases g
    .exact Or.inr rfl
    .exact Or.inl rfl
   .right;omega
 rcases hcase with h|⟨ha,⟨hb,rfl|rfl⟩|hb⟩
 .obtain⟨q1,q2⟩:=W1 h
  have q3:=W4 _ q1;have ONE:=hid (fun w' ht=>yJ w' ht);have SG:=hid (fun a n c w' hv=>Qz (.agg #[.bool g,.slice a n c,.int .i64 x2]) ⟨g,m,x2⟩ w' ⟨_,rfl,hv⟩);have hs:sign ⟨g,m,x2⟩=1\/sign ⟨g,m,x2⟩= -1:=by cases g;exact Or.inl (Ml hm0 rfl);exact Or.inr (FV hm0 rfl)
  have hOm:(norm false 1 0).m=1/\(norm false 1 0).e=0:=by decide+kernel
  have BS:=hid (fun v w' hd=>xU v (norm false 1 0) 1 (sign ⟨g,m,x2⟩) w' hd (by rw[hOm.1];decide) (by decide) (by rw[hOm.2];decide) (by rw[hOm.2];decide));have bb:=Xd hs;have NU:=hid (fun v w' hd=>rP v (cW (norm false 1 0) (sign ⟨g,m,x2⟩)) 70 mode w' hd bb.1 (by decide) (by omega) (by omega) (fun h0=>absurd h0 bb.2.2.2) hmode.1 hmode.2);rw[<-q3,q2]at NU;generalize cW (norm false 1 0) (sign ⟨g,m,x2⟩)=Z at *;generalize sign ⟨g,m,x2⟩=sg at *;generalize norm false 1 0=O at *;generalize fK (jq (rv ⟨g,m,x2⟩)) mode=R at *;clear hT hk h5 h1 h4 F0 hD W1 W2 W3 W4 hm0 bd1 bd2 bd3 bd4 hTp q1 q2 q3 bb hOm hs RV;go_enter func151,ntmps151
  go_wp2_with (first
   |(go_at_call 28;refine(KN.out _).mono ?_;rintro e w' ⟨rfl,rfl⟩)
   |(go_at_call 8;refine(CL.out _).mono ?_;rintro e w' ⟨rfl,rfl⟩))
  refine(VA.out _ HT.out).mono ?_;rintro r w1 ⟨e1,f1,g1,rfl,hv1,hb1⟩;obtain⟨V1,hV1⟩:∃V,V=w1.alloc (.cells #[.bool g,.slice e1 f1 g1,.int .i64 x2] 68):=⟨_,rfl⟩;have X1:=hid (show ax V1 w1.heap.size 68 (.bool g) (.slice e1 f1 g1) (.int .i64 x2) from by rw[hV1];exact ax.new w1 _ _ _ _);have N1:=hid (show NV V1 (.slice e1 f1 g1) m from by rw[hV1];exact hv1.alloc _);have B1:=hid (show Below w.heap.size w V1 from by rw[hV1];exact hb1.alloc hb1.size _);obtain⟨b8,hb8⟩:∃b8,b8=w1.heap.size:=⟨_,rfl⟩;rw[<-hb8]at X1;have z8:w.heap.size<=b8:=by rw[hb8];exact hb1.size
  clear hv1 hb1;go_wp2_with fail
  rw[<-hV1,<-hb8];clear hV1 hb8;refine(TP.out e1 f1 g1 _ N1.out).mono ?_;rintro r w2 ⟨rfl,hb⟩;have B2:=bt0 B1 hb;have X2:=hid (X1.out.below hb);have N2:=hid (N1.out.below hb);clear hb B1 X1 N1;obtain⟨c0,c1,c2,-,-,-⟩:=X2.out.cells;go_wp2_with fail
  clear c0 c1 c2;obtain⟨j0,j1,j2,-,-,-⟩:=X2.out.drew.cells
  go_region_held3 (fun w'=>w'.cell? ⟨b8,0,none⟩=some (.bool g)/\w'.cell? ⟨b8,1,none⟩=some (.slice e1 f1 g1)/\w'.cell? ⟨b8,2,none⟩=some (.int .i64 x2))
   (first
    |with_reducible exact⟨j0,j1,j2⟩
    |(obtain⟨i0,i1,i2,-,-,-⟩:=(X2.out.drew.below hb3).cells
      with_reducible exact⟨i0,i1,i2⟩)
    |(obtain⟨i0,i1,i2,-,-,-⟩:=((X2.out.drew.below HB3.out).below hb4).cells
      with_reducible exact⟨i0,i1,i2⟩)
    |(obtain⟨i0,i1,i2,-,-,-⟩:=(((X2.out.drew.below HB3.out).below HB4.out).below hb5).cells
      with_reducible exact⟨i0,i1,i2⟩)
    |(obtain⟨i0,i1,i2,-,-,-⟩:=((((X2.out.drew.below HB3.out).below HB4.out).below HB5.out).below hb6).cells
      with_reducible exact⟨i0,i1,i2⟩))
   (first
    |(go_at_call 200;refine(ONE.out _ (HT.out.below B2.out.drew)).mono ?_;rintro r w3 ⟨v3,rfl,hu3,hb3⟩;have HB3:=hid hb3;have V3:=hid hu3;have B3:=hid (af B2.out.drew le0 hb3);have N3:=hid (N2.out.dr.below hb3))
    |(go_at_call 201;refine(SG.out e1 f1 g1 _ N3.out).mono ?_;rintro r w4 ⟨rfl,hb4⟩;have HB4:=hid hb4;have V4:=hid (V3.out.below hb4);have B4:=bt0 B3 hb4)
    |(go_at_call 199;refine(BS.out _ _ V4.out).mono ?_;rintro r w5 ⟨v5,rfl,hu5,hb5⟩;have HB5:=hid hb5;have V5:=hid hu5;have B5:=bt0 B4 hb5)
    |(go_at_call 198;refine(NU.out _ _ V5.out).mono ?_;rintro r w6 ⟨rfl,hb6⟩;have HB6:=hid hb6;have B6:=bt0 B5 hb6))
  go_wp2;go_ret3;exact⟨rfl,B6.out⟩
 .obtain⟨q1,q2⟩:=W2 rfl hb
  have q3:=W4 _ q1;have HG:=hid (fun w'=>Yf w');have NU:=hid (fun v w' hd=>rP v ⟨false,1,-2000⟩ 1 mode w' hd (by show 1<2^1;decide) (by decide) (by decide) (by decide) (fun h0=>absurd h0 (by decide)) hmode.1 hmode.2);rw[<-q3,q2]at NU;generalize fK (jq (rv ⟨true,m,x2⟩)) mode=R at *;clear hT hk h5 h1 h4 F0 hD W1 W2 W3 W4 hm0 bd1 bd2 bd3 bd4 hTp q1 q2 q3 RV;go_enter func151,ntmps151
  go_wp2_with (first
   |(go_at_call 28;refine(KN.out _).mono ?_;rintro e w' ⟨rfl,rfl⟩)
   |(go_at_call 8;refine(CL.out _).mono ?_;rintro e w' ⟨rfl,rfl⟩))
  refine(VA.out _ HT.out).mono ?_;rintro r w1 ⟨e1,f1,g1,rfl,hv1,hb1⟩;obtain⟨V1,hV1⟩:∃V,V=w1.alloc (.cells #[.bool true,.slice e1 f1 g1,.int .i64 x2] 68):=⟨_,rfl⟩;have X1:=hid (show ax V1 w1.heap.size 68 (.bool true) (.slice e1 f1 g1) (.int .i64 x2) from by rw[hV1];exact ax.new w1 _ _ _ _);have N1:=hid (show NV V1 (.slice e1 f1 g1) m from by rw[hV1];exact hv1.alloc _);have B1:=hid (show Below w.heap.size w V1 from by rw[hV1];exact hb1.alloc hb1.size _);obtain⟨b8,hb8⟩:∃b8,b8=w1.heap.size:=⟨_,rfl⟩;rw[<-hb8]at X1;have z8:w.heap.size<=b8:=by rw[hb8];exact hb1.size
  clear hv1 hb1;go_wp2_with fail
  rw[<-hV1,<-hb8];clear hV1 hb8;refine(TP.out e1 f1 g1 _ N1.out).mono ?_;rintro r w2 ⟨rfl,hb⟩;have B2:=bt0 B1 hb;have X2:=hid (X1.out.below hb);have N2:=hid (N1.out.below hb);clear hb B1 X1 N1;obtain⟨c0,c1,c2,-,-,-⟩:=X2.out.cells;go_wp2_with fail
  clear c0 c1 c2;refine(TP.out e1 f1 g1 _ N2.out).mono ?_;rintro r w3 ⟨rfl,hb⟩;have B3:=bt0 B2 hb;have X3:=hid (X2.out.below hb);have N3:=hid (N2.out.below hb);clear hb B2 X2 N2;obtain⟨c0,c1,c2,-,-,-⟩:=X3.out.cells;go_wp2_with fail
  clear c0 c1 c2;refine(HG.out _).mono ?_;rintro r w8 ⟨v8,rfl,hu8,hb⟩;have B8:=bt0 B3 hb;have V8:=hid hu8;clear hb hu8;go_wp2_with fail
  refine(NU.out _ _ V8.out).mono ?_;rintro r w9 ⟨rfl,hb⟩;have B9:=bt0 B8 hb;clear hb;go_wp2;go_ret3;exact⟨rfl,B9.out⟩
 .obtain⟨q1,q2⟩:=W3 rfl hb |>.1
  have q3:=W4 _ q1;have HG:=hid (fun w'=>GP false w');have NU:=hid (fun v w' hd=>rP v ⟨false,1,2000⟩ 1 mode w' hd (by show 1<2^1;decide) (by decide) (by decide) (by decide) (fun h0=>absurd h0 (by decide)) hmode.1 hmode.2);rw[<-q3,q2]at NU;generalize fK (jq (rv ⟨false,m,x2⟩)) mode=R at *;clear hT hk h5 h1 h4 F0 hD W1 W2 W3 W4 hm0 bd1 bd2 bd3 bd4 hTp q1 q2 q3 RV;go_enter func151,ntmps151
  go_wp2_with (first
   |(go_at_call 28;refine(KN.out _).mono ?_;rintro e w' ⟨rfl,rfl⟩)
   |(go_at_call 8;refine(CL.out _).mono ?_;rintro e w' ⟨rfl,rfl⟩))
  refine(VA.out _ HT.out).mono ?_;rintro r w1 ⟨e1,f1,g1,rfl,hv1,hb1⟩;obtain⟨V1,hV1⟩:∃V,V=w1.alloc (.cells #[.bool false,.slice e1 f1 g1,.int .i64 x2] 68):=⟨_,rfl⟩;have X1:=hid (show ax V1 w1.heap.size 68 (.bool false) (.slice e1 f1 g1) (.int .i64 x2) from by rw[hV1];exact ax.new w1 _ _ _ _);have N1:=hid (show NV V1 (.slice e1 f1 g1) m from by rw[hV1];exact hv1.alloc _);have B1:=hid (show Below w.heap.size w V1 from by rw[hV1];exact hb1.alloc hb1.size _);obtain⟨b8,hb8⟩:∃b8,b8=w1.heap.size:=⟨_,rfl⟩;rw[<-hb8]at X1;have z8:w.heap.size<=b8:=by rw[hb8];exact hb1.size
  clear hv1 hb1;go_wp2_with fail
  rw[<-hV1,<-hb8];clear hV1 hb8;refine(TP.out e1 f1 g1 _ N1.out).mono ?_;rintro r w2 ⟨rfl,hb⟩;have B2:=bt0 B1 hb;have X2:=hid (X1.out.below hb);have N2:=hid (N1.out.below hb);clear hb B1 X1 N1;obtain⟨c0,c1,c2,-,-,-⟩:=X2.out.cells;go_wp2_with fail
  clear c0 c1 c2;refine(TP.out e1 f1 g1 _ N2.out).mono ?_;rintro r w3 ⟨rfl,hb⟩;have B3:=bt0 B2 hb;have X3:=hid (X2.out.below hb);have N3:=hid (N2.out.below hb);clear hb B2 X2 N2;obtain⟨c0,c1,c2,-,-,-⟩:=X3.out.cells;go_wp2_with fail
  clear c0 c1 c2;refine(TP.out e1 f1 g1 _ N3.out).mono ?_;rintro r w4 ⟨rfl,hb⟩;have B4:=bt0 B3 hb;have X4:=hid (X3.out.below hb);have N4:=hid (N3.out.below hb);clear hb B3 X3 N3;obtain⟨c0,c1,c2,-,-,-⟩:=X4.out.cells;go_wp2_with fail
  clear c0 c1 c2;refine(HG.out _).mono ?_;rintro r w8 ⟨v8,rfl,hu8,hb⟩;have B8:=bt0 B4 hb;have V8:=hid hu8;clear hb hu8;go_wp2_with fail
  refine(NU.out _ _ V8.out).mono ?_;rintro r w9 ⟨rfl,hb⟩;have B9:=bt0 B8 hb;clear hb;go_wp2;go_ret3;exact⟨rfl,B9.out⟩
 .obtain⟨s,hs,hs1⟩:=yb ⟨g,m,x2⟩ (by rw[<-hTp];exact hb)
  have hx:=yo hm0 (by rw[<-hTp];exact hb);have NR:=hid (fun b w' ht hd=>yq _ (Or.inl rfl) (jq (rv ⟨g,m,x2⟩)) b ⟨g,m,x2⟩ mode w' ht hd hmode.1 hmode.2 (fun p w'' q0 q1 ht' hd'=>Xg b ⟨g,m,x2⟩ s p w'' ht' hd' hm0 bd1 (by simp only;omega) (by simp only;omega) hx hs hs1 q0 q1));have W5:=hid W4;generalize fK (jq (rv ⟨g,m,x2⟩)) mode=R at *;clear hT hk h5 h1 h4 F0 hD W1 W2 W3 W4 hm0 bd1 bd2 bd3 bd4 hTp hs hs1 hx RV;go_enter func151,ntmps151
  go_wp2_with (first
   |(go_at_call 28;refine(KN.out _).mono ?_;rintro e w' ⟨rfl,rfl⟩)
   |(go_at_call 8;refine(CL.out _).mono ?_;rintro e w' ⟨rfl,rfl⟩))
  refine(VA.out _ HT.out).mono ?_;rintro r w1 ⟨e1,f1,g1,rfl,hv1,hb1⟩;obtain⟨V1,hV1⟩:∃V,V=w1.alloc (.cells #[.bool g,.slice e1 f1 g1,.int .i64 x2] 68):=⟨_,rfl⟩;have X1:=hid (show ax V1 w1.heap.size 68 (.bool g) (.slice e1 f1 g1) (.int .i64 x2) from by rw[hV1];exact ax.new w1 _ _ _ _);have N1:=hid (show NV V1 (.slice e1 f1 g1) m from by rw[hV1];exact hv1.alloc _);have B1:=hid (show Below w.heap.size w V1 from by rw[hV1];exact hb1.alloc hb1.size _);obtain⟨b8,hb8⟩:∃b8,b8=w1.heap.size:=⟨_,rfl⟩;rw[<-hb8]at X1;have z8:w.heap.size<=b8:=by rw[hb8];exact hb1.size
  clear hv1 hb1;go_wp2_with fail
  rw[<-hV1,<-hb8];clear hV1 hb8;refine(TP.out e1 f1 g1 _ N1.out).mono ?_;rintro r w2 ⟨rfl,hb⟩;have B2:=bt0 B1 hb;have X2:=hid (X1.out.below hb);have N2:=hid (N1.out.below hb);clear hb B1 X1 N1;obtain⟨c0,c1,c2,-,-,-⟩:=X2.out.cells;go_wp2_with fail
  clear c0 c1 c2;refine(TP.out e1 f1 g1 _ N2.out).mono ?_;rintro r w3 ⟨rfl,hb⟩;have B3:=bt0 B2 hb;have X3:=hid (X2.out.below hb);have N3:=hid (N2.out.below hb);clear hb B2 X2 N2;obtain⟨c0,c1,c2,-,-,-⟩:=X3.out.cells;go_wp2_with fail
  clear c0 c1 c2;refine(TP.out e1 f1 g1 _ N3.out).mono ?_;rintro r w4 ⟨rfl,hb⟩;have B4:=bt0 B3 hb;have X4:=hid (X3.out.below hb);have N4:=hid (N3.out.below hb);clear hb B3 X3 N3;obtain⟨c0,c1,c2,-,-,-⟩:=X4.out.cells;go_wp2_with fail
  clear c0 c1 c2;refine(NR.out _ _ (HT.out.below B4.out) ⟨e1,f1,g1,X4.out,N4.out⟩).mono ?_;rintro r w8 ⟨a,ha,rfl,hb⟩;have B8:=bt0 B4 hb;have q:=W5.out a ha;subst q;clear hb ha;go_wp2;go_ret3;exact⟨rfl,B8.out⟩
open Go.RowKit Nt Fm
open Ea (Pr cD nE tw PB)
theorem Mk (c0:Nat) (d:D) (s p:Nat) (w:World) (hT:aQ w) (hd:GD w c0 d) (hm0:d.m≠0) (hm:d.m<2^1280) (he: -19000<=d.e) (he1:d.e<=20000) (hx:(d.m:Rat)*tw d.e<=2048)
  (hs:(s:Int)=max 0 (aC d.m+d.e+16)) (hs1:s<=27) (q0:256<=p) (q1:p<=2*PB):
  Calls prog 208 #[.int .i64 (p:Int),.pointer (some ⟨c0,0,none⟩)] w fun r w''=>∃C E,nM w C E r w''/\BR (iL (rv d)) p C E:=by
 have hPB:PB=4398500000000:=rfl;obtain⟨a1,n1,c1,hBx,hNv⟩:=hd;have EB:=hid (fun w' ht hv=>Mv (.agg #[.bool d.neg,.slice a1 n1 c1,.int .i64 d.e]) d 1280 p s p w' ht ⟨_,rfl,hv⟩ rfl hm (by omega) (by omega) (by omega) (by omega) (by omega) hs hs1);have BRE:=hid (fun k (hk:k<=p) hend=>K3 (p:=p) (k:=k) hm0 hm he hx hs hs1 (by omega) (by omega) hk hend);have h2s:2^s<=134217728:=aG (show 0<2 by decide) hs1
 have BND:=hid (fun k (hk:k<=p) (hend:(Ea.bZ (Ea.dz d.m (d.e-s) p) p k).h<=1)=>show((norm false (fT d.neg d.m d.e p k s).l (-(p:Int))).m<2^(p+3*2^s+1)/\ -(p:Int)<=(norm false (fT d.neg d.m d.e p k s).l (-(p:Int))).e/\(norm false (fT d.neg d.m d.e p k s).l (-(p:Int))).e<=((p+3*2^s+1:Nat):Int))/\((norm false (fT d.neg d.m d.e p k s).h (-(p:Int))).m<2^(p+3*2^s+1)/\ -(p:Int)<=(norm false (fT d.neg d.m d.e p k s).h (-(p:Int))).e/\(norm false (fT d.neg d.m d.e p k s).h (-(p:Int))).e<=((p+3*2^s+1:Nat):Int)) from by
  obtain⟨o1,o2,o3,o4⟩:=Bz (neg:=d.neg) (k:=k) (p:=p) (tQ d.m) (show((aC d.m:Nat):Int)+d.e-s<= -16 by omega) (by omega) hk hend;exact⟨sB (iT _ _ _) (rz _ _) (by rw[sP];simpa using Nat.lt_of_le_of_lt o2 o4),sB (iT _ _ _) (rz _ _) (by rw[sP];simpa using o4)⟩)
 obtain⟨K,hK⟩:∃K,K=p+3*2^s+1:=⟨_,rfl⟩;rw[<-hK]at BND;have hK2:K<=9000000000000:=by omega
 have hK1:1<=K:=by omega
 obtain⟨O,hO⟩:∃O,O=norm false 1 0:=⟨_,rfl⟩;have ONE:=hid (fun w' ht=>yJ w' ht);have hOm:O.m=1/\O.e=0:=by rw[hO];decide+kernel
 rw[<-hO]at ONE BRE;have h21:1<2^K:=by have :=aG (n:=2) (by decide) hK1;omega
 have OPP:=hid (fun v w' hd=>yR v O K w' hd (by rw[hOm.1];exact h21) (by omega));have oM:(aO O).m=1/\(aO O).e=0:=hOm;have PLU:=hid (fun C v1 v2 w' (ht:aQ w') (h1:DV w' v1 C) (h2:DV w' v2 (aO O)) (hb:C.m<2^K/\ -(p:Int)<=C.e/\C.e<=(K:Int))=>pW v1 v2 C (aO O) K w' ht h1 h2 hb.1 (by rw[oM.1];exact h21) (by omega) (by omega) (by omega) (by rw[oM.2];omega) (by rw[oM.2];omega));have HB:=hid hBx;have HN:=hid hNv;have HT:=hid hT;have hlt:c0<w.heap.size:=hBx.lt;have L1:=hid ((GD.nil w).alloc (.cells #[.bool false,.slice none 0 0,.int .i64 0] 68));have M1:=hid (GD.nil2 w (.cells #[.bool false,.slice none 0 0,.int .i64 0] 68));have X1:=hid ((HB.out.alloc (.cells #[.bool false,.slice none 0 0,.int .i64 0] 68)).alloc (.cells #[.bool false,.slice none 0 0,.int .i64 0] 68));obtain⟨z90,z91,z92,-,-,-⟩:=X1.out.cells;generalize aO O=o at *;clear hBx hNv hT hm hs hx hm0 he he1 hO hOm oM h21 h2s hK1 hK2;go_enter func208,ntmps208;go_wp2_with fail
 refine(EB.out _ (HT.out.below (gL _ _ _)) (HN.out.below (gL _ _ _))).mono ?_;rintro r w1 ⟨k,hk,hend,u1,u2,rfl,hu1,hu2,hb1⟩;have hbr:=BRE.out k hk hend;have hbd:=BND.out k hk hend;obtain⟨C,hC⟩:∃C,C=norm false (fT d.neg d.m d.e p k s).l (-(p:Int)):=⟨_,rfl⟩;obtain⟨E,hE⟩:∃E,E=norm false (fT d.neg d.m d.e p k s).h (-(p:Int)):=⟨_,rfl⟩;rw[<-hC,<-hE]at hbr hbd;rw[<-hC]at hu1;rw[<-hE]at hu2;have PC:=hid (fun v1 v2 w' ht h1 h2=>PLU.out C v1 v2 w' ht h1 h2 hbd.1);have PE:=hid (fun v1 v2 w' ht h1 h2=>PLU.out E v1 v2 w' ht h1 h2 hbd.2);generalize plus C o=P1 at *;generalize plus E o=P2 at *;have HK:=hid hbr;obtain⟨e1,f1,g1,rfl,hv1⟩:=hu1.parts;obtain⟨e2,f2,g2,rfl,hv2⟩:=hu2.parts;have B1:=af (gL w _ _) le0 hb1;have hz:w.heap.size+1<w1.heap.size:=(M1.out.below hb1).lt;obtain⟨V1,hV1⟩:∃V,V=((w1.alloc (.cells #[.bool C.neg,.slice e1 f1 g1,.int .i64 C.e] 68)).alloc (.cells #[.bool E.neg,.slice e2 f2 g2,.int .i64 E.e] 68)):=⟨_,rfl⟩;have HL:=hid (show GD V1 w.heap.size nz from by rw[hV1];exact((L1.out.below hb1).alloc _).alloc _);have HM:=hid (show GD V1 (w.heap.size+1) nz from by rw[hV1];exact((M1.out.below hb1).alloc _).alloc _);have HC:=hid (show ax V1 w1.heap.size 68 (.bool C.neg) (.slice e1 f1 g1) (.int .i64 C.e) from by rw[hV1];exact(ax.new w1 _ _ _ _).alloc _);have HE:=hid (show ax V1 (w1.heap.size+1) 68 (.bool E.neg) (.slice e2 f2 g2) (.int .i64 E.e) from by rw[hV1];exact ax.new2 w1 _ _ _ _ _);have NC:=hid (show NV V1 (.slice e1 f1 g1) C.m from by rw[hV1];exact(hv1.alloc _).alloc _);have NE:=hid (show NV V1 (.slice e2 f2 g2) E.m from by rw[hV1];exact(hv2.alloc _).alloc _)
 have BB:=hid (show Below w.heap.size w V1 from by rw[hV1];exact(B1.alloc (by omega) _).alloc (by simp;omega) _);obtain⟨b8,hb8⟩:∃b8,b8=w1.heap.size:=⟨_,rfl⟩;rw[<-hb8]at HC HE hz;clear hu1 hu2 hb1 hv1 hv2 B1 L1 M1 X1 hbr hbd hC hE hk hend EB BRE BND PLU HB HN z90 z91 z92;go_wp2_with fail
 rw[<-hV1,<-hb8];clear hV1 hb8;obtain⟨q0,q1,q2,-,-,-⟩:=HC.out.drew.cells;obtain⟨r0,r1,r2,-,-,-⟩:=HE.out.drew.cells
 go_region_held3 (fun w'=>(w'.cell? ⟨b8,0,none⟩=some (.bool C.neg)/\w'.cell? ⟨b8,1,none⟩=some (.slice e1 f1 g1)/\w'.cell? ⟨b8,2,none⟩=some (.int .i64 C.e))/\(w'.cell? ⟨b8+1,0,none⟩=some (.bool E.neg)/\w'.cell? ⟨b8+1,1,none⟩=some (.slice e2 f2 g2)/\w'.cell? ⟨b8+1,2,none⟩=some (.int .i64 E.e)))
  (first
   |with_reducible exact⟨⟨q0,q1,q2⟩,⟨r0,r1,r2⟩⟩
   |(obtain⟨q0,q1,q2,-,-,-⟩:=((X7.out.1).st (b':=w.heap.size) (by omega) (.bool P1.neg) (.slice k1 k2 k3) (.int .i64 P1.e)).cells
     obtain⟨r0,r1,r2,-,-,-⟩:=((X7.out.2).st (b':=w.heap.size) (by omega) (.bool P1.neg) (.slice k1 k2 k3) (.int .i64 P1.e)).cells
     with_reducible exact⟨⟨q0,q1,q2⟩,⟨r0,r1,r2⟩⟩)
   |(obtain⟨q0,q1,q2,-,-,-⟩:=(((X7.out.1).st (b':=w.heap.size) (by omega) (.bool P1.neg) (.slice k1 k2 k3) (.int .i64 P1.e)).st (b':=w.heap.size+1) (by omega) (.bool P2.neg) (.slice k4 k5 k6) (.int .i64 P2.e)).cells
     obtain⟨r0,r1,r2,-,-,-⟩:=(((X7.out.2).st (b':=w.heap.size) (by omega) (.bool P1.neg) (.slice k1 k2 k3) (.int .i64 P1.e)).st (b':=w.heap.size+1) (by omega) (.bool P2.neg) (.slice k4 k5 k6) (.int .i64 P2.e)).cells
     with_reducible exact⟨⟨q0,q1,q2⟩,⟨r0,r1,r2⟩⟩))
  (first
   |(go_at_call 200;refine(ONE.out _ (HT.out.below B4.out)).mono ?_;rintro r w5 ⟨v5,rfl,hu5,hb5⟩;have V5:=hid hu5;have B5:=bt0 B4 hb5;have P5:=hid (P4.out.below hb5);have Y5:=hid (Y4.out.below hb5);have X5:=hid (And.intro (X4.out.1.below hb5) (X4.out.2.below hb5));have G5:=hid (And.intro (G4.out.1.below hb5) (G4.out.2.below hb5));obtain⟨q0,q1,q2,-,-,-⟩:=X5.out.1.cells;obtain⟨r0,r1,r2,-,-,-⟩:=X5.out.2.cells)
   |(go_at_call 200;refine(ONE.out _ (HT.out.below BB.out.drew)).mono ?_;rintro r w2 ⟨v2,rfl,hu2,hb2⟩;have V2:=hid hu2;have B2:=hid (af BB.out.drew le0 hb2);have X2:=hid (And.intro (HC.out.drew.below hb2) (HE.out.drew.below hb2));have G2:=hid (And.intro (HL.out.drew.below hb2) (HM.out.drew.below hb2));have Y2:=hid (And.intro (NC.out.dr.below hb2) (NE.out.dr.below hb2));obtain⟨q0,q1,q2,-,-,-⟩:=X2.out.1.cells;obtain⟨r0,r1,r2,-,-,-⟩:=X2.out.2.cells)
   |(go_at_call 207;refine(OPP.out _ _ V5.out).mono ?_;rintro r w6 ⟨v6,rfl,hu6,hb6⟩;have V6:=hid hu6;have B6:=bt0 B5 hb6;have P6:=hid (P5.out.below hb6);have Y6:=hid (Y5.out.below hb6);have X6:=hid (And.intro (X5.out.1.below hb6) (X5.out.2.below hb6));have G6:=hid (And.intro (G5.out.1.below hb6) (G5.out.2.below hb6));obtain⟨q0,q1,q2,-,-,-⟩:=X6.out.1.cells;obtain⟨r0,r1,r2,-,-,-⟩:=X6.out.2.cells)
   |(go_at_call 207;refine(OPP.out _ _ V2.out).mono ?_;rintro r w3 ⟨v3,rfl,hu3,hb3⟩;have V3:=hid hu3;have B3:=bt0 B2 hb3;have X3:=hid (And.intro (X2.out.1.below hb3) (X2.out.2.below hb3));have G3:=hid (And.intro (G2.out.1.below hb3) (G2.out.2.below hb3));have Y3:=hid (And.intro (Y2.out.1.below hb3) (Y2.out.2.below hb3));obtain⟨q0,q1,q2,-,-,-⟩:=X3.out.1.cells;obtain⟨r0,r1,r2,-,-,-⟩:=X3.out.2.cells)
   |(go_at_call 194;refine(PE.out _ _ _ (HT.out.below B6.out) ⟨_,rfl,Y6.out⟩ V6.out).mono ?_;rintro r w7 ⟨v7,rfl,hu7,hb7⟩;obtain⟨k4,k5,k6,rfl,hv7⟩:=hu7.parts;have V7:=hid hv7;have P7:=hid (P6.out.below hb7);have B7:=bt0 B6 hb7;have X7:=hid (And.intro (X6.out.1.below hb7) (X6.out.2.below hb7));have HL7:=hid (G6.out.1.below hb7);have HM7:=hid (G6.out.2.below hb7);obtain⟨q0,q1,q2,-,-,-⟩:=X7.out.1.cells;obtain⟨r0,r1,r2,-,-,-⟩:=X7.out.2.cells;obtain⟨y1,y2,y3,hY,-⟩:=HL7.out;have HY:=hid hY;obtain⟨z1,z2,z3,hZ,-⟩:=(HM7.out.store HL7.out (by omega) P1.neg k1 k2 k3 P1.e);have HZ:=hid hZ;obtain⟨s0,s1,s2,t0,t1,t2⟩:=HY.out.cells;obtain⟨x0,x1,x2,x3,x4,x5⟩:=HZ.out.cells;clear hY hZ)
   |(go_at_call 194;refine(PC.out _ _ _ (HT.out.below B3.out) ⟨_,rfl,Y3.out.1⟩ V3.out).mono ?_;rintro r w4 ⟨v4,rfl,hu4,hb4⟩;obtain⟨k1,k2,k3,rfl,hv4⟩:=hu4.parts;have P4:=hid hv4;have B4:=bt0 B3 hb4;have X4:=hid (And.intro (X3.out.1.below hb4) (X3.out.2.below hb4));have G4:=hid (And.intro (G3.out.1.below hb4) (G3.out.2.below hb4));have Y4:=hid (Y3.out.2.below hb4);obtain⟨q0,q1,q2,-,-,-⟩:=X4.out.1.cells;obtain⟨r0,r1,r2,-,-,-⟩:=X4.out.2.cells))
 clear q0 q1 q2 r0 r1 r2 s0 s1 s2 t0 t1 t2 x0 x1 x2 x3 x4 x5 hb2 hb3 hb4 hb5 hb6 hb7 hu2 hu3 hu4 hu5 hu6 hu7 hv4 hv7 V2 V3 V5 V6 B2 B3 B4 B5 B6 X2 X3 X4 X5 X6 G2 G3 G4 G5 G6 Y2 Y3 Y4 Y5 Y6 P4 P5 P6;go_wp2;have K0:=hid (HM7.out.store HL7.out (by omega) P1.neg k1 k2 k3 P1.e);have R1:=hid ((HY.out.set3 (.bool P1.neg) (.slice k1 k2 k3) (.int .i64 P1.e)).st (b':=w.heap.size+1) (by omega) (.bool P2.neg) (.slice k4 k5 k6) (.int .i64 P2.e));have R2:=hid (HZ.out.set3 (.bool P2.neg) (.slice k4 k5 k6) (.int .i64 P2.e));have N1:=hid (K0.out.keep (HL7.out.keep P7.out P1.neg k1 k2 k3 P1.e) P2.neg k4 k5 k6 P2.e);have N2:=hid (K0.out.keep (HL7.out.keep V7.out P1.neg k1 k2 k3 P1.e) P2.neg k4 k5 k6 P2.e);obtain⟨s0,s1,s2,t0,t1,t2⟩:=R1.out.cells;obtain⟨r0,r1,r2,u0,u1,u2⟩:=R2.out.cells;refine bodyPost_ret (v:= .tuple #[.agg #[.bool P1.neg,.slice k1 k2 k3,.int .i64 P1.e],.agg #[.bool P2.neg,.slice k4 k5 k6,.int .i64 P2.e]]) (by simp [results,Tryz.results208,go_sem,s0,s1,s2,r0,r1,r2]) rfl ?_;exact⟨P1,P2,⟨_,_,rfl,⟨_,rfl,N1.out⟩,⟨_,rfl,N2.out⟩,cJ (cJ B7.out (by omega) _ _ _) (by omega) _ _ _⟩,HK.out⟩
open Go.RowKit Nt Fm Fl
noncomputable def jh (x mode:Int):Int:=
 if aD mode then(if ak x=5 then 9221120237041090560 else if ak x=1 then x else if x=9218868437227405312 then x else if x=18442240474082181120 then 13830554455654793216 else fK (iL (rv (ai x))) mode) else 0
theorem Cj {x mode:Int}(h:aD mode=false):jh x mode=0/\gU x mode=false/\dT mode=1:=by
 refine⟨?_,(zv (x:=x) h).2⟩;unfold jh;rw[h];rfl
theorem Ai {x mode:Int}(h:aD mode=true) (h5:ak x=5):jh x mode=9221120237041090560/\gU x mode=false/\dT mode=0:=by
 refine⟨?_,(xt h h5).2⟩;unfold jh;rw[aj h,aj h5]
theorem DW {x mode:Int}(h:aD mode=true) (h1:ak x=1):jh x mode=x/\gU x mode=false/\dT mode=0:=by
 refine⟨?_,(x_ h h1).2⟩;unfold jh;rw[aj h,ag (by omega),aj h1]
theorem Bg {mode:Int}(h:aD mode=true):jh 9218868437227405312 mode=9218868437227405312/\gU 9218868437227405312 mode=false/\dT mode=0:=by
 refine⟨?_,(xA h).2⟩;unfold jh;rw[aj h,ag (by decide),ag (by decide),aj rfl]
theorem BN {mode:Int}(h:aD mode=true):jh 18442240474082181120 mode=13830554455654793216/\gU 18442240474082181120 mode=false/\dT mode=0:=by
 refine⟨?_,(yE h).2⟩;unfold jh;rw[aj h,ag (by decide),ag (by decide),ag (by decide),aj rfl]
theorem Dx {x mode:Int}(h:aD mode=true) (hf:fk x):jh x mode=fK (iL (rv (ai x))) mode/\gU x mode=true/\dT mode=0:=by
 obtain⟨a,b,c⟩:=zm hf;refine⟨?_,(yn h hf).2⟩;unfold jh;rw[aj h,ag a,ag b,ag (by rintro rfl;exact c (by decide)),ag (by rintro rfl;exact c (by decide))]
theorem Lt {d:D}{k:Nat}{s:Int}(hm:d.m<2^k) (hm0:d.m≠0) (e0: -20000<=d.e) (e1:d.e<=20000) (h:s=1\/s= -1):(cW d s).m<2^(k+65)/\ -16000000000000<=(cW d s).e/\(cW d s).e<=16000000000000/\(cW d s).m≠0:=by
 have hs:cW d s=⟨d.neg,gB d.neg d.m s,d.e-64⟩:=by
  unfold cW;rw[ag (by omega),ag hm0]
 have h1:gB d.neg d.m s<=d.m*2^64+1/\d.m*2^64-1<=gB d.neg d.m s:=by unfold gB;split <;> omega
 rw[hs];refine⟨?_,by show -16000000000000<=d.e-64;omega,by show d.e-64<=16000000000000;omega,?_⟩
 .show gB d.neg d.m s<2^(k+65)
  rw[aB];generalize 2^k=Y at *;omega
 .show gB d.neg d.m s≠0
  omega
theorem UN:(cW (aO (norm false 1 0)) 1).m<2^70/\ -16000000000000<=(cW (aO (norm false 1 0)) 1).e/\(cW (aO (norm false 1 0)) 1).e<=16000000000000/\(cW (aO (norm false 1 0)) 1).m≠0:=by
 decide+kernel
theorem Yg (x mode:Int) (w:World) (hT:aQ w) (u0:0<=x) (u1:x<=18446744073709551615) (p0: -9223372036854775808<=mode) (p1:mode<=9223372036854775807):
  Calls prog 152 #[.int .u64 x,.int .i64 mode] w fun r w'=>r=.returned (.tuple #[.int .u64 (jh x mode),.bool (gU x mode),.int .i64 (dT mode)])/\Below w.heap.size w w':=by
 have HT:=hid hT;have KN:=hid (fun w'=>dF mode w');have CL:=hid (fun w'=>fB x u0 u1 w');by_cases hk:aD mode=true
 case neg=>
  have hk':aD mode=false:=by simpa using hk
  rw[(Cj (x:=x) hk').1,(Cj (x:=x) hk').2.1,(Cj (x:=x) hk').2.2];rw[hk']at KN;clear CL hT hk hk';go_enter func152,ntmps152;go_wp2_with (go_at_call 28;refine(KN.out _).mono ?_;rintro e w' ⟨rfl,rfl⟩)
  go_ret3;exact⟨rfl,Below.refl _ _⟩
 have hmode:0<=mode/\mode<=4:=by unfold aD at hk;exact gY hk
 rw[hk]at KN;by_cases h5:ak x=5
 .rw[(Ai hk h5).1,(Ai hk h5).2.1,(Ai hk h5).2.2]
  rw[h5]at CL;clear hT hk h5;go_enter func152,ntmps152
  go_wp2_with (first
   |(go_at_call 28;refine(KN.out _).mono ?_;rintro e w' ⟨rfl,rfl⟩)
   |(go_at_call 8;refine(CL.out _).mono ?_;rintro e w' ⟨rfl,rfl⟩))
  go_ret3;exact⟨rfl,Below.refl _ _⟩
 by_cases h1:ak x=1
 .rw[(DW hk h1).1,(DW hk h1).2.1,(DW hk h1).2.2]
  rw[h1]at CL;clear hT hk h5 h1;go_enter func152,ntmps152
  go_wp2_with (first
   |(go_at_call 28;refine(KN.out _).mono ?_;rintro e w' ⟨rfl,rfl⟩)
   |(go_at_call 8;refine(CL.out _).mono ?_;rintro e w' ⟨rfl,rfl⟩))
  go_ret3;exact⟨rfl,Below.refl _ _⟩
 by_cases h4:ak x=4
 .rcases qs u0 u1 h4 with hx|hx
  .subst hx
   rw[(Bg hk).1,(Bg hk).2.1,(Bg hk).2.2];rw[h4]at CL;clear hT hk h5 h1 h4;go_enter func152,ntmps152;go_wp2_with (first
   |(go_at_call 28;refine(KN.out _).mono ?_;rintro e w' ⟨rfl,rfl⟩)
   |(go_at_call 8;refine(CL.out _).mono ?_;rintro e w' ⟨rfl,rfl⟩))
   go_ret3;exact⟨rfl,Below.refl _ _⟩
  .subst hx
   rw[(BN hk).1,(BN hk).2.1,(BN hk).2.2];rw[h4]at CL;clear hT hk h5 h1 h4;go_enter func152,ntmps152;go_wp2_with (first
   |(go_at_call 28;refine(KN.out _).mono ?_;rintro e w' ⟨rfl,rfl⟩)
   |(go_at_call 8;refine(CL.out _).mono ?_;rintro e w' ⟨rfl,rfl⟩))
   go_ret3;exact⟨rfl,Below.refl _ _⟩
 have F0:fk x:=qi u0 u1 h5 h1 h4;obtain⟨g,m,x2,hD⟩:∃g m x2,ai x=⟨g,m,x2⟩:=⟨_,_,_,rfl⟩;have hm0:=F0.m;obtain⟨bd1,bd2,bd3,bd4⟩:=F0.bd;have VA:=hid (fun w' ht=>DF x u0 u1 w' ht hD);have TP:=hid (fun a n c w' hv=>Ci (.agg #[.bool g,.slice a n c,.int .i64 x2]) ⟨g,m,x2⟩ w' ⟨_,rfl,hv⟩ (by rw[hD]at bd1;exact bd1) (by rw[hD]at bd2;simp only at bd2 ⊢;omega) (by rw[hD]at bd3;simp only at bd3 ⊢;omega));have c5:(ak x==5)=false:=by rw[aH];exact h5
 have c1':(ak x==1)=false:=by rw[aH];exact h1
 have i1:(x==9218868437227405312)=false:=by rw[aH];rintro rfl;exact h4 (by decide)
 have i2:(x==18442240474082181120)=false:=by rw[aH];rintro rfl;exact h4 (by decide)
 rw[(Dx hk F0).1,(Dx hk F0).2.1,(Dx hk F0).2.2];have W1:=fun ht=>YI u0 u1 F0.2.2.1 hm0 ht mode
 have W2:=fun hg ht=>Ge hm0 hg ht mode
 have W3:=fun hg ht=>xL hm0 hg ht mode
 have W4:=fun a=>(yv (c:=iL (rv (ai x))) (mode:=mode) (r:=a))
 generalize ak x=cc at *;rw[hD]at W1 W2 W3 W4 hm0 bd1 bd2 bd3 bd4 ⊢;simp only at bd1 bd2 bd3 bd4 W2 W3;obtain⟨T,hTp⟩:∃T,T=eM ⟨g,m,x2⟩:=⟨_,rfl⟩;rw[<-hTp]at TP W1 W2 W3
 have hcase:T< -60\/(-60<=T/\((6<=T/\g=true)\/(6<=T/\g=false/\10<=T)\/(6<=T/\g=false/\T<10)\/T<6)):=by
  by_cases h:T< -60
  .exact Or.inl h
  .right
   refine⟨by omega,?_⟩;by_cases h2:6<=T
   .cases g
    .right
     by_cases h3:10<=T
     .exact Or.inl ⟨h2,rfl,h3⟩
     .exact Or.inr (Or.inl ⟨h2,rfl,by omega⟩)
    .exact Or.inl ⟨h2,rfl⟩
   .right;right;right;omega
 rcases hcase with h|⟨ha,⟨hb,rfl⟩|⟨hb,rfl,hb2⟩|⟨hb,rfl,hb2⟩|hb⟩
 .obtain⟨q1,q2⟩:=W1 h
  have q3:=W4 _ q1;have BS:=hid (fun a n c w' hv=>xU (.agg #[.bool g,.slice a n c,.int .i64 x2]) ⟨g,m,x2⟩ 53 1 w' ⟨_,rfl,hv⟩ bd4 (by decide) (by simp only;omega) (by simp only;omega));have bb:=Lt (d:=⟨g,m,x2⟩) (k:=53) (s:=1) bd4 hm0 (by simp only;omega) (by simp only;omega) (Or.inl rfl);have NU:=hid (fun v w' hd=>rP v (cW ⟨g,m,x2⟩ 1) (53+65) mode w' hd bb.1 (by decide) (by omega) (by omega) (fun h0=>absurd h0 bb.2.2.2) hmode.1 hmode.2);rw[<-q3,q2]at NU;generalize cW ⟨g,m,x2⟩ 1=Z at *;generalize fK (iL (rv ⟨g,m,x2⟩)) mode=R at *;clear hT hk h5 h1 h4 F0 hD W1 W2 W3 W4 hm0 bd1 bd2 bd3 bd4 hTp q1 q2 q3 bb;go_enter func152,ntmps152
  go_wp2_with (first
   |(go_at_call 28;refine(KN.out _).mono ?_;rintro e w' ⟨rfl,rfl⟩)
   |(go_at_call 8;refine(CL.out _).mono ?_;rintro e w' ⟨rfl,rfl⟩))
  refine(VA.out _ HT.out).mono ?_;rintro r w1 ⟨e1,f1,g1,rfl,hv1,hb1⟩;obtain⟨V1,hV1⟩:∃V,V=w1.alloc (.cells #[.bool g,.slice e1 f1 g1,.int .i64 x2] 68):=⟨_,rfl⟩;have X1:=hid (show ax V1 w1.heap.size 68 (.bool g) (.slice e1 f1 g1) (.int .i64 x2) from by rw[hV1];exact ax.new w1 _ _ _ _);have N1:=hid (show NV V1 (.slice e1 f1 g1) m from by rw[hV1];exact hv1.alloc _);have B1:=hid (show Below w.heap.size w V1 from by rw[hV1];exact hb1.alloc hb1.size _);obtain⟨b8,hb8⟩:∃b8,b8=w1.heap.size:=⟨_,rfl⟩;rw[<-hb8]at X1;have z8:w.heap.size<=b8:=by rw[hb8];exact hb1.size
  clear hv1 hb1;go_wp2_with fail
  rw[<-hV1,<-hb8];clear hV1 hb8;refine(TP.out e1 f1 g1 _ N1.out).mono ?_;rintro r w2 ⟨rfl,hb⟩;have B2:=bt0 B1 hb;have X2:=hid (X1.out.below hb);have N2:=hid (N1.out.below hb);clear hb B1 X1 N1;obtain⟨c0,c1,c2,-,-,-⟩:=X2.out.cells;go_wp2_with fail
  clear c0 c1 c2;refine(BS.out e1 f1 g1 _ N2.out).mono ?_;rintro r w8 ⟨v8,rfl,hu8,hb⟩;have B8:=bt0 B2 hb;have V8:=hid hu8;clear hb hu8;go_wp2_with fail
  refine(NU.out _ _ V8.out).mono ?_;rintro r w9 ⟨rfl,hb⟩;have B9:=bt0 B8 hb;clear hb;go_wp2;go_ret3;exact⟨rfl,B9.out⟩
 .obtain⟨q1,q2⟩:=W2 rfl hb
  have q3:=W4 _ q1;have ONE:=hid (fun w' ht=>yJ w' ht);have hOm:(norm false 1 0).m=1/\(norm false 1 0).e=0:=by decide+kernel
  have OPP:=hid (fun v w' hd=>yR v (norm false 1 0) 1 w' hd (by rw[hOm.1];decide) (by decide));have BS:=hid (fun v w' hd=>xU v (aO (norm false 1 0)) 1 1 w' hd (by show(norm false 1 0).m<2^1;rw[hOm.1];decide) (by decide) (by show _<=(norm false 1 0).e;rw[hOm.2];decide) (by show(norm false 1 0).e<=_;rw[hOm.2];decide));have bb:=UN;have NU:=hid (fun v w' hd=>rP v (cW (aO (norm false 1 0)) 1) 70 mode w' hd bb.1 (by decide) (by omega) (by omega) (fun h0=>absurd h0 bb.2.2.2) hmode.1 hmode.2);rw[<-q3,q2]at NU;generalize cW (aO (norm false 1 0)) 1=Z at *;generalize aO (norm false 1 0)=Q at *;generalize norm false 1 0=O at *;generalize fK (iL (rv ⟨true,m,x2⟩)) mode=R at *;clear hT hk h5 h1 h4 F0 hD W1 W2 W3 W4 hm0 bd1 bd2 bd3 bd4 hTp q1 q2 q3 bb hOm;go_enter func152,ntmps152
  go_wp2_with (first
   |(go_at_call 28;refine(KN.out _).mono ?_;rintro e w' ⟨rfl,rfl⟩)
   |(go_at_call 8;refine(CL.out _).mono ?_;rintro e w' ⟨rfl,rfl⟩))
  refine(VA.out _ HT.out).mono ?_;rintro r w1 ⟨e1,f1,g1,rfl,hv1,hb1⟩;obtain⟨V1,hV1⟩:∃V,V=w1.alloc (.cells #[.bool true,.slice e1 f1 g1,.int .i64 x2] 68):=⟨_,rfl⟩;have X1:=hid (show ax V1 w1.heap.size 68 (.bool true) (.slice e1 f1 g1) (.int .i64 x2) from by rw[hV1];exact ax.new w1 _ _ _ _);have N1:=hid (show NV V1 (.slice e1 f1 g1) m from by rw[hV1];exact hv1.alloc _);have B1:=hid (show Below w.heap.size w V1 from by rw[hV1];exact hb1.alloc hb1.size _);obtain⟨b8,hb8⟩:∃b8,b8=w1.heap.size:=⟨_,rfl⟩;rw[<-hb8]at X1;have z8:w.heap.size<=b8:=by rw[hb8];exact hb1.size
  clear hv1 hb1;go_wp2_with fail
  rw[<-hV1,<-hb8];clear hV1 hb8;refine(TP.out e1 f1 g1 _ N1.out).mono ?_;rintro r w2 ⟨rfl,hb⟩;have B2:=bt0 B1 hb;have X2:=hid (X1.out.below hb);have N2:=hid (N1.out.below hb);clear hb B1 X1 N1;obtain⟨c0,c1,c2,-,-,-⟩:=X2.out.cells;go_wp2_with fail
  clear c0 c1 c2;refine(TP.out e1 f1 g1 _ N2.out).mono ?_;rintro r w3 ⟨rfl,hb⟩;have B3:=bt0 B2 hb;have X3:=hid (X2.out.below hb);have N3:=hid (N2.out.below hb);clear hb B2 X2 N2;obtain⟨c0,c1,c2,-,-,-⟩:=X3.out.cells;go_wp2_with fail
  clear c0 c1 c2;refine(ONE.out _ (HT.out.below B3.out)).mono ?_;rintro r w5 ⟨v5,rfl,hu5,hb⟩;have B5:=bt0 B3 hb;have V5:=hid hu5;clear hb hu5;go_wp2_with fail
  refine(OPP.out _ _ V5.out).mono ?_;rintro r w6 ⟨v6,rfl,hu6,hb⟩;have B6:=bt0 B5 hb;have V6:=hid hu6;clear hb hu6;go_wp2_with fail
  refine(BS.out _ _ V6.out).mono ?_;rintro r w8 ⟨v8,rfl,hu8,hb⟩;have B8:=bt0 B6 hb;have V8:=hid hu8;clear hb hu8;go_wp2_with fail
  refine(NU.out _ _ V8.out).mono ?_;rintro r w9 ⟨rfl,hb⟩;have B9:=bt0 B8 hb;clear hb;go_wp2;go_ret3;exact⟨rfl,B9.out⟩
 .obtain⟨⟨-,q2⟩,q1⟩:=W3 rfl hb2
  have q3:=W4 _ q1;have HG:=hid (fun w'=>GP false w');have NU:=hid (fun v w' hd=>rP v ⟨false,1,2000⟩ 1 mode w' hd (by show 1<2^1;decide) (by decide) (by decide) (by decide) (fun h0=>absurd h0 (by decide)) hmode.1 hmode.2);rw[<-q3,q2]at NU;generalize fK (iL (rv ⟨false,m,x2⟩)) mode=R at *;clear hT hk h5 h1 h4 F0 hD W1 W2 W3 W4 hm0 bd1 bd2 bd3 bd4 hTp q1 q2 q3;go_enter func152,ntmps152
  go_wp2_with (first
   |(go_at_call 28;refine(KN.out _).mono ?_;rintro e w' ⟨rfl,rfl⟩)
   |(go_at_call 8;refine(CL.out _).mono ?_;rintro e w' ⟨rfl,rfl⟩))
  refine(VA.out _ HT.out).mono ?_;rintro r w1 ⟨e1,f1,g1,rfl,hv1,hb1⟩;obtain⟨V1,hV1⟩:∃V,V=w1.alloc (.cells #[.bool false,.slice e1 f1 g1,.int .i64 x2] 68):=⟨_,rfl⟩;have X1:=hid (show ax V1 w1.heap.size 68 (.bool false) (.slice e1 f1 g1) (.int .i64 x2) from by rw[hV1];exact ax.new w1 _ _ _ _);have N1:=hid (show NV V1 (.slice e1 f1 g1) m from by rw[hV1];exact hv1.alloc _);have B1:=hid (show Below w.heap.size w V1 from by rw[hV1];exact hb1.alloc hb1.size _);obtain⟨b8,hb8⟩:∃b8,b8=w1.heap.size:=⟨_,rfl⟩;rw[<-hb8]at X1;have z8:w.heap.size<=b8:=by rw[hb8];exact hb1.size
  clear hv1 hb1;go_wp2_with fail
  rw[<-hV1,<-hb8];clear hV1 hb8;refine(TP.out e1 f1 g1 _ N1.out).mono ?_;rintro r w2 ⟨rfl,hb⟩;have B2:=bt0 B1 hb;have X2:=hid (X1.out.below hb);have N2:=hid (N1.out.below hb);clear hb B1 X1 N1;obtain⟨c0,c1,c2,-,-,-⟩:=X2.out.cells;go_wp2_with fail
  clear c0 c1 c2;refine(TP.out e1 f1 g1 _ N2.out).mono ?_;rintro r w3 ⟨rfl,hb⟩;have B3:=bt0 B2 hb;have X3:=hid (X2.out.below hb);have N3:=hid (N2.out.below hb);clear hb B2 X2 N2;obtain⟨c0,c1,c2,-,-,-⟩:=X3.out.cells;go_wp2_with fail
  clear c0 c1 c2;refine(TP.out e1 f1 g1 _ N3.out).mono ?_;rintro r w4 ⟨rfl,hb⟩;have B4:=bt0 B3 hb;have X4:=hid (X3.out.below hb);have N4:=hid (N3.out.below hb);clear hb B3 X3 N3;obtain⟨c0,c1,c2,-,-,-⟩:=X4.out.cells;go_wp2_with fail
  clear c0 c1 c2;refine(HG.out _).mono ?_;rintro r w8 ⟨v8,rfl,hu8,hb⟩;have B8:=bt0 B4 hb;have V8:=hid hu8;clear hb hu8;go_wp2_with fail
  refine(NU.out _ _ V8.out).mono ?_;rintro r w9 ⟨rfl,hb⟩;have B9:=bt0 B8 hb;clear hb;go_wp2;go_ret3;exact⟨rfl,B9.out⟩
 .obtain⟨s,hs,hs1⟩:=yb ⟨false,m,x2⟩ (by rw[<-hTp];exact hb2)
  have hx:=yo hm0 (by rw[<-hTp];exact hb2);have NR:=hid (fun b w' ht hd=>yq _ (Or.inr (Or.inl rfl)) (iL (rv ⟨false,m,x2⟩)) b ⟨false,m,x2⟩ mode w' ht hd hmode.1 hmode.2 (fun p w'' q0 q1 ht' hd'=>Mk b ⟨false,m,x2⟩ s p w'' ht' hd' hm0 bd1 (by simp only;omega) (by simp only;omega) hx hs hs1 q0 q1));have W5:=hid W4;generalize fK (iL (rv ⟨false,m,x2⟩)) mode=R at *;clear hT hk h5 h1 h4 F0 hD W1 W2 W3 W4 hm0 bd1 bd2 bd3 bd4 hTp hs hs1 hx;go_enter func152,ntmps152
  go_wp2_with (first
   |(go_at_call 28;refine(KN.out _).mono ?_;rintro e w' ⟨rfl,rfl⟩)
   |(go_at_call 8;refine(CL.out _).mono ?_;rintro e w' ⟨rfl,rfl⟩))
  refine(VA.out _ HT.out).mono ?_;rintro r w1 ⟨e1,f1,g1,rfl,hv1,hb1⟩;obtain⟨V1,hV1⟩:∃V,V=w1.alloc (.cells #[.bool false,.slice e1 f1 g1,.int .i64 x2] 68):=⟨_,rfl⟩;have X1:=hid (show ax V1 w1.heap.size 68 (.bool false) (.slice e1 f1 g1) (.int .i64 x2) from by rw[hV1];exact ax.new w1 _ _ _ _);have N1:=hid (show NV V1 (.slice e1 f1 g1) m from by rw[hV1];exact hv1.alloc _);have B1:=hid (show Below w.heap.size w V1 from by rw[hV1];exact hb1.alloc hb1.size _);obtain⟨b8,hb8⟩:∃b8,b8=w1.heap.size:=⟨_,rfl⟩;rw[<-hb8]at X1;have z8:w.heap.size<=b8:=by rw[hb8];exact hb1.size
  clear hv1 hb1;go_wp2_with fail
  rw[<-hV1,<-hb8];clear hV1 hb8;refine(TP.out e1 f1 g1 _ N1.out).mono ?_;rintro r w2 ⟨rfl,hb⟩;have B2:=bt0 B1 hb;have X2:=hid (X1.out.below hb);have N2:=hid (N1.out.below hb);clear hb B1 X1 N1;obtain⟨c0,c1,c2,-,-,-⟩:=X2.out.cells;go_wp2_with fail
  clear c0 c1 c2;refine(TP.out e1 f1 g1 _ N2.out).mono ?_;rintro r w3 ⟨rfl,hb⟩;have B3:=bt0 B2 hb;have X3:=hid (X2.out.below hb);have N3:=hid (N2.out.below hb);clear hb B2 X2 N2;obtain⟨c0,c1,c2,-,-,-⟩:=X3.out.cells;go_wp2_with fail
  clear c0 c1 c2;refine(TP.out e1 f1 g1 _ N3.out).mono ?_;rintro r w4 ⟨rfl,hb⟩;have B4:=bt0 B3 hb;have X4:=hid (X3.out.below hb);have N4:=hid (N3.out.below hb);clear hb B3 X3 N3;obtain⟨c0,c1,c2,-,-,-⟩:=X4.out.cells;go_wp2_with fail
  clear c0 c1 c2;refine(NR.out _ _ (HT.out.below B4.out) ⟨e1,f1,g1,X4.out,N4.out⟩).mono ?_;rintro r w8 ⟨a,ha,rfl,hb⟩;have B8:=bt0 B4 hb;have q:=W5.out a ha;subst q;clear hb ha;go_wp2;go_ret3;exact⟨rfl,B8.out⟩
 .obtain⟨s,hs,hs1⟩:=yb ⟨g,m,x2⟩ (by rw[<-hTp];exact(by omega))
  have hx:=yo hm0 (by rw[<-hTp];exact(by omega));have NR:=hid (fun b w' ht hd=>yq _ (Or.inr (Or.inl rfl)) (iL (rv ⟨g,m,x2⟩)) b ⟨g,m,x2⟩ mode w' ht hd hmode.1 hmode.2 (fun p w'' q0 q1 ht' hd'=>Mk b ⟨g,m,x2⟩ s p w'' ht' hd' hm0 bd1 (by simp only;omega) (by simp only;omega) hx hs hs1 q0 q1));have W5:=hid W4;generalize fK (iL (rv ⟨g,m,x2⟩)) mode=R at *;clear hT hk h5 h1 h4 F0 hD W1 W2 W3 W4 hm0 bd1 bd2 bd3 bd4 hTp hs hs1 hx;go_enter func152,ntmps152
  go_wp2_with (first
   |(go_at_call 28;refine(KN.out _).mono ?_;rintro e w' ⟨rfl,rfl⟩)
   |(go_at_call 8;refine(CL.out _).mono ?_;rintro e w' ⟨rfl,rfl⟩))
  refine(VA.out _ HT.out).mono ?_;rintro r w1 ⟨e1,f1,g1,rfl,hv1,hb1⟩;obtain⟨V1,hV1⟩:∃V,V=w1.alloc (.cells #[.bool g,.slice e1 f1 g1,.int .i64 x2] 68):=⟨_,rfl⟩;have X1:=hid (show ax V1 w1.heap.size 68 (.bool g) (.slice e1 f1 g1) (.int .i64 x2) from by rw[hV1];exact ax.new w1 _ _ _ _);have N1:=hid (show NV V1 (.slice e1 f1 g1) m from by rw[hV1];exact hv1.alloc _);have B1:=hid (show Below w.heap.size w V1 from by rw[hV1];exact hb1.alloc hb1.size _);obtain⟨b8,hb8⟩:∃b8,b8=w1.heap.size:=⟨_,rfl⟩;rw[<-hb8]at X1;have z8:w.heap.size<=b8:=by rw[hb8];exact hb1.size
  clear hv1 hb1;go_wp2_with fail
  rw[<-hV1,<-hb8];clear hV1 hb8;refine(TP.out e1 f1 g1 _ N1.out).mono ?_;rintro r w2 ⟨rfl,hb⟩;have B2:=bt0 B1 hb;have X2:=hid (X1.out.below hb);have N2:=hid (N1.out.below hb);clear hb B1 X1 N1;obtain⟨c0,c1,c2,-,-,-⟩:=X2.out.cells;go_wp2_with fail
  clear c0 c1 c2;refine(TP.out e1 f1 g1 _ N2.out).mono ?_;rintro r w3 ⟨rfl,hb⟩;have B3:=bt0 B2 hb;have X3:=hid (X2.out.below hb);have N3:=hid (N2.out.below hb);clear hb B2 X2 N2;obtain⟨c0,c1,c2,-,-,-⟩:=X3.out.cells;go_wp2_with fail
  clear c0 c1 c2;refine(TP.out e1 f1 g1 _ N3.out).mono ?_;rintro r w4 ⟨rfl,hb⟩;have B4:=bt0 B3 hb;have X4:=hid (X3.out.below hb);have N4:=hid (N3.out.below hb);clear hb B3 X3 N3;obtain⟨c0,c1,c2,-,-,-⟩:=X4.out.cells;go_wp2_with fail
  clear c0 c1 c2;refine(NR.out _ _ (HT.out.below B4.out) ⟨e1,f1,g1,X4.out,N4.out⟩).mono ?_;rintro r w8 ⟨a,ha,rfl,hb⟩;have B8:=bt0 B4 hb;have q:=W5.out a ha;subst q;clear hb ha;go_wp2;go_ret3;exact⟨rfl,B8.out⟩
theorem Jm (v:Value) (d:D) (mode:Int) (w:World) (hT:aQ w) (hd:DV w v d) (h0:0<rv d) (hm:d.m<2^1280) (he: -3000<=d.e) (he1:d.e<=3000) (h1:rv d≠1) (m0:0<=mode) (m1:mode<=4):
  Calls prog 209 #[v,.int .i64 mode] w fun r w'=>r=.returned (.tuple #[.int .u64 (fK (im (rv d)) mode),.bool true,.int .i64 0])/\Below w.heap.size w w':=by
 obtain⟨a1,n1,c1,rfl,hv⟩:=hd.parts;have NR:=hid (fun b w' ht hd=>yq _ (Or.inr (Or.inr rfl)) (im (rv d)) b d mode w' ht hd m0 m1 (fun p w'' q0 q1 ht' hd'=>XG b d p w'' ht' hd' h0 hm he he1 h1 q0 q1));have W4:=hid (fun a=>(yv (c:=im (rv d)) (mode:=mode) (r:=a)));generalize fK (im (rv d)) mode=R at *;have G0:=hid (GD.new (d:=d) hv);have B0:=hid ((Below.refl w.heap.size w).alloc le0 (.cells #[.bool d.neg,.slice a1 n1 c1,.int .i64 d.e] 68));have HT:=hid hT;clear hT hv h0 hm he he1 h1;go_enter func209,ntmps209;go_wp2_with fail
 refine(NR.out _ _ (HT.out.below B0.out) G0.out).mono ?_;rintro r w1 ⟨a,ha,rfl,hb⟩;have B1:=bt0 B0 hb;have q:=W4.out a ha;subst q;clear hb ha;go_wp2;go_ret3;exact⟨rfl,B1.out⟩
noncomputable def ji (x mode:Int):Int:=
 if aD mode then(if ak x=1 then 18442240474082181120 else if ak x=5\/9223372036854775808<=x then 9221120237041090560 else if x=9218868437227405312 then x else if x=4607182418800017408 then 0 else fK (im (rv (ai x))) mode) else 0
def kO (x mode:Int):Bool:=aD mode && (tr x && decide (x<9223372036854775808/\x≠4607182418800017408))
noncomputable def km (x mode:Int):Int:=
 if aD mode then(if ak x=5\/13830554455654793216<x then 9221120237041090560 else if x=13830554455654793216 then 18442240474082181120 else if ak x=1\/x=9218868437227405312 then x else fK (im (1+rv (ai x))) mode) else 0
def mg (x mode:Int):Bool:=aD mode && (tr x && decide (x<13830554455654793216))
theorem AR {x mode:Int}(h:aD mode=false):ji x mode=0/\kO x mode=false/\dT mode=1:=by
 refine⟨?_,?_,CJ h⟩
 .unfold ji;rw[h];rfl
 .unfold kO;rw[h];rfl
theorem Bt {x mode:Int}(h:aD mode=true) (h1:ak x=1):ji x mode=18442240474082181120/\kO x mode=false/\dT mode=0:=by
 refine⟨?_,?_,jY h⟩
 .unfold ji;rw[aj h,aj h1]
 .unfold kO;rw[h,oI (Or.inr (Or.inl h1))];rfl
theorem tg {x mode:Int}(h:aD mode=true) (h1:ak x≠1) (h5:ak x=5\/9223372036854775808<=x):ji x mode=9221120237041090560/\kO x mode=false/\dT mode=0:=by
 refine⟨?_,?_,jY h⟩
 .unfold ji;rw[aj h,ag h1,aj h5]
 .unfold kO
  rcases h5 with h5|h5
  .rw[h,oI (Or.inl h5)];rfl
  .rw[e_ (show ¬(x<9223372036854775808/\x≠4607182418800017408) by omega)];simp
theorem Em {mode:Int}(h:aD mode=true):ji 9218868437227405312 mode=9218868437227405312/\kO 9218868437227405312 mode=false/\dT mode=0:=by
 refine⟨?_,?_,jY h⟩
 .unfold ji;rw[aj h,ag (by decide),ag (by decide),aj rfl]
 .unfold kO;rw[h,oI (Or.inr (Or.inr (by decide)))];rfl
theorem Cl {mode:Int}(h:aD mode=true):ji 4607182418800017408 mode=0/\kO 4607182418800017408 mode=false/\dT mode=0:=by
 refine⟨?_,?_,jY h⟩
 .unfold ji;rw[aj h,ag (by decide),ag (by decide),ag (by decide),aj rfl]
 .unfold kO;rw[h];decide
theorem AV {x mode:Int}(h:aD mode=true) (hf:fk x) (h0:x<9223372036854775808) (h1:x≠4607182418800017408):ji x mode=fK (im (rv (ai x))) mode/\kO x mode=true/\dT mode=0:=by
 obtain⟨a,b,c⟩:=zm hf;refine⟨?_,?_,jY h⟩
 .unfold ji
  rw[aj h,ag b,ag (by omega),ag (by rintro rfl;exact c (by decide)),ag h1]
 .unfold kO;rw[h,CK hf,fR (show x<9223372036854775808/\x≠4607182418800017408 from⟨h0,h1⟩)];rfl
theorem Dr {x mode:Int}(h:aD mode=false):km x mode=0/\mg x mode=false/\dT mode=1:=by
 refine⟨?_,?_,CJ h⟩
 .unfold km;rw[h];rfl
 .unfold mg;rw[h];rfl
theorem tf {x mode:Int}(h:aD mode=true) (h5:ak x=5\/13830554455654793216<x):km x mode=9221120237041090560/\mg x mode=false/\dT mode=0:=by
 refine⟨?_,?_,jY h⟩
 .unfold km;rw[aj h,aj h5]
 .unfold mg
  rcases h5 with h5|h5
  .rw[h,oI (Or.inl h5)];rfl
  .rw[e_ (show ¬(x<13830554455654793216) by omega)];simp
theorem Ch {mode:Int}(h:aD mode=true):km 13830554455654793216 mode=18442240474082181120/\mg 13830554455654793216 mode=false/\dT mode=0:=by
 refine⟨?_,?_,jY h⟩
 .unfold km;rw[aj h,ag (by decide),aj rfl]
 .unfold mg;rw[h];decide
theorem sZ {x mode:Int}(h:aD mode=true) (h0:x<13830554455654793216) (h1:ak x=1\/x=9218868437227405312):km x mode=x/\mg x mode=false/\dT mode=0:=by
 have h5:ak x≠5:=by
  rcases h1 with h1|rfl
  .omega
  .decide
 refine⟨?_,?_,jY h⟩
 .unfold km;rw[aj h,ag (by omega),ag (by omega),aj h1]
 .unfold mg
  rcases h1 with h1|rfl
  .rw[h,oI (Or.inr (Or.inl h1))];rfl
  .rw[h];decide
theorem CZ {x mode:Int}(h:aD mode=true) (hf:fk x) (h0:x<13830554455654793216):km x mode=fK (im (1+rv (ai x))) mode/\mg x mode=true/\dT mode=0:=by
 obtain⟨a,b,c⟩:=zm hf;refine⟨?_,?_,jY h⟩
 .unfold km
  rw[aj h,ag (by omega),ag (by omega),ag];rintro(h1|rfl)
  .exact b h1
  .exact c (by decide)
 .unfold mg;rw[h,CK hf,fR h0];rfl
theorem L5 {x:Int}(hf:fk x) (h0:x<9223372036854775808):0<rv (ai x):=by
 refine xT ?_ hf.m;rw[hf.neg];unfold di;exact e_ (by omega)
theorem JB {x:Int}(hf:fk x) (h:rv (ai x)=1) (h0:x<9223372036854775808):x=4607182418800017408:=by
 have e1:rv (ai 4607182418800017408)=1:=by rw[val_one,zg]
 have f1:ay 4607182418800017408<9218868437227405312:=by decide
 have a:=(DK hf.1 hf.2.1 (by decide) (by decide) hf.2.2.1 f1).1 (by rw[h,e1];exact dX);have b:=(DK (by decide) (by decide) hf.1 hf.2.1 f1 hf.2.2.1).1 (by rw[h,e1];exact dX);have e:bO 4607182418800017408=4607182418800017408:=by decide
 have hx:=hf.2.2.1;have x0:=hf.1;unfold bO at a b;unfold ay at a b hx;rw[ag (by omega),ag (by omega)]at a;rw[ag (by omega),ag (by omega)]at b;simp only[Int.reduceMod,Int.reduceLT,Int.reduceLE,e9]at a b;omega
theorem FW {x:Int}(hf:fk x) (h0:x<13830554455654793216): -1<rv (ai x):=by
 refine kY.1 fun h=>?_
 have e1:rv (ai 13830554455654793216)= -1:=by rw[Jj,Hs]
 have f1:ay 13830554455654793216<9218868437227405312:=by decide
 have a:=(DK hf.1 hf.2.1 (by decide) (by decide) hf.2.2.1 f1).1 (by rw[e1];exact h);have hx:=hf.2.2.1;have x0:=hf.1;have e2:bO 13830554455654793216= -4607182418800017408:=by decide
 rw[e2]at a;unfold bO at a;unfold ay at a hx;rw[ag (by omega)]at a;split at a <;> omega
theorem Th (x mode:Int) (w:World) (hT:aQ w) (u0:0<=x) (u1:x<=18446744073709551615) (p0: -9223372036854775808<=mode) (p1:mode<=9223372036854775807):
  Calls prog 153 #[.int .u64 x,.int .i64 mode] w fun r w'=>r=.returned (.tuple #[.int .u64 (ji x mode),.bool (kO x mode),.int .i64 (dT mode)])/\Below w.heap.size w w':=by
 have HT:=hid hT;have KN:=hid (fun w'=>dF mode w');have CL:=hid (fun w'=>fB x u0 u1 w');by_cases hk:aD mode=true
 case neg=>
  have hk':aD mode=false:=by simpa using hk
  rw[(AR (x:=x) hk').1,(AR (x:=x) hk').2.1,(AR (x:=x) hk').2.2];rw[hk']at KN;clear CL hT hk hk';go_enter func153,ntmps153;go_wp2_with (go_at_call 28;refine(KN.out _).mono ?_;rintro e w' ⟨rfl,rfl⟩)
  go_ret3;exact⟨rfl,Below.refl _ _⟩
 have hmode:0<=mode/\mode<=4:=by unfold aD at hk;exact gY hk
 rw[hk]at KN;by_cases h1:ak x=1
 .rw[(Bt hk h1).1,(Bt hk h1).2.1,(Bt hk h1).2.2]
  rw[h1]at CL;clear hT hk h1;go_enter func153,ntmps153
  go_wp2_with (first
   |(go_at_call 28;refine(KN.out _).mono ?_;rintro e w' ⟨rfl,rfl⟩)
   |(go_at_call 8;refine(CL.out _).mono ?_;rintro e w' ⟨rfl,rfl⟩))
  go_ret3;exact⟨rfl,Below.refl _ _⟩
 have c1:(ak x==1)=false:=by rw[aH];exact h1
 by_cases h5:ak x=5
 .rw[(tg hk h1 (Or.inl h5)).1,(tg hk h1 (Or.inl h5)).2.1,(tg hk h1 (Or.inl h5)).2.2]
  rw[h5]at CL;clear c1;clear hT hk h1 h5;go_enter func153,ntmps153
  go_wp2_with (first
   |(go_at_call 28;refine(KN.out _).mono ?_;rintro e w' ⟨rfl,rfl⟩)
   |(go_at_call 8;refine(CL.out _).mono ?_;rintro e w' ⟨rfl,rfl⟩))
  go_ret3;exact⟨rfl,Below.refl _ _⟩
 have c5:(ak x==5)=false:=by rw[aH];exact h5
 by_cases hs:9223372036854775808<=x
 .rw[(tg hk h1 (Or.inr hs)).1,(tg hk h1 (Or.inr hs)).2.1,(tg hk h1 (Or.inr hs)).2.2]
  have hh:(x/9223372036854775808==1)=true:=by rw[dV];omega
  generalize ak x=cc at *;clear hT hk h1 h5;go_enter func153,ntmps153
  go_wp2_with (first
   |(go_at_call 28;refine(KN.out _).mono ?_;rintro e w' ⟨rfl,rfl⟩)
   |(go_at_call 8;refine(CL.out _).mono ?_;rintro e w' ⟨rfl,rfl⟩))
  go_ret3;exact⟨rfl,Below.refl _ _⟩
 have hh:(x/9223372036854775808==1)=false:=by rw[aH];omega
 by_cases h4:ak x=4
 .have hx:x=9218868437227405312:=by rcases qs u0 u1 h4 with hx|hx <;> omega
  subst hx;rw[(Em hk).1,(Em hk).2.1,(Em hk).2.2];generalize ak 9218868437227405312=cc at *;clear hT hk h1 h5 h4;go_enter func153,ntmps153
  go_wp2_with (first
   |(go_at_call 28;refine(KN.out _).mono ?_;rintro e w' ⟨rfl,rfl⟩)
   |(go_at_call 8;refine(CL.out _).mono ?_;rintro e w' ⟨rfl,rfl⟩))
  go_ret3;exact⟨rfl,Below.refl _ _⟩
 by_cases hone:x=4607182418800017408
 .subst hone
  rw[(Cl hk).1,(Cl hk).2.1,(Cl hk).2.2];generalize ak 4607182418800017408=cc at *;clear hT hk h1 h5 h4;go_enter func153,ntmps153
  go_wp2_with (first
   |(go_at_call 28;refine(KN.out _).mono ?_;rintro e w' ⟨rfl,rfl⟩)
   |(go_at_call 8;refine(CL.out _).mono ?_;rintro e w' ⟨rfl,rfl⟩))
  go_ret3;exact⟨rfl,Below.refl _ _⟩
 have F0:fk x:=qi u0 u1 h5 h1 h4;have i1:(x==9218868437227405312)=false:=by rw[aH];rintro rfl;exact h4 (by decide)
 have i2:(x==4607182418800017408)=false:=by rw[aH];exact hone
 rw[(AV hk F0 (by omega) hone).1,(AV hk F0 (by omega) hone).2.1,(AV hk F0 (by omega) hone).2.2];obtain⟨bd1,bd2,bd3,bd4⟩:=F0.bd;have VA:=hid (fun w' ht=>ia x u0 u1 w' ht);have EL:=hid (fun v w' ht hd=>Jm v (ai x) mode w' ht hd (L5 F0 (by omega)) bd1 (by omega) (by omega) (fun h=>hone (JB F0 h (by omega))) hmode.1 hmode.2);generalize ak x=cc at *;generalize fK (im (rv (ai x))) mode=R at *;generalize ai x=D at *;clear hT hk h1 h5 h4 hone F0 bd1 bd2 bd3 bd4;go_enter func153,ntmps153
 go_wp2_with (first
  |(go_at_call 28;refine(KN.out _).mono ?_;rintro e w' ⟨rfl,rfl⟩)
  |(go_at_call 8;refine(CL.out _).mono ?_;rintro e w' ⟨rfl,rfl⟩))
 refine(VA.out _ HT.out).mono ?_;rintro r w1 ⟨v1,rfl,hu1,hb1⟩;have V1:=hid hu1;have B1:=hid hb1;clear hu1 hb1;go_wp2_with fail
 refine(EL.out _ _ (HT.out.below B1.out) V1.out).mono ?_;rintro r w2 ⟨rfl,hb2⟩;have B2:=bt0 B1 hb2;clear hb2;go_wp2;go_ret3;exact⟨rfl,B2.out⟩
theorem YY (x mode:Int) (w:World) (hT:aQ w) (u0:0<=x) (u1:x<=18446744073709551615) (p0: -9223372036854775808<=mode) (p1:mode<=9223372036854775807):
  Calls prog 154 #[.int .u64 x,.int .i64 mode] w fun r w'=>r=.returned (.tuple #[.int .u64 (km x mode),.bool (mg x mode),.int .i64 (dT mode)])/\Below w.heap.size w w':=by
 have HT:=hid hT;have KN:=hid (fun w'=>dF mode w');have CL:=hid (fun w'=>fB x u0 u1 w');by_cases hk:aD mode=true
 case neg=>
  have hk':aD mode=false:=by simpa using hk
  rw[(Dr (x:=x) hk').1,(Dr (x:=x) hk').2.1,(Dr (x:=x) hk').2.2];rw[hk']at KN;clear CL hT hk hk';go_enter func154,ntmps154;go_wp2_with (go_at_call 28;refine(KN.out _).mono ?_;rintro e w' ⟨rfl,rfl⟩)
  go_ret3;exact⟨rfl,Below.refl _ _⟩
 have hmode:0<=mode/\mode<=4:=by unfold aD at hk;exact gY hk
 rw[hk]at KN;by_cases h5:ak x=5
 .rw[(tf hk (Or.inl h5)).1,(tf hk (Or.inl h5)).2.1,(tf hk (Or.inl h5)).2.2]
  rw[h5]at CL;clear hT hk h5;go_enter func154,ntmps154
  go_wp2_with (first
   |(go_at_call 28;refine(KN.out _).mono ?_;rintro e w' ⟨rfl,rfl⟩)
   |(go_at_call 8;refine(CL.out _).mono ?_;rintro e w' ⟨rfl,rfl⟩))
  go_ret3;exact⟨rfl,Below.refl _ _⟩
 have c5:(ak x==5)=false:=by rw[aH];exact h5
 by_cases hs:13830554455654793216<x
 .rw[(tf hk (Or.inr hs)).1,(tf hk (Or.inr hs)).2.1,(tf hk (Or.inr hs)).2.2]
  generalize ak x=cc at *;clear hT hk h5;go_enter func154,ntmps154
  go_wp2_with (first
   |(go_at_call 28;refine(KN.out _).mono ?_;rintro e w' ⟨rfl,rfl⟩)
   |(go_at_call 8;refine(CL.out _).mono ?_;rintro e w' ⟨rfl,rfl⟩))
  go_ret3;exact⟨rfl,Below.refl _ _⟩
 by_cases hone:x=13830554455654793216
 .subst hone
  rw[(Ch hk).1,(Ch hk).2.1,(Ch hk).2.2];generalize ak 13830554455654793216=cc at *;clear hT hk h5;go_enter func154,ntmps154
  go_wp2_with (first
   |(go_at_call 28;refine(KN.out _).mono ?_;rintro e w' ⟨rfl,rfl⟩)
   |(go_at_call 8;refine(CL.out _).mono ?_;rintro e w' ⟨rfl,rfl⟩))
  go_ret3;exact⟨rfl,Below.refl _ _⟩
 have i2:(x==13830554455654793216)=false:=by rw[aH];exact hone
 have hlt:x<13830554455654793216:=by omega
 by_cases h1:ak x=1
 .rw[(sZ hk hlt (Or.inl h1)).1,(sZ hk hlt (Or.inl h1)).2.1,(sZ hk hlt (Or.inl h1)).2.2]
  rw[h1]at CL;clear c5;clear hT hk h5 h1;go_enter func154,ntmps154
  go_wp2_with (first
   |(go_at_call 28;refine(KN.out _).mono ?_;rintro e w' ⟨rfl,rfl⟩)
   |(go_at_call 8;refine(CL.out _).mono ?_;rintro e w' ⟨rfl,rfl⟩))
  go_ret3;exact⟨rfl,Below.refl _ _⟩
 have c1:(ak x==1)=false:=by rw[aH];exact h1
 by_cases h4:ak x=4
 .have hx:x=9218868437227405312:=by rcases qs u0 u1 h4 with hx|hx <;> omega
  subst hx;rw[(sZ hk hlt (Or.inr rfl)).1,(sZ hk hlt (Or.inr rfl)).2.1,(sZ hk hlt (Or.inr rfl)).2.2];generalize ak 9218868437227405312=cc at *;clear hT hk h5 h1 h4;go_enter func154,ntmps154
  go_wp2_with (first
   |(go_at_call 28;refine(KN.out _).mono ?_;rintro e w' ⟨rfl,rfl⟩)
   |(go_at_call 8;refine(CL.out _).mono ?_;rintro e w' ⟨rfl,rfl⟩))
  go_ret3;exact⟨rfl,Below.refl _ _⟩
 have F0:fk x:=qi u0 u1 h5 h1 h4;obtain⟨g,m,x2,hD⟩:∃g m x2,ai x=⟨g,m,x2⟩:=⟨_,_,_,rfl⟩;have hm0:=F0.m;obtain⟨bd1,bd2,bd3,bd4⟩:=F0.bd;have VA:=hid (fun w' ht=>DF x u0 u1 w' ht hD);have TP:=hid (fun a n c w' hv=>Ci (.agg #[.bool g,.slice a n c,.int .i64 x2]) ⟨g,m,x2⟩ w' ⟨_,rfl,hv⟩ (by rw[hD]at bd1;exact bd1) (by rw[hD]at bd2;simp only at bd2 ⊢;omega) (by rw[hD]at bd3;simp only at bd3 ⊢;omega));have c5:(ak x==5)=false:=by rw[aH];exact h5
 have c1':(ak x==1)=false:=by rw[aH];exact h1
 have i1:(x==9218868437227405312)=false:=by rw[aH];rintro rfl;exact h4 (by decide)
 rw[(CZ hk F0 hlt).1,(CZ hk F0 hlt).2.1,(CZ hk F0 hlt).2.2];have W1:=fun ht=>LL u0 u1 F0.2.2.1 hm0 ht mode
 have W4:=fun a=>(yv (c:=im (1+rv (ai x))) (mode:=mode) (r:=a))
 have hgt:=FW F0 hlt;have ibd:=fun ht=>Na F0 ht
 have rvi:=xb x;have hinc:mD x=plus (ai x) (norm false 1 0):=rfl;generalize ak x=cc at *;generalize mD x=I at *;rw[hD]at W1 W4 hm0 bd1 bd2 bd3 bd4 hgt ibd rvi hinc ⊢;simp only at bd1 bd2 bd3 bd4;obtain⟨T,hTp⟩:∃T,T=eM ⟨g,m,x2⟩:=⟨_,rfl⟩;rw[<-hTp]at TP W1 ibd;rcases jQ T (-60) with h|h
 .obtain⟨q1,q2⟩:=W1 h
  have q3:=W4 _ q1;have BS:=hid (fun a n c w' hv=>xU (.agg #[.bool g,.slice a n c,.int .i64 x2]) ⟨g,m,x2⟩ 53 (-1) w' ⟨_,rfl,hv⟩ bd4 (by decide) (by simp only;omega) (by simp only;omega));have bb:=Lt (d:=⟨g,m,x2⟩) (k:=53) (s:= -1) bd4 hm0 (by simp only;omega) (by simp only;omega) (Or.inr rfl);have NU:=hid (fun v w' hd=>rP v (cW ⟨g,m,x2⟩ (-1)) (53+65) mode w' hd bb.1 (by decide) (by omega) (by omega) (fun h0=>absurd h0 bb.2.2.2) hmode.1 hmode.2);rw[<-q3,q2]at NU;generalize cW ⟨g,m,x2⟩ (-1)=Z at *;generalize fK (im (1+rv ⟨g,m,x2⟩)) mode=R at *;clear hT hk h5 h1 h4 F0 hD W1 W4 hm0 bd1 bd2 bd3 bd4 hTp hgt ibd rvi hinc hone q1 q2 q3 bb;go_enter func154,ntmps154
  go_wp2_with (first
   |(go_at_call 28;refine(KN.out _).mono ?_;rintro e w' ⟨rfl,rfl⟩)
   |(go_at_call 8;refine(CL.out _).mono ?_;rintro e w' ⟨rfl,rfl⟩))
  refine(VA.out _ HT.out).mono ?_;rintro r w1 ⟨e1,f1,g1,rfl,hv1,hb1⟩;obtain⟨V1,hV1⟩:∃V,V=w1.alloc (.cells #[.bool g,.slice e1 f1 g1,.int .i64 x2] 68):=⟨_,rfl⟩;have X1:=hid (show ax V1 w1.heap.size 68 (.bool g) (.slice e1 f1 g1) (.int .i64 x2) from by rw[hV1];exact ax.new w1 _ _ _ _);have N1:=hid (show NV V1 (.slice e1 f1 g1) m from by rw[hV1];exact hv1.alloc _);have B1:=hid (show Below w.heap.size w V1 from by rw[hV1];exact hb1.alloc hb1.size _);obtain⟨b8,hb8⟩:∃b8,b8=w1.heap.size:=⟨_,rfl⟩;rw[<-hb8]at X1;have z8:w.heap.size<=b8:=by rw[hb8];exact hb1.size
  clear hv1 hb1;go_wp2_with fail
  rw[<-hV1,<-hb8];clear hV1 hb8;refine(TP.out e1 f1 g1 _ N1.out).mono ?_;rintro r w2 ⟨rfl,hb⟩;have B2:=bt0 B1 hb;have X2:=hid (X1.out.below hb);have N2:=hid (N1.out.below hb);clear hb B1 X1 N1;obtain⟨c0,c1,c2,-,-,-⟩:=X2.out.cells;go_wp2_with fail
  clear c0 c1 c2;refine(BS.out e1 f1 g1 _ N2.out).mono ?_;rintro r w8 ⟨v8,rfl,hu8,hb⟩;have B8:=bt0 B2 hb;have V8:=hid hu8;clear hb hu8;go_wp2_with fail
  refine(NU.out _ _ V8.out).mono ?_;rintro r w9 ⟨rfl,hb⟩;have B9:=bt0 B8 hb;clear hb;go_wp2;go_ret3;exact⟨rfl,B9.out⟩
 .obtain⟨i6,i7,i8,-⟩:=ibd h
  have hab:rv ⟨g,m,x2⟩≠0:=fun e0=>by
   have a:=uQ ⟨g,m,x2⟩;have b:=(ve hm0).1;have c:=Ea.db (eM ⟨g,m,x2⟩);have a0:(0:Rat).abs=0:=l9 (by decide);rw[e0,a0]at a;grind
  have ONE:=hid (fun w' ht=>yJ w' ht);have hOm:(norm false 1 0).m=1/\(norm false 1 0).e=0:=by decide+kernel
  have PL:=hid (fun v a n c w' ht hv hd=>pW (.agg #[.bool g,.slice a n c,.int .i64 x2]) v ⟨g,m,x2⟩ (norm false 1 0) 1280 w' ht ⟨_,rfl,hv⟩ hd bd1 (by rw[hOm.1];exact l_ (n:=1) (a:=1) (b:=1280) (by decide) (by omega)) (by omega) (by simp only;omega) (by simp only;omega) (by rw[hOm.2];omega) (by rw[hOm.2];omega));rw[<-hinc]at PL;have EL:=hid (fun v w' ht hd=>Jm v I mode w' ht hd (by rw[rvi];grind) i6 i7 i8 (by rw[rvi];grind) hmode.1 hmode.2);rw[<-rvi];generalize norm false 1 0=O at *;generalize fK (im (rv I)) mode=R at *;clear i6 i7 i8 hab hOm;clear hT hk h5 h1 h4 F0 hD W1 W4 hm0 bd1 bd2 bd3 bd4 hTp hgt ibd rvi hinc hone;go_enter func154,ntmps154
  go_wp2_with (first
   |(go_at_call 28;refine(KN.out _).mono ?_;rintro e w' ⟨rfl,rfl⟩)
   |(go_at_call 8;refine(CL.out _).mono ?_;rintro e w' ⟨rfl,rfl⟩))
  refine(VA.out _ HT.out).mono ?_;rintro r w1 ⟨e1,f1,g1,rfl,hv1,hb1⟩;obtain⟨V1,hV1⟩:∃V,V=w1.alloc (.cells #[.bool g,.slice e1 f1 g1,.int .i64 x2] 68):=⟨_,rfl⟩;have X1:=hid (show ax V1 w1.heap.size 68 (.bool g) (.slice e1 f1 g1) (.int .i64 x2) from by rw[hV1];exact ax.new w1 _ _ _ _);have N1:=hid (show NV V1 (.slice e1 f1 g1) m from by rw[hV1];exact hv1.alloc _);have B1:=hid (show Below w.heap.size w V1 from by rw[hV1];exact hb1.alloc hb1.size _);obtain⟨b8,hb8⟩:∃b8,b8=w1.heap.size:=⟨_,rfl⟩;rw[<-hb8]at X1;have z8:w.heap.size<=b8:=by rw[hb8];exact hb1.size
  clear hv1 hb1;go_wp2_with fail
  rw[<-hV1,<-hb8];clear hV1 hb8;refine(TP.out e1 f1 g1 _ N1.out).mono ?_;rintro r w2 ⟨rfl,hb⟩;have B2:=bt0 B1 hb;have X2:=hid (X1.out.below hb);have N2:=hid (N1.out.below hb);clear hb B1 X1 N1;obtain⟨c0,c1,c2,-,-,-⟩:=X2.out.cells;go_wp2_with fail
  clear c0 c1 c2;obtain⟨j0,j1,j2,-,-,-⟩:=X2.out.drew.cells
  go_region_held3 (fun w'=>w'.cell? ⟨b8,0,none⟩=some (.bool g)/\w'.cell? ⟨b8,1,none⟩=some (.slice e1 f1 g1)/\w'.cell? ⟨b8,2,none⟩=some (.int .i64 x2))
   (first
    |with_reducible exact⟨j0,j1,j2⟩
    |(obtain⟨i0,i1,i2,-,-,-⟩:=(X2.out.drew.below hb3).cells
      with_reducible exact⟨i0,i1,i2⟩)
    |(obtain⟨i0,i1,i2,-,-,-⟩:=((X2.out.drew.below HB3.out).below hb4).cells
      with_reducible exact⟨i0,i1,i2⟩)
    |(obtain⟨i0,i1,i2,-,-,-⟩:=(((X2.out.drew.below HB3.out).below HB4.out).below hb5).cells
      with_reducible exact⟨i0,i1,i2⟩))
   (first
    |(go_at_call 200;refine(ONE.out _ (HT.out.below B2.out.drew)).mono ?_;rintro r w3 ⟨v3,rfl,hu3,hb3⟩;have HB3:=hid hb3;have V3:=hid hu3;have B3:=hid (af B2.out.drew le0 hb3);have N3:=hid (N2.out.dr.below hb3))
    |(go_at_call 194;refine(PL.out _ e1 f1 g1 _ (HT.out.below B3.out) N3.out V3.out).mono ?_;rintro r w4 ⟨v4,rfl,hu4,hb4⟩;have HB4:=hid hb4;have V4:=hid hu4;have B4:=bt0 B3 hb4)
    |(go_at_call 209;refine(EL.out _ _ (HT.out.below B4.out) V4.out).mono ?_;rintro r w5 ⟨rfl,hb5⟩;have HB5:=hid hb5;have B5:=bt0 B4 hb5))
  go_wp2;go_ret3;exact⟨rfl,B5.out⟩
