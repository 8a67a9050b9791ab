import Derived.Test.YtofdjfdnckmmmaaGreatDoorAx
set_option linter.all false
namespace Go.Proofs.YtofdjfdnckmmmaaGreatDoor.Ea
def inc (M:Nat->Nat) (j:Nat):Nat->Nat:=fun x=>if x=j then M x+1 else M x
def dec (M:Nat->Nat) (j:Nat):Nat->Nat:=fun x=>if x=j then M x-1 else M x
theorem yH (M:Nat->Nat) (j:Nat):inc M j j=M j+1:=by unfold inc;rw[aj rfl]
theorem tJ (M:Nat->Nat) {j x:Nat}(h:x≠j):inc M j x=M x:=by unfold inc;rw[ag h]
theorem pF (M:Nat->Nat) (j:Nat):dec M j j=M j-1:=by unfold dec;rw[aj rfl]
theorem dE (M:Nat->Nat) {j x:Nat}(h:x≠j):dec M j x=M x:=by unfold dec;rw[ag h]
theorem zp (M:Nat->Nat) (j:Nat):dec (inc M j) j=M:=by
 funext x;by_cases h:x=j
 .subst h;rw[pF,yH,kX]
 .rw[dE _ h,tJ _ h]
theorem vp {M:Nat->Nat}{j:Nat}(h0:0<M j):inc (dec M j) j=M:=by
 funext x;by_cases h:x=j
 .subst h;rw[yH,pF];omega
 .rw[tJ _ h,dE _ h]
theorem uP (M:Nat->Nat) (i j:Nat):dec (dec M i) j=dec (dec M j) i:=by
 funext x;unfold dec;split <;> split <;> rfl
theorem Cy (M:Nat->Nat) {i j:Nat}(h:i≠j):dec (inc M i) j=inc (dec M j) i:=by
 funext x;unfold inc dec;by_cases h1:x=j
 .subst h1
  have h2:¬x=i:=fun e=>h e.symm
  simp [h2]
 .simp [h1]
inductive Sz:(Nat->Nat)->Nat->Prop
 |zero:∀M,(∀x,M x=0)->Sz M 0
 |step:∀M a s,0<M a->Sz (dec M a) s->Sz M (s+1)
theorem Sz.zero' {M:Nat->Nat}(h:Sz M 0):∀x,M x=0:=by cases h with|zero _ h=>exact h
theorem Sz.pos {M:Nat->Nat}{s:Nat}(h:Sz M (s+1)):∃a,0<M a/\Sz (dec M a) s:=by cases h with|step _ a _ h1 h2=>exact⟨a,h1,h2⟩
theorem Sz.dec:∀ {s:Nat}{M:Nat->Nat}{c:Nat},Sz M (s+1)->0<M c->Sz (dec M c) s:=by
 intro s
 induction s with
 |zero=>
  intro M c h hc;obtain⟨a,h1,h2⟩:=h.pos;by_cases hca:c=a
  .subst hca;exact h2
  .have :=h2.zero' c
   rw[dE _ hca]at this;omega
 |succ s ih=>
  intro M c h hc;obtain⟨a,h1,h2⟩:=h.pos;by_cases hca:c=a
  .subst hca;exact h2
  .have h3:0<Ea.dec M a c:=by rw[dE _ hca];exact hc
   have h4:=ih h2 h3;rw[uP]at h4;exact Sz.step _ a _ (by rw[dE _ (fun e=>hca e.symm)];exact h1) h4
theorem Sz.inc {s:Nat}{M:Nat->Nat}(c:Nat) (h:Sz M s):Sz (inc M c) (s+1):=Sz.step _ c _ (by rw[yH];omega) (by rw[zp];exact h)
theorem Sz.one {s:Nat}{M:Nat->Nat}{j:Nat}(h:Sz M s) (hj:∀x,x≠j->M x=0):M j=s:=by
 induction h with
 |zero M h=>exact h j
 |step M a s h1 h2 ih=>
  have ha:a=j:=ja fun e=>by have :=hj a e;omega
  subst ha;have :=ih (fun x hx=>by rw[dE _ hx];exact hj x hx);rw[pF]at this;omega
def Bw (M:Nat->Nat):Prop:= ∃p:Nat × Nat,p.1≠p.2/\0<M p.1/\0<M p.2
open Classical in
noncomputable def dd (b:Nat->Nat->Rat):Nat->(Nat->Nat)->Rat
 | 0,_=> 0
 |s+1,M=>
  if h:Bw M then(dd b s (dec M h.choose.1)-dd b s (dec M h.choose.2))/((h.choose.2:Rat)-(h.choose.1:Rat))
  else if h:∃j,0<M j then b h.choose (M h.choose-1) else 0
theorem eX (b:Nat->Nat->Rat) {j s:Nat}{M:Nat->Nat}(h:Sz M (s+1)) (hj:∀x,x≠j->M x=0):dd b (s+1) M=b j s:=by
 have h1:¬Bw M:=fun⟨p,h1,h2,h3⟩=>h1 (by
  have e1:p.1=j:=ja fun e=>by have :=hj _ e;omega
  have e2:p.2=j:=ja fun e=>by have :=hj _ e;omega
  rw[e1,e2])
 have h2:M j=s+1:=h.one hj;have h3:∃j,0<M j:=⟨j,by omega⟩;unfold dd;rw[dif_neg h1,dif_pos h3];have e:h3.choose=j:=ja fun e=>by have :=hj _ e;have :=h3.choose_spec;omega
 rw[e,h2,kX]
theorem pJ {x y:Nat}(h:x≠y):(y:Rat)-(x:Rat)≠0:=by
 intro e;have :(y:Rat)=(x:Rat):=by grind
 exact h (Rat.natCast_inj.1 this).symm
theorem jP (b:Nat->Nat->Rat):∀ {s:Nat}{M:Nat->Nat}{x y:Nat},Sz M (s+1)->x≠y->0<M x->0<M y->
  ((y:Rat)-(x:Rat))*dd b (s+1) M=dd b s (dec M x)-dd b s (dec M y):=by
 intro s
 induction s with
 |zero=>
  intro M x y h hxy hx hy;have h1:=(h.dec hx).zero' y;rw[dE _ (fun e=>hxy e.symm)]at h1;omega
 |succ s ih=>
  intro M x y h hxy hx hy;have h2:Bw M:=⟨(x,y),hxy,hx,hy⟩;obtain⟨ha,hb,hc⟩:=h2.choose_spec
  have e0:dd b (s+1+1) M=(dd b (s+1) (dec M h2.choose.1)-dd b (s+1) (dec M h2.choose.2))/((h2.choose.2:Rat)-(h2.choose.1:Rat)):=by
   conv=>lhs;unfold dd
   rw[dif_pos h2]
  generalize h2.choose.1=a at *;generalize h2.choose.2=c at *;have hac:=pJ ha
  have D0:((c:Rat)-(a:Rat))*dd b (s+1+1) M=dd b (s+1) (dec M a)-dd b (s+1) (dec M c):=by
   rw[e0,l7,bM hac]
  have D1:∀j,j≠a->j≠c->0<M j->((j:Rat)-(a:Rat))*dd b (s+1+1) M=dd b (s+1) (dec M a)-dd b (s+1) (dec M j):=by
   intro j hja hjc hj;have i1:=ih (h.dec hj) (x:=a) (y:=c) ha (by rw[dE _ (fun e=>hja e.symm)];exact hb) (by rw[dE _ (fun e=>hjc e.symm)];exact hc);have i2:=ih (h.dec hb) (x:=j) (y:=c) hjc (by rw[dE _ hja];exact hj) (by rw[dE _ (fun e=>ha e.symm)];exact hc);have i3:=ih (h.dec hc) (x:=a) (y:=j) (fun e=>hja e.symm) (by rw[dE _ ha];exact hb) (by rw[dE _ hjc];exact hj);rw[uP M j a,uP M j c]at i1;rw[uP M a c]at i2;have :((c:Rat)-(a:Rat))*(((j:Rat)-(a:Rat))*dd b (s+1+1) M-(dd b (s+1) (dec M a)-dd b (s+1) (dec M j)))=0:=by grind
   rcases gr.1 this with h|h
   .exact absurd h hac
   .grind
  have D2:∀j,0<M j->((j:Rat)-(a:Rat))*dd b (s+1+1) M=dd b (s+1) (dec M a)-dd b (s+1) (dec M j):=by
   intro j hj;by_cases h1:j=a
   .subst h1;grind
   .by_cases h2:j=c
    .subst h2;exact D0
    .exact D1 j h1 h2 hj
  have k1:=D2 x hx;have k2:=D2 y hy;grind
theorem jJ {s:Nat}{M:Nat->Nat}(h:Sz M (s+1)):(∃j,0<M j/\∀x,x≠j->M x=0)\/(∃x y,x≠y/\0<M x/\0<M y):=by
 obtain⟨a,ha,-⟩:=h.pos;by_cases h1:∃y,y≠a/\0<M y
 .obtain⟨y,h1,h2⟩:=h1;exact Or.inr ⟨a,y,fun e=>h1 e.symm,ha,h2⟩
 .exact Or.inl ⟨a,ha,fun x hx=>ja fun e=>h1 ⟨x,hx,by omega⟩⟩
def sm (f:Nat->Rat):Nat->Rat
 | 0=>f 0
 |n+1=>sm f n+f (n+1)
theorem lB (f:Nat->Rat) (n:Nat):sm f (n+1)=sm f n+f (n+1):=rfl
theorem Tm (f:Nat->Rat):sm f 0=f 0:=rfl
theorem xm (f g:Nat->Rat):∀n,sm (fun x=>f x+g x) n=sm f n+sm g n
 | 0=>rfl
 |n+1=>by rw[lB,lB,lB,xm f g n];grind
theorem BK (c:Rat) (f:Nat->Rat):∀n,sm (fun x=>c*f x) n=c*sm f n
 | 0=>rfl
 |n+1=>by rw[lB,lB,BK c f n];grind
theorem mJ {f g:Nat->Rat} :∀ {n:Nat},(∀x,x<=n->f x=g x)->sm f n=sm g n
 | 0,h=>h 0 (Nat.le_refl _)
 |n+1,h=>by rw[lB,lB,mJ (fun x hx=>h x (by omega)),h (n+1) (Nat.le_refl _)]
theorem vD:∀(n:Nat),sm (fun _=> 0) n=0
 | 0=>rfl
 |n+1=>by rw[lB,vD n];grind
theorem sm_at {j:Nat}(c:Rat):∀ {n:Nat},j<=n->sm (fun x=>if x=j then c else 0) n=c
 | 0,h=>by obtain rfl:j=0:=by omega
           rw[Tm,aj rfl]
 |n+1,h=>by
  rw[lB];by_cases h1:j=n+1
  .subst h1
   rw[aj rfl,mJ (g:=fun _=> 0) (fun x hx=>ag (by omega)),vD];grind
  .rw[ag (fun e=>h1 e.symm),sm_at c (by omega)];grind
def Ex (b:Nat->Nat->Rat) (β:Rat):Prop:= ∀j i,β*b j i=((i+1:Nat):Rat)*b j (i+1)
theorem MP {b:Nat->Nat->Rat}{β:Rat}(hb:Ex b β) {L:Nat} :∀ {s:Nat}{M:Nat->Nat},Sz M (s+1)->(∀x,L<x->M x=0)->
  β*dd b (s+1) M=sm (fun x=>(M x:Rat)*dd b (s+1+1) (inc M x)) L:=by
 intro s
 induction s with
 |zero=>
  intro M h hL;rcases jJ h with⟨j,hj,h1⟩|⟨x,y,hxy,hx,hy⟩
  .have hjL:j<=L:=ja fun e=>by have :=hL j (by omega);omega
   have e1:=h.one h1
   rw[mJ (g:=fun x=>if x=j then((0+1:Nat):Rat)*dd b (0+1+1) (inc M j) else 0) (fun x hx=>by
    by_cases h2:x=j
    .subst h2;rw[aj rfl,e1]
    .rw[ag h2,h1 x h2,show((0:Nat):Rat)=0 from rfl,fS]),sm_at _ hjL,eX b h h1,eX b (h.inc j) (fun x hx=>by rw[tJ _ hx];exact h1 x hx)]
   exact hb j 0
  .exfalso
   have h1:=(h.dec hx).zero' y;rw[dE _ (fun e=>hxy e.symm)]at h1;omega
 |succ s ih=>
  intro M h hL;rcases jJ h with⟨j,hj,h1⟩|⟨x,y,hxy,hx,hy⟩
  .have hjL:j<=L:=ja fun e=>by have :=hL j (by omega);omega
   have e1:=h.one h1
   rw[mJ (g:=fun x=>if x=j then((s+1+1:Nat):Rat)*dd b (s+1+1+1) (inc M j) else 0) (fun x hx=>by
    by_cases h2:x=j
    .subst h2;rw[aj rfl,e1]
    .rw[ag h2,h1 x h2,show((0:Nat):Rat)=0 from rfl,fS]),sm_at _ hjL,eX b h h1,eX b (h.inc j) (fun x hx=>by rw[tJ _ hx];exact h1 x hx)]
   exact hb j (s+1)
  .have hxL:x<=L:=ja fun e=>by have :=hL x (by omega);omega
   have hyL:y<=L:=ja fun e=>by have :=hL y (by omega);omega
   have i1:=ih (h.dec hx) (fun z hz=>by rw[dE _ (by omega)];exact hL z hz);have i2:=ih (h.dec hy) (fun z hz=>by rw[dE _ (by omega)];exact hL z hz);have d0:=jP b h hxy hx hy
   have t1:sm (fun z=>(dec M x z:Rat)*dd b (s+1+1) (inc (dec M x) z)) L=sm (fun z=>(M z:Rat)*dd b (s+1+1) (inc (dec M x) z)) L-dd b (s+1+1) M:=by
    have :sm (fun z=>(M z:Rat)*dd b (s+1+1) (inc (dec M x) z)) L=sm (fun z=>(dec M x z:Rat)*dd b (s+1+1) (inc (dec M x) z)+(if z=x then dd b (s+1+1) M else 0)) L:=by
     apply mJ;intro z hz;by_cases h2:z=x
     .subst h2
      rw[aj rfl,pF,vp hx];obtain⟨m,hm⟩:∃m,M z=m+1:=⟨M z-1,by omega⟩;rw[hm,kX,dW];grind
     .rw[ag h2,dE _ h2];grind
    rw[this,xm,sm_at _ hxL];grind
   have t2:sm (fun z=>(dec M y z:Rat)*dd b (s+1+1) (inc (dec M y) z)) L=sm (fun z=>(M z:Rat)*dd b (s+1+1) (inc (dec M y) z)) L-dd b (s+1+1) M:=by
    have :sm (fun z=>(M z:Rat)*dd b (s+1+1) (inc (dec M y) z)) L=sm (fun z=>(dec M y z:Rat)*dd b (s+1+1) (inc (dec M y) z)+(if z=y then dd b (s+1+1) M else 0)) L:=by
     apply mJ;intro z hz;by_cases h2:z=y
     .subst h2
      rw[aj rfl,pF,vp hy];obtain⟨m,hm⟩:∃m,M z=m+1:=⟨M z-1,by omega⟩;rw[hm,kX,dW];grind
     .rw[ag h2,dE _ h2];grind
    rw[this,xm,sm_at _ hyL];grind
   have t3:((y:Rat)-(x:Rat))*sm (fun z=>(M z:Rat)*dd b (s+1+1+1) (inc M z)) L=sm (fun z=>(M z:Rat)*dd b (s+1+1) (inc (dec M x) z)) L-sm (fun z=>(M z:Rat)*dd b (s+1+1) (inc (dec M y) z)) L:=by
    have :sm (fun z=>(M z:Rat)*dd b (s+1+1) (inc (dec M x) z)) L=sm (fun z=>((y:Rat)-(x:Rat))*((M z:Rat)*dd b (s+1+1+1) (inc M z))+(M z:Rat)*dd b (s+1+1) (inc (dec M y) z)) L:=by
     apply mJ;intro z hz;have d1:=jP b (h.inc z) hxy (by unfold inc;split <;> omega) (by unfold inc;split <;> omega)
     have f1:dec (inc M z) x=inc (dec M x) z:=by
      by_cases e:z=x
      .subst e;rw[zp,vp hx]
      .exact Cy M e
     have f2:dec (inc M z) y=inc (dec M y) z:=by
      by_cases e:z=y
      .subst e;rw[zp,vp hy]
      .exact Cy M e
     rw[f1,f2]at d1;grind
    rw[this,xm,BK];grind
   have hne:=pJ hxy
   have :((y:Rat)-(x:Rat))*(β*dd b (s+1+1) M-sm (fun z=>(M z:Rat)*dd b (s+1+1+1) (inc M z)) L)=0:=by
    rw[t1]at i1;rw[t2]at i2;grind
   rcases gr.1 this with h|h
   .exact absurd h hne
   .grind
theorem ag6 {b:Nat->Nat->Rat}{β:Rat}(hb:Ex b β) (hβ:β≠0) {L:Nat}(h0:∀j,j<=L->b j 0≠0):∀ {s:Nat}{M:Nat->Nat},Sz M (s+1)->(∀x,L<x->M x=0)->
  ∃j,j<=L/\dd b (s+1+1) (inc M j)≠0:=by
 intro s
 induction s with
 |zero=>
  intro M h hL;refine gP fun hn=>?_
  have hz:∀j,j<=L->dd b (0+1+1) (inc M j)=0:=fun j hj=>gP fun e=>hn ⟨j,hj,e⟩
  have h1:=MP hb h hL;rw[mJ (g:=fun _=> 0) (fun x hx=>by rw[hz x hx,jV]),vD]at h1;rcases jJ h with⟨j,hj,h2⟩|⟨x,y,hxy,hx,hy⟩
  .rw[eX b h h2]at h1
   rcases gr.1 h1 with h|h
   .exact hβ h
   .exact h0 j (ja fun e=>by have :=hL j (by omega);omega) h
  .have h1:=(h.dec hx).zero' y
   rw[dE _ (fun e=>hxy e.symm)]at h1;omega
 |succ s ih=>
  intro M h hL;refine gP fun hn=>?_
  have hz:∀j,j<=L->dd b (s+1+1+1) (inc M j)=0:=fun j hj=>gP fun e=>hn ⟨j,hj,e⟩
  have h1:=MP hb h hL;rw[mJ (g:=fun _=> 0) (fun x hx=>by rw[hz x hx,jV]),vD]at h1
  have h2:dd b (s+1+1) M=0:=by
   rcases gr.1 h1 with h|h
   .exact absurd h hβ
   .exact h
  obtain⟨l,hl,hs⟩:=h.pos
  obtain⟨j,hj,h3⟩:=ih hs (fun z hz=>by
   have :z≠l:=fun e=>by subst e;have :=hL z hz;omega
   rw[dE _ this];exact hL z hz)
  apply h3;by_cases e:j=l
  .subst e;rw[vp hl];exact h2
  .have d:=jP b (h.inc j) (x:=l) (y:=j) (fun h=>e h.symm) (by rw[tJ _ (fun h=>e h.symm)];exact hl) (by rw[yH];omega)
   rw[hz j hj,jV,zp,h2,Cy M e]at d;grind
def Zq (r:Rat):Prop:= ∃z:Int,r=(z:Rat)
theorem Zq.mul {a b:Rat}(ha:Zq a) (hb:Zq b):Zq (a*b):=by
 obtain⟨x,rfl⟩:=ha;obtain⟨y,rfl⟩:=hb;exact⟨x*y,(sk x y).symm⟩
theorem Zq.add {a b:Rat}(ha:Zq a) (hb:Zq b):Zq (a+b):=by
 obtain⟨x,rfl⟩:=ha;obtain⟨y,rfl⟩:=hb;exact⟨x+y,(wz x y).symm⟩
theorem Zq.sub {a b:Rat}(ha:Zq a) (hb:Zq b):Zq (a-b):=by
 obtain⟨x,rfl⟩:=ha;obtain⟨y,rfl⟩:=hb;exact⟨x-y,(Rat.intCast_sub x y).symm⟩
theorem Zq.int (z:Int):Zq (z:Rat):=⟨z,rfl⟩
theorem Zq.zero:Zq 0:=⟨0,rfl⟩
theorem Zq.nat (n:Nat):Zq (n:Rat):=⟨n,rfl⟩
theorem Zq.pow {a:Rat}(ha:Zq a):∀n:Nat,Zq (a^n)
 | 0=>by rw[cU];exact⟨1,rfl⟩
 |n+1=>by rw[bI];exact(Zq.pow ha n).mul ha
theorem Zq.one_le {a:Rat}(ha:Zq a) (h:a≠0):1<=a\/a<= -1:=by
 obtain⟨z,rfl⟩:=ha;have hz:z≠0:=fun e=>h (by rw[e];rfl)
 rcases jQ 0 z with h1|h1
 .left;have :((1:Int):Rat)<=(z:Rat):=pE.2 (by omega)
  exact this
 .right;have :(z:Rat)<=((-1:Int):Rat):=pE.2 (by omega)
  exact this
def pr (f:Nat->Rat):Nat->Rat
 | 0=>f 0
 |n+1=>pr f n*f (n+1)
theorem xX {f g:Nat->Rat} :∀ {n:Nat},(∀x,x<=n->f x=g x)->pr f n=pr g n
 | 0,h=>h 0 (Nat.le_refl _)
 |n+1,h=>by unfold pr;rw[xX (fun x hx=>h x (by omega)),h (n+1) (Nat.le_refl _)]
theorem Bq {f g:Nat->Rat}{j:Nat}(c:Rat):∀ {n:Nat},j<=n->(∀x,x<=n->x≠j->f x=g x)->f j=c*g j->pr f n=c*pr g n
 | 0,h,h1,h2=>by obtain rfl:j=0:=by omega
                 exact h2
 |n+1,h,h1,h2=>by
  unfold pr;by_cases e:j=n+1
  .subst e
   rw[xX (fun x hx=>h1 x (by omega) (by omega)),h2];grind
  .rw[Bq c (by omega) (fun x hx=>h1 x (by omega)) h2,h1 (n+1) (Nat.le_refl _) (fun e2=>e e2.symm)];grind
theorem yr {f:Nat->Rat} :∀ {n:Nat},(∀x,x<=n->Zq (f x))->Zq (pr f n)
 | 0,h=>h 0 (Nat.le_refl _)
 |n+1,h=>by unfold pr;exact(yr (fun x hx=>h x (by omega))).mul (h (n+1) (Nat.le_refl _))
def qd (j0 L:Nat) (M:Nat->Nat):Rat:=pr (fun l=>if l=j0 then 1 else((l:Rat)-(j0:Rat))^M l) L
theorem GV (j0 L:Nat) (M:Nat->Nat):Zq (qd j0 L M):=yr fun x _=>by
 split
 .exact⟨1,rfl⟩
 .exact((Zq.nat x).sub (Zq.nat j0)).pow _
theorem QK {j0 l L:Nat}{M:Nat->Nat}(hl:l<=L) (h:l≠j0) (hm:0<M l):qd j0 L M=((l:Rat)-(j0:Rat))*qd j0 L (dec M l):=by
 unfold qd;refine Bq _ hl (fun x hx hxl=>?_) ?_
 .show(if x=j0 then(1:Rat) else _)=if x=j0 then 1 else _
  rw[dE _ hxl]
 .show(if l=j0 then(1:Rat) else _)=_*(if l=j0 then 1 else _)
  rw[ag h,ag h,pF];obtain⟨m,hm2⟩:∃m,M l=m+1:=⟨M l-1,by omega⟩;rw[hm2,kX,bI];grind
theorem Vf {j0 L:Nat}(M:Nat->Nat):qd j0 L (dec M j0)=qd j0 L M:=by
 unfold qd;apply xX;intro x _
 show(if x=j0 then(1:Rat) else _)=if x=j0 then 1 else _
 by_cases h:x=j0
 .rw[aj h,aj h]
 .rw[ag h,ag h,dE _ h]
theorem Iy {b:Nat->Nat->Rat}{j0:Nat}(hb:∀j i,j≠j0->b j i=0):∀ {s:Nat}{M:Nat->Nat},Sz M (s+1)->M j0=0->dd b (s+1) M=0:=by
 intro s
 induction s with
 |zero=>
  intro M h h0;rcases jJ h with⟨j,hj,h2⟩|⟨x,y,hxy,hx,hy⟩
  .rw[eX b h h2]
   exact hb j 0 (fun e=>by subst e;omega)
  .have h1:=(h.dec hx).zero' y
   rw[dE _ (fun e=>hxy e.symm)]at h1;omega
 |succ s ih=>
  intro M h h0;rcases jJ h with⟨j,hj,h2⟩|⟨x,y,hxy,hx,hy⟩
  .rw[eX b h h2]
   exact hb j _ (fun e=>by subst e;omega)
  .have d:=jP b h hxy hx hy
   rw[ih (h.dec hx) (by unfold dec;split <;> omega),ih (h.dec hy) (by unfold dec;split <;> omega)]at d;have hne:=pJ hxy;have :((y:Rat)-(x:Rat))*dd b (s+1+1) M=0:=by grind
   rcases gr.1 this with h|h
   .exact absurd h hne
   .exact h
theorem ad0 {b:Nat->Nat->Rat}{j0 L n:Nat}{W lam:Rat}(hb:∀j i,j≠j0->b j i=0) (hW:∀i,i<=n->Zq (W*b j0 i)) (hlam:∀l,l<=L->l≠j0->∃z:Int,lam=(z:Rat)*((l:Rat)-(j0:Rat))) (hlz:Zq lam):
  ∀ {s m:Nat}{M:Nat->Nat},Sz M (s+1)->(∀x,L<x->M x=0)->M j0=m+1->m<=n->Zq (qd j0 L M*lam^m*W*dd b (s+1) M):=by
 intro s
 induction s with
 |zero=>
  intro m M h hL hm hn;rcases jJ h with⟨j,hj,h2⟩|⟨x,y,hxy,hx,hy⟩
  .have :j0=j:=ja fun e=>by have :=h2 j0 e;omega
   subst this;rw[eX b h h2,iu];exact((GV _ _ _).mul (hlz.pow _)).mul (hW 0 (by omega))
  .have h1:=(h.dec hx).zero' y
   rw[dE _ (fun e=>hxy e.symm)]at h1;omega
 |succ s ih=>
  intro m M h hL hm hn;by_cases h1:∃l,l≠j0/\0<M l
  .obtain⟨l,hl,hp⟩:=h1
   have hlL:l<=L:=ja fun e=>by have :=hL l (by omega);omega
   have d:=jP b h (fun e=>hl e.symm) (by omega) hp;have i2:=ih (h.dec hp) (fun z hz=>by rw[dE _ (by omega)];exact hL z hz) (m:=m) (by rw[dE _ (fun e=>hl e.symm)];exact hm) hn;have hq:=QK hlL hl hp;obtain⟨z,hz⟩:=hlam l hlL hl;rcases fl m with h0|h0
   .subst h0
    have e1:=Iy hb (h.dec (c:=j0) (by omega)) (by rw[pF,hm])
    have :qd j0 L M*lam^0*W*dd b (s+1+1) M=((-1:Int):Rat)*(qd j0 L (dec M l)*lam^0*W*dd b (s+1) (dec M l)):=by
     rw[hq,show((-1:Int):Rat)= -1 by rfl];rw[e1]at d;grind
    rw[this];exact(Zq.int _).mul i2
   .obtain⟨k,rfl⟩:∃k,m=k+1:=⟨m-1,by omega⟩
    have i1:=ih (h.dec (c:=j0) (by omega)) (fun z hz=>by
     by_cases e:z=j0
     .rw[e]at hz;have :=hL j0 hz;omega
     .rw[dE _ e];exact hL z hz) (m:=k) (by rw[pF,hm,kX]) (by omega)
    rw[Vf]at i1
    have :qd j0 L M*lam^(k+1)*W*dd b (s+1+1) M=(z:Rat)*(qd j0 L M*lam^k*W*dd b (s+1) (dec M j0))-qd j0 L (dec M l)*lam^(k+1)*W*dd b (s+1) (dec M l):=by
     rw[bI]
     have e2:qd j0 L M*(lam^k*lam)*W*dd b (s+1+1) M=(z:Rat)*(qd j0 L M*lam^k*W)*(((l:Rat)-(j0:Rat))*dd b (s+1+1) M):=by
      conv=>lhs;rw[hz]
      rw[<-hz];grind
     rw[e2,d]
     have e3:(z:Rat)*(qd j0 L M*lam^k*W)*dd b (s+1) (dec M l)=qd j0 L (dec M l)*(lam^k*lam)*W*dd b (s+1) (dec M l):=by
      rw[hq]
      conv=>rhs;rw[hz]
      rw[<-hz];grind
     grind
    rw[this];exact((Zq.int _).mul i1).sub i2
  .have hj:∀x,x≠j0->M x=0:=fun x hx=>ja fun e=>h1 ⟨x,hx,by omega⟩
   have :=h.one hj;rw[eX b h hj,iu];exact((GV _ _ _).mul (hlz.pow _)).mul (hW (s+1) (by omega))
theorem aj8 (a b:Nat->Nat->Rat):∀ {s:Nat}{M:Nat->Nat},Sz M (s+1)->dd (fun j i=>a j i+b j i) (s+1) M=dd a (s+1) M+dd b (s+1) M:=by
 intro s
 induction s with
 |zero=>
  intro M h;rcases jJ h with⟨j,hj,h2⟩|⟨x,y,hxy,hx,hy⟩
  .rw[eX _ h h2,eX _ h h2,eX _ h h2]
  .have h1:=(h.dec hx).zero' y
   rw[dE _ (fun e=>hxy e.symm)]at h1;omega
 |succ s ih=>
  intro M h;rcases jJ h with⟨j,hj,h2⟩|⟨x,y,hxy,hx,hy⟩
  .rw[eX _ h h2,eX _ h h2,eX _ h h2]
  .have d1:=jP (fun j i=>a j i+b j i) h hxy hx hy
   have d2:=jP a h hxy hx hy;have d3:=jP b h hxy hx hy;rw[ih (h.dec hx),ih (h.dec hy)]at d1;have hne:=pJ hxy;have :((y:Rat)-(x:Rat))*(dd (fun j i=>a j i+b j i) (s+1+1) M-(dd a (s+1+1) M+dd b (s+1+1) M))=0:=by grind
   rcases gr.1 this with h|h
   .exact absurd h hne
   .grind
theorem Yk {b:Nat->Nat->Rat}{c:Rat} :∀ {s:Nat}{M:Nat->Nat},Sz M (s+1)->(∀j i,i<M j-> -c<=b j i/\b j i<=c)->
  -(2^s*c)<=dd b (s+1) M/\dd b (s+1) M<=2^s*c:=by
 intro s
 induction s with
 |zero=>
  intro M h hc;rcases jJ h with⟨j,hj,h2⟩|⟨x,y,hxy,hx,hy⟩
  .rw[eX _ h h2,cU,l8]
   exact hc j 0 hj
  .have h1:=(h.dec hx).zero' y
   rw[dE _ (fun e=>hxy e.symm)]at h1;omega
 |succ s ih=>
  intro M h hc;have hp:(0:Rat)<=2^s:=fJ (by decide);rcases jJ h with⟨j,hj,h2⟩|⟨x,y,hxy,hx,hy⟩
  .rw[eX _ h h2]
   obtain⟨h3,h4⟩:=hc j (s+1) (by rw[h.one h2];omega);have hc0:0<=c:=by grind
   have hp1:(1:Rat)<=2^(s+1):=by
    have :((1:Nat):Rat)<=((2^(s+1):Nat):Rat):=cL.2 (Nat.one_le_two_pow);rw[Rat.natCast_pow]at this;exact this
   have :=aV hp1 hc0;grind
  .have d:=jP b h hxy hx hy
   obtain⟨a1,a2⟩:=ih (h.dec hx) (fun j i hi=>hc j i (by unfold dec at hi;split at hi <;> omega));obtain⟨b1,b2⟩:=ih (h.dec hy) (fun j i hi=>hc j i (by unfold dec at hi;split at hi <;> omega));rw[bI];generalize dd b (s+1) (dec M x)=u at *;generalize dd b (s+1) (dec M y)=v at *;generalize dd b (s+1+1) M=r at *;generalize ht:(2:Rat)^s*c=t at *;have hd:1<=(y:Rat)-(x:Rat)\/(y:Rat)-(x:Rat)<= -1:=((Zq.nat y).sub (Zq.nat x)).one_le (pJ hxy);have e:(2:Rat)^s*2*c=2*t:=by rw[<-ht];grind
   rw[e];clear ht e;constructor
   .refine fw.1 fun h6=>?_
    rcases hd with h5|h5
    .have :=aN (a:= -r) (b:=(y:Rat)-(x:Rat)-1) (by grind) (by grind)
     grind
    .have :=aN (a:= -r) (b:= -1-((y:Rat)-(x:Rat))) (by grind) (by grind)
     grind
   .refine fw.1 fun h6=>?_
    rcases hd with h5|h5
    .have :=aN (a:=r) (b:=(y:Rat)-(x:Rat)-1) (by grind) (by grind)
     grind
    .have :=aN (a:=r) (b:= -1-((y:Rat)-(x:Rat))) (by grind) (by grind)
     grind
def tm (x:Rat):Nat->Rat
 | 0=> 1
 |k+1=>tm x k*x/((k+1:Nat):Rat)
def E (x:Rat):Nat->Rat
 | 0=> 0
 |n+1=>E x n+tm x n
def su (f:Nat->Rat):Nat->Rat
 | 0=> 0
 |n+1=>su f n+f n
theorem ka (f:Nat->Rat) (n:Nat):su f (n+1)=su f n+f n:=rfl
theorem sG (f:Nat->Rat):su f 0=0:=rfl
theorem Dg (f g:Nat->Rat):∀n,su (fun x=>f x+g x) n=su f n+su g n
 | 0=>by rw[sG,sG,sG];grind
 |n+1=>by rw[ka,ka,ka,Dg f g n];grind
theorem rO (c:Rat) (f:Nat->Rat):∀n,su (fun x=>c*f x) n=c*su f n
 | 0=>by rw[sG,sG,jV]
 |n+1=>by rw[ka,ka,rO c f n];grind
theorem tE {f g:Nat->Rat} :∀ {n:Nat},(∀x,x<n->f x=g x)->su f n=su g n
 | 0,h=>rfl
 |n+1,h=>by rw[ka,ka,tE (fun x hx=>h x (by omega)),h n (by omega)]
theorem uA {f g:Nat->Rat} :∀ {n:Nat},(∀x,x<n->f x<=g x)->su f n<=su g n
 | 0,h=>dX
 |n+1,h=>by
  rw[ka,ka];have h1:=uA (f:=f) (g:=g) (n:=n) (fun x hx=>h x (by omega));have h2:=h n (by omega);grind
theorem Am {f:Nat->Rat}(hf:∀x,0<=f x) {m:Nat} :∀ {n:Nat},m<=n->su f m<=su f n
 | 0,h=>by obtain rfl:m=0:=by omega
           exact dX
 |n+1,h=>by
  by_cases e:m=n+1
  .subst e;exact dX
  .have h1:=Am (f:=f) hf (m:=m) (n:=n) (by omega)
   have h2:=hf n;rw[ka];grind
theorem Ms (f:Nat->Rat):∀n,su f (n+1)=f 0+su (fun i=>f (i+1)) n
 | 0=>by show 0+f 0=f 0+0;grind
 |n+1=>by
  have h:=Ms f n
  show su f (n+1)+f (n+1)=f 0+(su (fun i=>f (i+1)) n+f (n+1))
  rw[h];grind
theorem vV (x:Rat):∀n,E x n=su (tm x) n
 | 0=>rfl
 |n+1=>by rw[ka,<-vV x n];rfl
theorem cast_pos (k:Nat):(0:Rat)<((k+1:Nat):Rat):=fo.2 (by omega)
theorem gO (x:Rat) (k:Nat):((k+1:Nat):Rat)*tm x (k+1)=x*tm x k:=by
 show((k+1:Nat):Rat)*(tm x k*x/((k+1:Nat):Rat))=_
 rw[l7,bM (cR (cast_pos k)),l7]
theorem iB {x:Rat}(h:0<=x):∀k,0<=tm x k
 | 0=>by show(0:Rat)<=1;decide
 |k+1=>by
  have h1:=gO x k;have h2:=aN h (iB h k);rw[<-h1]at h2;have h3:=cast_pos k;refine fw.1 fun h4=>?_
  have :=uu h4 h3;rw[jV]at this;grind
theorem pU {x:Rat}(h:0<=x) {m n:Nat}(hmn:m<=n):E x m<=E x n:=by
 rw[vV,vV];exact Am (iB h) hmn
theorem qM (x:Rat):E x 1=1:=by show 0+1=(1:Rat);grind
theorem ki {x:Rat}(h:0<=x) (n:Nat):0<=E x n:=pU h (d_ n)
theorem Vu (k:Nat):tm 0 (k+1)=0:=by
 have h1:=gO 0 k;rw[fS]at h1;rcases gr.1 h1 with h|h
 .exact absurd h (cR (cast_pos k))
 .exact h
theorem vN:∀n,E 0 (n+1)=1
 | 0=>qM 0
 |n+1=>by
  show E 0 (n+1)+tm 0 (n+1)=1
  rw[vN n,Vu];grind
def cv (x y:Rat) (n:Nat):Rat:=su (fun i=>tm x i*tm y (n-i)) (n+1)
theorem VJ (x y:Rat) (n:Nat):((n+1:Nat):Rat)*cv x y (n+1)=(x+y)*cv x y n:=by
 have e1:((n+1:Nat):Rat)*cv x y (n+1)=su (fun i=>((i:Nat):Rat)*tm x i*tm y (n+1-i)+tm x i*(((n+1-i:Nat):Rat)*tm y (n+1-i))) (n+1+1):=by
  unfold cv;rw[<-rO];apply tE;intro i hi
  have :((n+1:Nat):Rat)=((i:Nat):Rat)+((n+1-i:Nat):Rat):=by
   rw[<-dW];congr 1;omega
  rw[this];grind
 have e2:su (fun i=>((i:Nat):Rat)*tm x i*tm y (n+1-i)) (n+1+1)=x*cv x y n:=by
  rw[Ms];unfold cv;rw[<-rO]
  have :∀i,i<n+1->(fun i=>(((i+1:Nat):Nat):Rat)*tm x (i+1)*tm y (n+1-(i+1))) i=(fun i=>x*(tm x i*tm y (n-i))) i:=by
   intro i hi
   show((i+1:Nat):Rat)*tm x (i+1)*tm y (n+1-(i+1))=x*(tm x i*tm y (n-i))
   rw[gO,show n+1-(i+1)=n-i by omega];grind
  rw[tE this];have h0:((0:Nat):Rat)=0:=rfl;rw[h0];grind
 have e3:su (fun i=>tm x i*(((n+1-i:Nat):Rat)*tm y (n+1-i))) (n+1+1)=y*cv x y n:=by
  show su (fun i=>tm x i*(((n+1-i:Nat):Rat)*tm y (n+1-i))) (n+1)+tm x (n+1)*(((n+1-(n+1):Nat):Rat)*tm y (n+1-(n+1)))=_
  rw[show n+1-(n+1)=0 by omega,show((0:Nat):Rat)=0 from rfl];unfold cv;rw[<-rO]
  have :∀i,i<n+1->(fun i=>tm x i*(((n+1-i:Nat):Rat)*tm y (n+1-i))) i=(fun i=>y*(tm x i*tm y (n-i))) i:=by
   intro i hi
   show tm x i*(((n+1-i:Nat):Rat)*tm y (n+1-i))=y*(tm x i*tm y (n-i))
   rw[show n+1-i=(n-i)+1 by omega,gO];grind
  rw[tE this];grind
 rw[e1,Dg,e2,e3];grind
theorem K_ (x y:Rat):∀n,cv x y n=tm (x+y) n
 | 0=>by show 0+1*1=(1:Rat);grind
 |n+1=>by
  have h1:=VJ x y n;have h2:=gO (x+y) n;rw[K_ x y n,<-h2]at h1;have h3:=cast_pos n;have :((n+1:Nat):Rat)*(cv x y (n+1)-tm (x+y) (n+1))=0:=by grind
  rcases gr.1 this with h|h
  .exact absurd h (cR h3)
  .grind
theorem Ba (x y:Rat):∀m,E (x+y) m=su (fun i=>tm x i*E y (m-i)) m
 | 0=>rfl
 |m+1=>by
  have e1:su (fun i=>tm x i*E y (m+1-i)) (m+1)=su (fun i=>tm x i*E y (m-i)+tm x i*tm y (m-i)) (m+1):=by
   apply tE;intro i hi;rw[show m+1-i=(m-i)+1 by omega]
   show tm x i*(E y (m-i)+tm y (m-i))=_
   grind
  have e2:su (fun i=>tm x i*E y (m-i)) (m+1)=su (fun i=>tm x i*E y (m-i)) m:=by
   show su (fun i=>tm x i*E y (m-i)) m+tm x m*E y (m-m)=_
   rw[si,show E y 0=0 from rfl];grind
  rw[e1,Dg,e2,<-Ba x y m]
  show E (x+y) m+tm (x+y) m=E (x+y) m+cv x y m
  rw[K_]
theorem yX {x y:Rat}(hx:0<=x) (hy:0<=y) (m:Nat):E (x+y) m<=E x m*E y m:=by
 rw[Ba,vV x,l7,<-rO];apply uA;intro i hi;have h1:=pU hy (show m-i<=m by omega);have h2:=cH h1 (iB hx i);rw[l7 (E y m)];exact h2
theorem xB {x y:Rat}(hx:0<=x) (hy:0<=y) (m n:Nat):E x m*E y n<=E (x+y) (m+n):=by
 have h0:∀i,0<=tm x i*E y (m+n-i):=fun i=>aN (iB hx i) (ki hy _)
 rw[Ba,vV x,l7,<-rO];refine cI (uA (g:=fun i=>tm x i*E y (m+n-i)) fun i hi=>?_) (Am h0 (by omega));have h1:=pU hy (show n<=m+n-i by omega);have h2:=cH h1 (iB hx i);rw[l7 (E y n)];exact h2
def Up (x z:Rat):Prop:= ∀n,E x n<=z
def Dn (x y:Rat):Prop:= ∀z,Up x z->y<=z
theorem Up.one_le {x z:Rat}(h:Up x z):1<=z:=by have :=h 1;rw[qM]at this;exact this
theorem F8 (x:Rat) (n:Nat):Dn x (E x n):=fun z h=>h n
theorem Dn.le {x y y':Rat}(h:Dn x y) (h1:y'<=y):Dn x y':=fun z hz=>cI h1 (h z hz)
theorem Up.le {x z z':Rat}(h:Up x z) (h1:z<=z'):Up x z':=fun n=>cI (h n) h1
theorem Qm {x:Rat}(hx:0<=x) {n:Nat}(h:2*x<=((n+1:Nat):Rat)):2*tm x (n+1)<=tm x n:=by
 have h1:=gO x n;have h2:=iB hx n;have h3:=cast_pos n;have h4:=aV h h2;refine fw.1 fun h5=>?_
 have :=uu h5 h3;grind
theorem Hu {x:Rat}(hx:0<=x) {K:Nat}(h:2*x<=((K+1:Nat):Rat)):∀j,E x (K+j)+2*tm x (K+j)<=E x K+2*tm x K
 | 0=>dX
 |j+1=>by
  have h1:=Hu hx h j;have h2:2*x<=((K+j+1:Nat):Rat):=cI h (cL.2 (by omega));have h3:=Qm hx h2
  show E x (K+j)+tm x (K+j)+2*tm x (K+j+1)<=_
  grind
theorem xe {x:Rat}(hx:0<=x) {K:Nat}(h:2*x<=((K+1:Nat):Rat)):Up x (E x K+2*tm x K):=by
 intro n;have h1:=Hu hx h n;have h2:=iB hx (K+n);have h3:=pU hx (show n<=K+n by omega);grind
theorem q_ (x:Rat):∃K:Nat,x<=(K:Rat):=by
 refine⟨x.ceil.toNat,cI (Rat.le_ceil (x:=x)) ?_⟩;have :((x.ceil:Int):Rat)<=(((x.ceil.toNat:Nat):Int):Rat):=pE.2 (by omega);exact this
theorem ox {x:Rat}(hx:0<=x):∃z,Up x z:=by
 obtain⟨K,hK⟩:=q_ (2*x);exact⟨_,xe hx (K:=K) (cI hK (cL.2 (by omega)))⟩
theorem up_mul {x y a b:Rat}(hx:0<=x) (hy:0<=y) (ha:Up x a) (hb:Up y b):Up (x+y) (a*b):=by
 intro n;have h1:=yX hx hy n;have h2:=aV (ha n) (ki hy n);have h3:0<=a:=by have :=ha.one_le;grind
 have h4:=cH (hb n) h3;grind
theorem eB {a b c:Rat}(hc:0<c):a<=b/c↔a*c<=b:=by
 have :=Rat.div_lt_iff (a:=b) (b:=c) (c:=a) hc;rw[<-fw,<-fw,this]
theorem YJ {x y a b:Rat}(hx:0<=x) (hy:0<=y) (ha:Dn x a) (hb:Dn y b) (ha0:0<=a) (hb0:0<=b):Dn (x+y) (a*b):=by
 intro z hz;have hz1:=hz.one_le;rcases so.1 ha0 with h|h
 .have h1:∀m,E y m*a<=z:=by
   intro m;rcases fl m with h0|h0
   .subst h0
    rw[show E y 0=0 from rfl,fS];grind
   .have hp:0<E y m:=by
     have :=pU hy h0;rw[qM]at this;grind
    have :Up x (z/E y m):=fun k=>by
     rw[eB hp];exact cI (xB hx hy k m) (hz _)
    have :=ha _ this;rw[eB hp]at this;grind
  have h2:Up y (z/a):=fun m=>by rw[eB h];exact h1 m
  have :=hb _ h2;rw[eB h]at this;grind
 .rw[<-h,fS];grind
theorem xF {r p q:Nat->Nat->Rat}{c:Rat}(hr:∀j i,r j i=p j i+c*q j i):∀ {s:Nat}{M:Nat->Nat},Sz M (s+1)->dd r (s+1) M=dd p (s+1) M+c*dd q (s+1) M:=by
 intro s
 induction s with
 |zero=>
  intro M h;rcases jJ h with⟨j,hj,h2⟩|⟨x,y,hxy,hx,hy⟩
  .rw[eX _ h h2,eX _ h h2,eX _ h h2,hr]
  .have h1:=(h.dec hx).zero' y
   rw[dE _ (fun e=>hxy e.symm)]at h1;omega
 |succ s ih=>
  intro M h;rcases jJ h with⟨j,hj,h2⟩|⟨x,y,hxy,hx,hy⟩
  .rw[eX _ h h2,eX _ h h2,eX _ h h2,hr]
  .have d1:=jP r h hxy hx hy
   have d2:=jP p h hxy hx hy;have d3:=jP q h hxy hx hy;rw[ih (h.dec hx),ih (h.dec hy)]at d1;have hne:=pJ hxy;have :((y:Rat)-(x:Rat))*(dd r (s+1+1) M-(dd p (s+1+1) M+c*dd q (s+1+1) M))=0:=by grind
   rcases gr.1 this with h|h
   .exact absurd h hne
   .grind
theorem TE:∀ {s:Nat}{M:Nat->Nat},Sz M (s+1)->dd (fun _ _=> 0) (s+1) M=0:=by
 intro s M h;have :=xF (r:=fun _ _=> 0) (p:=fun _ _=> 0) (q:=fun _ _=> 0) (c:=1) (fun j i=>by grind) h;grind
theorem J1 (c:Nat->Rat) (f:Nat->Nat->Nat->Rat) {s:Nat}{M:Nat->Nat}(h:Sz M (s+1)):∀K,dd (fun j i=>su (fun m=>c m*f m j i) K) (s+1) M=su (fun m=>c m*dd (f m) (s+1) M) K
 | 0=>TE h
 |K+1=>by
  rw[ka,<-J1 c f h K];exact xF (fun j i=>ka _ _) h
def mo:Nat->Nat->Nat->Rat
 | 0,_,i=>if i=0 then 1 else 0
 |m+1,j,i=>(j:Rat)*mo m j i+(if i=0 then 0 else mo m j (i-1))
theorem DJ:∀(m j i:Nat),0<=mo m j i
 | 0,j,i=>by unfold mo;split <;> decide
 |m+1,j,i=>by
  unfold mo;have h1:=aN (df (a:=j)) (DJ m j i);split
  .grind
  .have :=DJ m j (i-1);grind
theorem xR:∀(m j i:Nat),m<i->mo m j i=0
 | 0,j,i,h=>by unfold mo;rw[ag (by omega)]
 |m+1,j,i,h=>by
  unfold mo;rw[xR m j i (by omega),ag (by omega),xR m j (i-1) (by omega)];grind
theorem UB:∀ {s:Nat}{M:Nat->Nat},Sz M (s+1)->dd (mo 0) (s+1) M=if s=0 then 1 else 0:=by
 intro s
 induction s with
 |zero=>
  intro M h;rcases jJ h with⟨j,hj,h2⟩|⟨x,y,hxy,hx,hy⟩
  .rw[eX _ h h2];rfl
  .have h1:=(h.dec hx).zero' y
   rw[dE _ (fun e=>hxy e.symm)]at h1;omega
 |succ s ih=>
  intro M h;rcases jJ h with⟨j,hj,h2⟩|⟨x,y,hxy,hx,hy⟩
  .rw[eX _ h h2];rfl
  .have d1:=jP (mo 0) h hxy hx hy
   rw[ih (h.dec hx),ih (h.dec hy)]at d1;have hne:=pJ hxy;rw[ag (by omega)];have :((y:Rat)-(x:Rat))*dd (mo 0) (s+1+1) M=0:=by grind
   rcases gr.1 this with h|h
   .exact absurd h hne
   .exact h
theorem PQ (m:Nat):∀ {s:Nat}{M:Nat->Nat}{x:Nat},Sz M (s+1)->0<M x->dd (mo (m+1)) (s+1) M=(x:Rat)*dd (mo m) (s+1) M+dd (mo m) s (dec M x):=by
 intro s
 induction s with
 |zero=>
  intro M x h hx;rcases jJ h with⟨j,hj,h2⟩|⟨x,y,hxy,hx,hy⟩
  .obtain rfl:x=j:=ja fun e=>by have :=h2 x e;omega
   rw[eX _ h h2,eX _ h h2,show dd (mo m) 0 (dec M x)=0 from rfl]
   show(x:Rat)*mo m x 0+0=_
   rfl
  .have h1:=(h.dec hx).zero' y
   rw[dE _ (fun e=>hxy e.symm)]at h1;omega
 |succ s ih=>
  intro M x h hx;by_cases h1:∃c,c≠x/\0<M c
  .obtain⟨c,hcx,hc⟩:=h1
   have d1:=jP (mo (m+1)) h (fun e=>hcx e.symm) hx hc;have d2:=jP (mo m) h (fun e=>hcx e.symm) hx hc;rw[ih (h.dec hx) (x:=c) (by rw[dE _ hcx];exact hc),ih (h.dec hc) (x:=x) (by rw[dE _ (fun e=>hcx e.symm)];exact hx),uP M x c]at d1;have hne:=pJ (fun e=>hcx e.symm:x≠c);have :((c:Rat)-(x:Rat))*(dd (mo (m+1)) (s+1+1) M-((x:Rat)*dd (mo m) (s+1+1) M+dd (mo m) (s+1) (dec M x)))=0:=by grind
   rcases gr.1 this with h|h
   .exact absurd h hne
   .grind
  .have hj:∀y,y≠x->M y=0:=fun y hy=>ja fun e=>h1 ⟨y,hy,by omega⟩
   rw[eX _ h hj,eX _ h hj,eX _ (h.dec hx) (fun y hy=>by rw[dE _ hy];exact hj y hy)]
   show(x:Rat)*mo m x (s+1)+(if s+1=0 then 0 else mo m x (s+1-1))=_
   rw[ag (by omega),kX]
theorem xN {L:Nat} :∀(m:Nat) {s:Nat}{M:Nat->Nat},Sz M (s+1)->(∀x,L<x->M x=0)->0<=dd (mo m) (s+1) M/\dd (mo m) (s+1) M<=mo m L s
 | 0,s,M,h,hL=>by
  rw[UB h];unfold mo;split
  .exact⟨by decide,dX⟩
  .exact⟨dX,dX⟩
 |m+1,s,M,h,hL=>by
  obtain⟨x,hx,hs⟩:=h.pos;have hxL:x<=L:=ja fun e=>by have :=hL x (by omega);omega
  rw[PQ m h hx];unfold mo;obtain⟨a1,a2⟩:=xN m h hL;have hx0:=df (a:=x);have hxc:(x:Rat)<=(L:Rat):=cL.2 hxL;have k1:=aN hx0 a1;have k2:=cH a2 hx0;have k3:=aV hxc (DJ m L s);cases s with
  |zero=>
   rw[aj rfl,show dd (mo m) 0 (dec M x)=0 from rfl];constructor <;> grind
  |succ s=>
   have hL2:∀z,L<z->dec M x z=0:=fun z hz=>by rw[dE M (show z≠x by omega)];exact hL z hz
   obtain⟨b1,b2⟩:=xN m hs hL2;rw[ag (by omega),kX];constructor <;> grind
theorem xi (β:Rat) (j:Nat):∀(m i:Nat),i<=m->tm β m*mo m j i=tm β i*tm (β*(j:Rat)) (m-i)
 | 0,i,h=>by
  obtain rfl:i=0:=by omega
  show tm β 0*1=tm β 0*1
  rfl
 |m+1,i,h=>by
  have hp:=cast_pos m;have h1:=gO β m
  have key:((m+1:Nat):Rat)*(tm β (m+1)*mo (m+1) j i)=((m+1:Nat):Rat)*(tm β i*tm (β*(j:Rat)) (m+1-i)):=by
   have e0:((m+1:Nat):Rat)*(tm β (m+1)*mo (m+1) j i)=β*(tm β m*mo (m+1) j i):=by grind
   rw[e0];have e1:mo (m+1) j i=(j:Rat)*mo m j i+(if i=0 then 0 else mo m j (i-1)):=rfl;rw[e1];cases i with
   |zero=>
    rw[aj rfl,Ae];have i1:=xi β j m 0 (by omega);rw[Ae]at i1;have h2:=gO (β*(j:Rat)) m;have :tm β 0=1:=rfl;rw[this]at i1 ⊢;grind
   |succ i=>
    rw[ag (by omega),kX];have i2:=xi β j m i (by omega);have h3:=gO β i;by_cases hi:i+1<=m
    .have i1:=xi β j m (i+1) hi
     have h2:=gO (β*(j:Rat)) (m-(i+1));rw[show m-(i+1)+1=m-i by omega]at h2;rw[show m+1-(i+1)=m-i by omega];have hc:((m+1:Nat):Rat)=((i+1:Nat):Rat)+((m-i:Nat):Rat):=by rw[<-dW];congr 1;omega
     rw[hc];grind
    .obtain rfl:i=m:=by omega
     rw[xR i j (i+1) (by omega)];rw[si]at i2;rw[show i+1-(i+1)=0 by omega];have e2:tm (β*(j:Rat)) 0=1:=rfl;rw[e2]at i2 ⊢;grind
  have :((m+1:Nat):Rat)*(tm β (m+1)*mo (m+1) j i-tm β i*tm (β*(j:Rat)) (m+1-i))=0:=by grind
  rcases gr.1 this with h|h
  .exact absurd h (cR hp)
  .grind
theorem A8 (β:Rat) (j i:Nat):∀K,su (fun m=>tm β m*mo m j i) K=tm β i*E (β*(j:Rat)) (K-i)
 | 0=>by rw[sG,Nat.zero_sub];show(0:Rat)=tm β i*0;rw[jV]
 |K+1=>by
  rw[ka,A8 β j i K];by_cases h:i<=K
  .rw[xi β j K i h,show K+1-i=(K-i)+1 by omega]
   show _=tm β i*(E (β*(j:Rat)) (K-i)+tm (β*(j:Rat)) (K-i))
   grind
  .rw[xR K j i (by omega),show K+1-i=0 by omega,show K-i=0 by omega]
   grind
theorem QD {β:Rat}(hβ:0<=β) {L s K:Nat}{M:Nat->Nat}(h:Sz M (s+1)) (hL:∀x,L<x->M x=0):
  0<=dd (fun j i=>tm β i*E (β*(j:Rat)) (K-i)) (s+1) M/\dd (fun j i=>tm β i*E (β*(j:Rat)) (K-i)) (s+1) M<=tm β s*E (β*(L:Rat)) (K-s):=by
 have e:(fun(j i:Nat)=>tm β i*E (β*(j:Rat)) (K-i))=fun j i=>su (fun m=>tm β m*mo m j i) K:=by
  funext j i;exact(A8 β j i K).symm
 rw[e,J1 (tm β) mo h,<-A8 β L s K];constructor
 .have :su (fun _=>(0:Rat)) K<=su (fun m=>tm β m*dd (mo m) (s+1) M) K:=uA fun m _=>aN (iB hβ m) (xN m h hL).1
  have e0:su (fun _=>(0:Rat)) K=0:=by
   have :=rO 0 (fun _=>(0:Rat)) K;rw[tE (fun _ _=>by rw[fS])]at this;exact this.trans (fS _)
  rw[e0]at this;exact this
 .exact uA fun m _=>cH (xN m h hL).2 (iB hβ m)
def fc:Nat->Nat
 | 0=> 1
 |n+1=>(n+1)*fc n
theorem Dh:∀n,0<fc n
 | 0=>Nat.one_pos
 |n+1=>fm (Nat.succ_pos n) (Dh n)
theorem yY:∀j k,fc j*fc k ∣ fc (j+k)
 | 0,k=>by rw[jw];show 1*fc k ∣ _;rw[fP];exact Nat.dvd_refl _
 |j+1,0=>by show fc (j+1)*1 ∣ _;rw[fI];exact Nat.dvd_refl _
 |j+1,k+1=>by
  have h1:=yY j (k+1);have h2:=yY (j+1) k;rw[show j+1+k=j+(k+1) by omega]at h2
  have e:fc (j+1+(k+1))=(j+1)*fc (j+(k+1))+(k+1)*fc (j+(k+1)):=by
   rw[<-a_,show j+1+(k+1)=(j+(k+1))+1 by omega]
   show(j+(k+1)+1)*_=_
   congr 1
  rw[e];have e1:fc (j+1)*fc (k+1)=(j+1)*(fc j*fc (k+1)):=by show(j+1)*fc j*fc (k+1)=_;rw[aF]
  have e2:fc (j+1)*fc (k+1)=(k+1)*(fc (j+1)*fc k):=by show fc (j+1)*((k+1)*fc k)=_;rw[fQ]
  apply Nat.dvd_add
  .rw[e1];exact aj4 _ h1
  .rw[e2];exact aj4 _ h2
theorem UF {i n:Nat}(h:i<=n):fc i ∣ fc n:=by
 have :=yY i (n-i);rw[show i+(n-i)=n by omega]at this;exact Nat.dvd_trans (Nat.dvd_mul_right _ _) this
theorem I3 (β:Rat):∀i,(fc i:Rat)*tm β i=β^i
 | 0=>by show((1:Nat):Rat)*1=β^0;rw[cU,fz];rfl
 |i+1=>by
  have h1:=I3 β i;have h2:=gO β i
  show(((i+1)*fc i:Nat):Rat)*tm β (i+1)=β^(i+1)
  rw[ft,bI,<-h1];grind
def pd (j0 L:Nat):Rat:=pr (fun l=>if l=j0 then 1 else(l:Rat)-(j0:Rat)) L
theorem Br (j0 L:Nat):pd j0 (L+1)=pd j0 L*(if L+1=j0 then 1 else((L+1:Nat):Rat)-(j0:Rat)):=rfl
theorem Kg (j0:Nat):∀L,L<j0->∃z:Int,(fc j0:Rat)=(z:Rat)*(fc (j0-L-1):Rat)*pd j0 L
 | 0,h=>by
  refine⟨-1,?_⟩;obtain⟨j,rfl⟩:∃j,j0=j+1:=⟨j0-1,by omega⟩
  show((((j+1)*fc j:Nat)):Rat)=((-1:Int):Rat)*(fc (j+1-0-1):Rat)*(if 0=j+1 then 1 else((0:Nat):Rat)-((j+1:Nat):Rat))
  rw[ag (by omega),show j+1-0-1=j by omega,ft,show((-1:Int):Rat)= -1 from rfl,show((0:Nat):Rat)=0 from rfl];grind
 |L+1,h=>by
  obtain⟨z,hz⟩:=Kg j0 L (by omega);refine⟨-z,?_⟩;rw[Br,ag (by omega),hz];obtain⟨d,hd⟩:∃d,j0=L+1+1+d:=⟨j0-L-2,by omega⟩;rw[show j0-L-1=d+1 by omega,show j0-(L+1)-1=d by omega]
  show(z:Rat)*(((d+1)*fc d:Nat):Rat)*pd j0 L=_
  rw[ft,Af,hd];have :((L+1+1+d:Nat):Rat)=((L+1:Nat):Rat)+((d+1:Nat):Rat):=by rw[<-dW];congr 1;omega
  rw[this];grind
theorem Iu (j0:Nat):∀L,j0<=L->∃z:Int,((fc j0:Nat):Rat)*(fc (L-j0):Rat)=(z:Rat)*pd j0 L
 | 0,h=>by
  obtain rfl:j0=0:=by omega
  exact⟨1,rfl⟩
 |L+1,h=>by
  by_cases e:j0=L+1
  .subst e
   obtain⟨z,hz⟩:=Kg (L+1) L (by omega);refine⟨z,?_⟩;rw[Br,aj rfl,hz,show L+1-L-1=0 by omega,si]
   show(z:Rat)*((1:Nat):Rat)*pd (L+1) L*((1:Nat):Rat)=_
   rw[show((1:Nat):Rat)=1 from rfl];grind
  .obtain⟨z,hz⟩:=Iu j0 L (by omega)
   refine⟨z,?_⟩;rw[Br,ag (fun e2=>e e2.symm),show L+1-j0=(L-j0)+1 by omega]
   show((fc j0:Nat):Rat)*(((L-j0+1)*fc (L-j0):Nat):Rat)=_
   rw[ft];have :((L+1:Nat):Rat)=((L-j0+1:Nat):Rat)+(j0:Rat):=by rw[<-dW];congr 1;omega
   rw[this];grind
theorem Ip {j0 L:Nat}(h:j0<=L):∃z:Int,(fc L:Rat)=(z:Rat)*pd j0 L:=by
 obtain⟨z,hz⟩:=Iu j0 L h;obtain⟨c,hc⟩:=yY j0 (L-j0);rw[show j0+(L-j0)=L by omega]at hc;refine⟨z*(c:Int),?_⟩;rw[hc,ft,ft,sk,Rat.intCast_natCast];grind
theorem Mh (f g:Nat->Rat):∀n,pr (fun x=>f x*g x) n=pr f n*pr g n
 | 0=>rfl
 |n+1=>by
  have :=Mh f g n
  show pr (fun x=>f x*g x) n*(f (n+1)*g (n+1))=pr f n*f (n+1)*(pr g n*g (n+1))
  rw[this];grind
theorem GW (f:Nat->Rat) (k:Nat):∀n,pr (fun x=>f x^k) n=pr f n^k
 | 0=>rfl
 |n+1=>by
  have :=GW f k n
  show pr (fun x=>f x^k) n*f (n+1)^k=(pr f n*f (n+1))^k
  rw[this];generalize pr f n=a;generalize f (n+1)=b;clear this
  induction k with
  |zero=>rw[cU,cU,cU,fz]
  |succ k ih=>rw[bI,bI,bI,<-ih];grind
theorem pow_add (a:Rat) (m:Nat):∀n,a^(m+n)=a^m*a^n
 | 0=>by rw[kW,cU,fz]
 |n+1=>by rw[<-qG,bI,bI,pow_add a m n];grind
theorem mul_pow (a b:Rat):∀k:Nat,(a*b)^k=a^k*b^k
 | 0=>by rw[cU,cU,cU,fz]
 |k+1=>by rw[bI,bI,bI,mul_pow a b k];grind
theorem ac5 {j0 L k:Nat}(h:j0<=L) {M:Nat->Nat}(hM:∀l,M l<=k):∃z:Int,(fc L:Rat)^k=(z:Rat)*qd j0 L M:=by
 obtain⟨z,hz⟩:=Ip h
 have e:pd j0 L^k=pr (fun l=>if l=j0 then 1 else((l:Rat)-(j0:Rat))^(k-M l)) L*qd j0 L M:=by
  unfold pd qd;rw[<-Mh,<-GW];apply xX;intro x _;by_cases e:x=j0
  .simp only[e,cQ]
   have :∀k:Nat,(1:Rat)^k=1:=fun k=>by induction k with
    |zero=>rfl
    |succ k ih=>rw[bI,ih,fz]
   rw[this,fz]
  .simp only[e,e9]
   rw[<-pow_add];congr 1;have :=hM x;omega
 obtain⟨y,hy⟩:Zq (pr (fun l=>if l=j0 then 1 else((l:Rat)-(j0:Rat))^(k-M l)) L):=yr fun x _=>by
  split
  .exact⟨1,rfl⟩
  .exact((Zq.nat x).sub (Zq.nat j0)).pow _
 refine⟨z^k*y,?_⟩;rw[hz,mul_pow,e,hy,sk,Rat.intCast_pow];grind
theorem Rv {j0 L l:Nat}(h:j0<=L) (hl:l<=L) (hne:l≠j0):∃z:Int,(fc L:Rat)=(z:Rat)*((l:Rat)-(j0:Rat)):=by
 obtain⟨z,hz⟩:=Ip h
 have e:pd j0 L=((l:Rat)-(j0:Rat))*pr (fun x=>if x=l then 1 else if x=j0 then 1 else(x:Rat)-(j0:Rat)) L:=by
  unfold pd;refine Bq _ hl (fun x hx hxl=>?_) ?_
  .simp only[hxl,e9]
  .simp only[hne,e9,cQ,fz]
 obtain⟨y,hy⟩:Zq (pr (fun x=>if x=l then 1 else if x=j0 then 1 else(x:Rat)-(j0:Rat)) L):=yr fun x _=>by
  split
  .exact⟨1,rfl⟩
  .split
   .exact⟨1,rfl⟩
   .exact(Zq.nat x).sub (Zq.nat j0)
 refine⟨z*y,?_⟩;rw[hz,e,hy,sk];grind
theorem Zq.sm {f:Nat->Rat} :∀ {n:Nat},(∀x,x<=n->Zq (f x))->Zq (sm f n)
 | 0,h=>h 0 (Nat.le_refl _)
 |n+1,h=>by rw[lB];exact(Zq.sm (fun x hx=>h x (by omega))).add (h (n+1) (Nat.le_refl _))
theorem FG (f:Nat->Nat->Nat->Rat) {s:Nat}{M:Nat->Nat}(h:Sz M (s+1)):∀L,dd (fun j i=>sm (fun j0=>f j0 j i) L) (s+1) M=sm (fun j0=>dd (f j0) (s+1) M) L
 | 0=>rfl
 |L+1=>by
  rw[lB,<-FG f h L];have :=xF (r:=fun j i=>sm (fun j0=>f j0 j i) (L+1)) (p:=fun j i=>sm (fun j0=>f j0 j i) L) (q:=f (L+1)) (c:=1) (fun j i=>by rw[lB];grind) h;rw[this,l8]
def M0 (L n:Nat):Nat->Nat:=fun x=>if x<=L then n else 0
theorem DO {M:Nat->Nat}{s:Nat}(h:Sz M s) (c:Nat) (h0:M c=0):∀k,Sz (fun x=>if x=c then k else M x) (s+k)
 | 0=>by
  have :(fun x=>if x=c then 0 else M x)=M:=by funext x;split;(rename_i e;rw[e,h0]);rfl
  rw[this];exact h
 |k+1=>by
  have :=(DO h c h0 k).inc c
  have e:inc (fun x=>if x=c then k else M x) c=fun x=>if x=c then k+1 else M x:=by
   funext x;unfold inc;by_cases hx:x=c <;> simp [hx]
  rw[e]at this;exact this
theorem Kv (n:Nat):∀L,Sz (M0 L n) ((L+1)*n)
 | 0=>by
  have :=DO (Sz.zero (fun _=> 0) (fun _=>rfl)) 0 rfl n;have e:(fun x=>if x=0 then n else 0)=M0 0 n:=by funext x;unfold M0;by_cases h:x=0 <;> simp [h]
  rw[e]at this
  simpa using this
 |L+1=>by
  have :=DO (Kv n L) (L+1) (by unfold M0;rw[ag (by omega)]) n
  have e:(fun x=>if x=L+1 then n else M0 L n x)=M0 (L+1) n:=by
   funext x;unfold M0;by_cases h:x=L+1
   .simp [h]
   .by_cases h2:x<=L
    .simp [h,h2];omega
    .simp [h,h2];omega
  rw[e]at this;rw[a_ (L+1) 1 n,fP];exact this
def bα (α β:Rat) (L:Nat) (j i:Nat):Rat:=sm (fun j0=>if j=j0 then α^j0*tm β i else 0) L
theorem zb {α β:Rat}{L j:Nat}(h:j<=L) (i:Nat):bα α β L j i=α^j*tm β i:=by
 unfold bα
 rw[mJ (g:=fun x=>if x=j then α^j*tm β i else 0) (fun x _=>by
  by_cases e:j=x
  .simp [e]
  .rw[ag e,ag (fun e2=>e e2.symm)]),sm_at _ h]
theorem Kr {α β:Rat}{L j:Nat}(h:L<j) (i:Nat):bα α β L j i=0:=by
 unfold bα;rw[mJ (g:=fun _=> 0) (fun x hx=>ag (by omega)),vD]
theorem Zv {α β:Rat}(u v a c:Nat) (hv:0<v) (hc:0<c) (hu:0<u) (ha:0<a) (hα:α*(v:Rat)=(u:Rat)) (hβ:β*(c:Rat)=(a:Rat)) (L n:Nat) (hn:0<n):
  ∃M,Sz M ((L+1)*n+1)/\(∀x,L<x->M x=0)/\(∀x,M x<=n+1)/\
   (1<=(fc L:Rat)^(2*n+1)*((v:Rat)^L*((c:Rat)^n*(fc n:Rat)))*dd (bα α β L) ((L+1)*n+1) M\/
    (fc L:Rat)^(2*n+1)*((v:Rat)^L*((c:Rat)^n*(fc n:Rat)))*dd (bα α β L) ((L+1)*n+1) M<= -1):=by
 have hv0:(0:Rat)<(v:Rat):=fo.2 hv;have hc0:(0:Rat)<(c:Rat):=fo.2 hc
 have hα0:α≠0:=fun e=>by
  rw[e,fS]at hα;have :=fo.2 hu;rw[<-hα]at this;exact Rat.lt_irrefl this
 have hβ0:β≠0:=fun e=>by
  rw[e,fS]at hβ;have :=fo.2 ha;rw[<-hβ]at this;exact Rat.lt_irrefl this
 have hpow0:∀j:Nat,α^j≠0:=fun j=>by
  induction j with
  |zero=>rw[cU];decide
  |succ j ih=>rw[bI];intro e;rcases gr.1 e with h|h;exact ih h;exact hα0 h
 obtain⟨N,hN⟩:∃N,(L+1)*n=N+1:=⟨(L+1)*n-1,by have :=fm (show 0<L+1 by omega) hn;omega⟩;have hs:=Kv n L;rw[hN]at hs
 have hex:Ex (bα α β L) β:=fun j i=>by
  by_cases h:j<=L
  .rw[zb h,zb h]
   have :=gO β i;grind
  .rw[Kr (by omega),Kr (by omega)];grind
 obtain⟨j,hj,hne⟩:=ag6 hex hβ0 (L:=L) (fun j hj=>by rw[zb hj];show α^j*1≠0;rw[fz];exact hpow0 j) hs (fun x hx=>by unfold M0;rw[ag (by omega)]);have hsz:=hs.inc j
 have hsup:∀x,L<x->inc (M0 L n) j x=0:=fun x hx=>by
  rw[tJ _ (by omega)];unfold M0;rw[ag (by omega)]
 have hle:∀x,inc (M0 L n) j x<=n+1:=fun x=>by
  unfold inc M0;split <;> split <;> omega
 rw[hN];refine⟨_,hsz,hsup,hle,?_⟩;generalize inc (M0 L n) j=M at *;clear hs hN hj
 have hD0:(fc L:Rat)^(2*n+1)*((v:Rat)^L*((c:Rat)^n*(fc n:Rat)))≠0:=by
  have h1:(0:Rat)<(fc L:Rat):=fo.2 (Dh L);have h2:(0:Rat)<(fc n:Rat):=fo.2 (Dh n);exact cR (iJ (wC h1) (iJ (wC hv0) (iJ (wC hc0) h2)))
 refine Zq.one_le ?_ (fun e=>by rcases gr.1 e with h|h;exact hD0 h;exact hne h);have e1:dd (bα α β L) (N+1+1) M=sm (fun j0=>dd (fun j i=>if j=j0 then α^j0*tm β i else 0) (N+1+1) M) L:=FG (fun j0 j i=>if j=j0 then α^j0*tm β i else 0) hsz L;rw[e1,<-BK];apply Zq.sm;intro j0 hj0;have hb:∀j i,j≠j0->(fun j i=>if j=j0 then α^j0*tm β i else 0) j i=0:=fun j i h=>ag h
 rcases fl (M j0) with h0|h0
 .rw[Iy hb hsz h0,jV];exact Zq.zero
 .obtain⟨m,hm⟩:∃m,M j0=m+1:=⟨M j0-1,by omega⟩
  have hmn:m<=n:=by have :=hle j0;omega
  have hW:∀i,i<=n->Zq ((v:Rat)^L*((c:Rat)^n*(fc n:Rat))*(fun j i=>if j=j0 then α^j0*tm β i else 0) j0 i):=by
   intro i hi
   show Zq (_*(if j0=j0 then α^j0*tm β i else 0))
   rw[aj rfl];obtain⟨q,hq⟩:=UF hi
   have e2:(v:Rat)^L*((c:Rat)^n*(fc n:Rat))*(α^j0*tm β i)=((v:Rat)^(L-j0)*(u:Rat)^j0)*((c:Rat)^(n-i)*(a:Rat)^i*(q:Rat)):=by
    have f1:(v:Rat)^L=(v:Rat)^(L-j0)*(v:Rat)^j0:=by rw[<-pow_add];congr 1;omega
    have f2:(c:Rat)^n=(c:Rat)^(n-i)*(c:Rat)^i:=by rw[<-pow_add];congr 1;omega
    have f3:=I3 β i;rw[f1,f2,hq,ft,<-hα,<-hβ,mul_pow,mul_pow,<-f3];grind
   rw[e2];exact(((Zq.nat v).pow _).mul ((Zq.nat u).pow _)).mul ((((Zq.nat c).pow _).mul ((Zq.nat a).pow _)).mul (Zq.nat q))
  have hz:=ad0 hb hW (lam:=(fc L:Rat)) (fun l hl hne=>Rv hj0 hl hne) (Zq.nat _) hsz hsup hm hmn;obtain⟨z,hz2⟩:=ac5 (k:=n+1) hj0 hle
  have e3:(fc L:Rat)^(2*n+1)=(z:Rat)*(fc L:Rat)^(n-m)*(qd j0 L M*(fc L:Rat)^m):=by
   rw[show 2*n+1=(n+1)+((n-m)+m) by omega,pow_add _ (n+1) ((n-m)+m),hz2,pow_add _ (n-m) m];grind
  rw[e3]
  have :(z:Rat)*(fc L:Rat)^(n-m)*(qd j0 L M*(fc L:Rat)^m)*((v:Rat)^L*((c:Rat)^n*(fc n:Rat)))*dd (fun j i=>if j=j0 then α^j0*tm β i else 0) (N+1+1) M=((z:Rat)*(fc L:Rat)^(n-m))*(qd j0 L M*(fc L:Rat)^m*((v:Rat)^L*((c:Rat)^n*(fc n:Rat)))*dd (fun j i=>if j=j0 then α^j0*tm β i else 0) (N+1+1) M):=by
   grind
  rw[this];exact((Zq.int z).mul ((Zq.nat _).pow _)).mul hz
theorem j8 {a b:Rat}(ha:0<=a) (h:a<=b):∀k:Nat,a^k<=b^k
 | 0=>by rw[cU,cU];exact dX
 |k+1=>by
  rw[bI,bI];have h1:=j8 ha h k;have h2:=aV h1 ha;have h3:=cH h (fJ (n:=k) (cI ha h));grind
theorem one_le_pow {a:Rat}(ha:1<=a):∀k:Nat,1<=a^k
 | 0=>by rw[cU];exact dX
 |k+1=>by
  rw[bI];have h1:=one_le_pow ha k;have h2:=aN (a:=a^k-1) (b:=a) (by grind) (by grind);grind
theorem F4 {a:Rat}(ha:1<=a) {m n:Nat}(h:m<=n):a^m<=a^n:=by
 have h1:=one_le_pow ha (n-m);have h2:a^n=a^m*a^(n-m):=by rw[<-pow_add];congr 1;omega
 have h3:=fJ (n:=m) (show 0<=a by grind);have h4:=cH h1 h3;grind
theorem KE {x y:Rat}(hy:0<=y) (h:y<=x) (hx:1<=x):∀j:Nat,x^j-y^j<=(j:Rat)*x^j*(x-y)
 | 0=>by rw[cU,cU];show(1:Rat)-1<=((0:Nat):Rat)*1*(x-y);rw[show((0:Nat):Rat)=0 from rfl];grind
 |j+1=>by
  rw[bI,bI];have h1:=KE hy h hx j;have h2:=j8 hy h j;have h3:=fJ (n:=j) (show 0<=x by grind);have h4:=aV h1 (show 0<=x by grind);have h5:=aV h2 (show 0<=x-y by grind);have h6:=aN (aN h3 (show 0<=x-1 by grind)) (show 0<=x-y by grind);have hc:((j+1:Nat):Rat)=(j:Rat)+1:=dW j 1;rw[hc];grind
theorem xW {x:Rat}(hx:0<=x) (m:Nat):∀j:Nat,E (x*(j:Rat)) m<=E x m^j
 | 0=>by
  rw[show((0:Nat):Rat)=0 from rfl,jV,cU];cases m with
  |zero=>show(0:Rat)<=1;decide
  |succ m=>rw[vN];exact dX
 |j+1=>by
  have hc:x*((j+1:Nat):Rat)=x*(j:Rat)+x:=by rw[dW];show x*((j:Rat)+1)=_;grind
  have hj:=aN hx (df (a:=j));rw[hc,bI];have h1:=yX hj hx m;have h2:=aV (xW hx m j) (ki hx m);exact cI h1 h2
theorem Ha {x:Rat}(hx:0<=x) {k:Nat}(hk:0<k):∀j:Nat,E x k^j<=E (x*(j:Rat)) (j*k+1)
 | 0=>by
  rw[show((0:Nat):Rat)=0 from rfl,jV,cU,iq,vN];exact dX
 |j+1=>by
  have hc:x*((j+1:Nat):Rat)=x*(j:Rat)+x:=by rw[dW];show x*((j:Rat)+1)=_;grind
  have hj:=aN hx (df (a:=j));rw[hc,bI];have h1:=xB hj hx (j*k+1) k;have h2:=aV (Ha hx hk j) (ki hx k);rw[show(j+1)*k+1=j*k+1+k by rw[a_];omega];exact cI h2 h1
theorem Yj {x lo:Rat}(hx:0<=x) (h:Dn x lo) {η:Rat}(hη:0<η):∃k,0<k/\lo-η<=E x k:=by
 refine gP fun hn=>?_
 have h1:Up x (lo-η):=fun n=>by
  refine fw.1 fun h2=>hn ⟨n+1,by omega,?_⟩
  have :=pU hx (show n<=n+1 by omega);grind
 have :=h _ h1;grind
theorem Qc {α β lo hi w:Rat}(u v a c:Nat) (hv:0<v) (hc:0<c) (hu:0<u) (ha:0<a) (hα:α*(v:Rat)=(u:Rat)) (hβ:β*(c:Rat)=(a:Rat)) (L n:Nat) (hn:0<n)
  (hlo:Dn β lo) (hhi:Up β hi) (l0:0<=lo) (h1:lo<=α) (h2:α<=hi) (hw:hi-lo<w) (hwl:w<lo+(hi-lo)):
  1<=(fc L:Rat)^(2*n+1)*((v:Rat)^L*((c:Rat)^n*(fc n:Rat)))*(tm β ((L+1)*n)*hi^L+2^((L+1)*n)*(hi*((L:Rat)*hi^L*w))):=by
 obtain⟨M,hsz,hsup,hle,hone⟩:=Zv u v a c hv hc hu ha hα hβ L n hn
 have hβ0:0<=β:=by
  refine fw.1 fun e=>?_
  have :=oe e (fo.2 hc);rw[hβ,fS]at this;have :=df (a:=a);grind
 obtain⟨N,hN⟩:∃N,N=(L+1)*n:=⟨_,rfl⟩;rw[<-hN]at hsz hone ⊢;have hi1:=hhi.one_le;have hη:0<w-(hi-lo):=by grind
 obtain⟨k,hk,hEk⟩:=Yj hβ0 hlo hη;obtain⟨K,hK⟩:∃K,K=L*k+1+n:=⟨_,rfl⟩;have hLr:=df (a:=L);have hhL:=fJ (n:=L) (show 0<=hi by grind);have hw0:0<=w:=by grind
 have near:∀j i,i<M j-> -(hi*((L:Rat)*hi^L*w))<=bα α β L j i+(-1)*(tm β i*E (β*(j:Rat)) (K-i))/\bα α β L j i+(-1)*(tm β i*E (β*(j:Rat)) (K-i))<=hi*((L:Rat)*hi^L*w):=by
  intro j i hij;have hj:j<=L:=ja fun e=>by have :=hsup j (by omega);omega
  have hin:i<=n:=by have :=hle j;omega
  rw[zb hj];have a1:E (β*(j:Rat)) (K-i)<=hi^j:=cI (xW hβ0 _ j) (j8 (ki hβ0 _) (hhi _) j)
  have hjk:j*k+1<=K-i:=by
   have :=bR k hj;omega
  have hbj:=aN hβ0 (df (a:=j));have l1:0<=lo-(w-(hi-lo)):=by grind
  have a2:(lo-(w-(hi-lo)))^j<=E (β*(j:Rat)) (K-i):=cI (cI (j8 l1 hEk j) (Ha hβ0 hk j)) (pU hbj hjk);have a3:α^j<=hi^j:=j8 (cI l0 h1) h2 j;have a4:(lo-(w-(hi-lo)))^j<=α^j:=j8 l1 (by grind) j;have a5:=KE l1 (show lo-(w-(hi-lo))<=hi by grind) hi1 j
  have a6:(j:Rat)*hi^j*(hi-(lo-(w-(hi-lo))))<=(L:Rat)*hi^L*w:=by
   have e1:hi-(lo-(w-(hi-lo)))=w:=by grind
   rw[e1];have b1:(j:Rat)<=(L:Rat):=cL.2 hj;have b2:=F4 hi1 hj;have b3:=fJ (n:=j) (show 0<=hi by grind);have b4:=aV b1 b3;have b5:=cH b2 hLr;exact aV (cI b4 b5) hw0
  have t0:=iB hβ0 i
  have t1:tm β i<=hi:=by
   have :=hhi (i+1);have h0:=ki hβ0 i;have :E β i+tm β i<=hi:=this;grind
  generalize (L:Rat)*hi^L*w=z at *;have z0:0<=z:=by grind
  have d1:α^j-E (β*(j:Rat)) (K-i)<=z:=by grind
  have d2: -z<=α^j-E (β*(j:Rat)) (K-i):=by grind
  generalize α^j=p at *;generalize E (β*(j:Rat)) (K-i)=q at *;have m1:=cH d1 t0;have m2:=cH d2 t0;have m3:=aV t1 z0;constructor <;> grind
 have e1:=xF (r:=fun j i=>bα α β L j i+(-1)*(tm β i*E (β*(j:Rat)) (K-i))) (p:=bα α β L) (q:=fun j i=>tm β i*E (β*(j:Rat)) (K-i)) (c:= -1) (fun j i=>rfl) hsz;obtain⟨n1,n2⟩:=Yk hsz near;obtain⟨s1,s2⟩:=QD (K:=K) hβ0 hsz hsup;rw[e1]at n1 n2;have s3:E (β*(L:Rat)) (K-N)<=hi^L:=cI (xW hβ0 _ L) (j8 (ki hβ0 _) (hhi _) L);have s4:=cH s3 (iB hβ0 N)
 have hD0:0<=(fc L:Rat)^(2*n+1)*((v:Rat)^L*((c:Rat)^n*(fc n:Rat))):=
  aN (fJ df) (aN (fJ df) (aN (fJ df) df))
 generalize (fc L:Rat)^(2*n+1)*((v:Rat)^L*((c:Rat)^n*(fc n:Rat)))=D at *;generalize dd (bα α β L) (N+1) M=X at *;generalize dd (fun j i=>tm β i*E (β*(j:Rat)) (K-i)) (N+1) M=Y at *;generalize tm β N*hi^L=S at *;generalize 2^N*(hi*((L:Rat)*hi^L*w))=T at *;rcases hone with h|h
 .have :=cH (show X<=S+T by grind) hD0
  grind
 .have :=cH (show -X<=S+T by grind) hD0
  grind
theorem Eb (m:Nat):∀n,n<=m->fc n<=m^n
 | 0,h=>by rw[jT];exact ae _
 |n+1,h=>by
  show(n+1)*fc n<=_
  rw[bH,aW];exact eI (Eb m n (by omega)) h
theorem Hz (c x:Rat):∀k:Nat,tm (c*x) k=c^k*tm x k
 | 0=>by rw[cU,l8];rfl
 |k+1=>by
  have h1:=gO (c*x) k;have h2:=gO x k;rw[Hz c x k]at h1;have h3:=cast_pos k;have :((k+1:Nat):Rat)*(tm (c*x) (k+1)-c^(k+1)*tm x (k+1))=0:=by rw[bI];grind
  rcases gr.1 this with h|h
  .exact absurd h (cR h3)
  .grind
theorem Hg {x y:Rat}(hx:0<=x) (h:x<=y):∀k,tm x k<=tm y k
 | 0=>dX
 |k+1=>by
  have h1:=gO x k;have h2:=gO y k;have h3:=cast_pos k;have h4:=cH (Hg hx h k) hx;have h5:=aV h (iB (cI hx h) k);exact aj5 (c:=((k+1:Nat):Rat)) (by grind) h3
theorem F7:Up 1 3:=by
 have :=xe (x:=1) (K:=1) (by decide) (by rw[fz];exact dX)
 have e:E 1 1+2*tm 1 1=3:=by
  rw[qM];have h:=gO 1 0;rw[show((0+1:Nat):Rat)=1 from rfl,show tm 1 0=1 from rfl]at h;grind
 rw[e]at this;exact this
theorem ZG (N:Nat):tm (N:Rat) N<=4^N:=by
 have h0:(0:Rat)<=(N:Rat):=df;have h1:=xW (x:=1) (by decide) (N+1) N;rw[l8]at h1;have h2:=j8 (ki (x:=1) (by decide) (N+1)) (cI (F7 (N+1)) (show(3:Rat)<=4 by decide)) N;have h3:=ki h0 N;have h4:E (N:Rat) (N+1)=E (N:Rat) N+tm (N:Rat) N:=rfl;grind
theorem Iw {β:Rat}(h0:0<=β) {t N:Nat}(h:β*4*2^t<=(N:Rat)):tm β N*2^(t*N)<=1:=by
 have h1:(0:Rat)<=4*2^t:=aN (by decide) (fJ (by decide));have h2:(0:Rat)<=(4*2^t)*β:=aN h1 h0;have h3:=Hg h2 (y:=(N:Rat)) (by grind) N;rw[Hz,mul_pow]at h3;have h4:=cI h3 (ZG N);have h5:(0:Rat)<4^N:=wC (by decide)
 have h6:((2:Rat)^t)^N=2^(t*N):=by
  clear h h1 h2 h3 h4 h5
  induction N with
  |zero=>rw[cU,sf,cU]
  |succ N ih=>rw[bI,ih,Nat.mul_succ,pow_add]
 rw[h6]at h4;refine aj5 (c:=4^N) ?_ h5;grind
theorem oh (a:Rat) (m:Nat):∀n:Nat,(a^m)^n=a^(m*n)
 | 0=>by rw[cU,sf,cU]
 |n+1=>by rw[bI,oh a m n,Nat.mul_succ,pow_add]
theorem iE (n:Nat):(0:Rat)<=2^n:=fJ (by decide)
theorem two_pos (n:Nat):(0:Rat)<2^n:=wC (by decide)
theorem qS {m n:Nat}(h:m<=n):(2:Rat)^m<=2^n:=F4 (by decide) h
theorem c_ (n:Nat):((2^n:Nat):Rat)=2^n:=Rat.natCast_pow 2 n
theorem k' {a b c d:Rat}(h1:a<=b) (h2:c<=d) (ha:0<=b) (hc:0<=c):a*c<=b*d:=by
 have h3:=aV h1 hc;have h4:=cH h2 ha;grind
theorem aa6 {α β lo hi w:Rat}(u v a c:Nat) (hv:0<v) (hc:0<c) (hu:0<u) (ha:0<a) (hα:α*(v:Rat)=(u:Rat)) (hβ:β*(c:Rat)=(a:Rat)) {l ν h p k t L n N:Nat}(hL:L=2^l) (hn:n=2^ν) (hN:N=(L+1)*n)
  (hlo:Dn β lo) (hhi:Up β hi) (l0:1<=lo) (h1:lo<=α) (h2:α<=hi) (hw:hi-lo<w) (hw1:w<1)
  (bh:hi<=2^h) (bv:(v:Rat)<=2^p) (bc:(c:Rat)<=2^k) (bt:β*4*2^t<=(N:Rat)) (hA:l*L*(2*n+1)+p*L+k*n+ν*n+h*L+1<=t*N):
  1<=2^(l*L*(2*n+1)+p*L+k*n+ν*n+h*L+N+h+l+1)*w:=by
 have hn0:0<n:=by rw[hn];exact az _
 have raw:=Qc u v a c hv hc hu ha hα hβ L n hn0 hlo hhi (by grind) h1 h2 hw (by grind);rw[<-hN]at raw
 have hβ0:0<=β:=by
  refine fw.1 fun e=>?_
  have :=oe e (fo.2 hc);rw[hβ,fS]at this;have :=df (a:=a);grind
 have hw0:0<=w:=by grind
 have hh0:0<=hi:=by grind
 have c1:(fc L:Rat)^(2*n+1)<=2^(l*L*(2*n+1)):=by
  have g1:fc L<=2^(l*L):=by
   have :=Eb L L (Nat.le_refl _);rw[show L^L=2^(l*L) by rw[jU,<-hL]]at this;exact this
  have g2:(fc L:Rat)<=2^(l*L):=by rw[<-c_];exact cL.2 g1
  rw[<-oh];exact j8 df g2 _
 have c2:(v:Rat)^L<=2^(p*L):=by rw[<-oh];exact j8 df bv _
 have c3:(c:Rat)^n<=2^(k*n):=by rw[<-oh];exact j8 df bc _
 have c4:(fc n:Rat)<=2^(ν*n):=by
  have :=Eb n n (Nat.le_refl _);rw[show n^n=2^(ν*n) by rw[jU,<-hn]]at this;rw[<-c_];exact cL.2 this
 have c5:hi^L<=2^(h*L):=by rw[<-oh];exact j8 hh0 bh _
 have c6:(L:Rat)<=2^l:=by rw[hL,c_];exact dX
 have D1:(fc L:Rat)^(2*n+1)*((v:Rat)^L*((c:Rat)^n*(fc n:Rat)))<=2^(l*L*(2*n+1)+p*L+k*n+ν*n):=by
  rw[pow_add 2 (l*L*(2*n+1)+p*L+k*n) (ν*n),pow_add 2 (l*L*(2*n+1)+p*L) (k*n),pow_add 2 (l*L*(2*n+1)) (p*L),iu,iu];exact k' c1 (k' c2 (k' c3 c4 (iE _) df) (iE _) (aN (fJ df) df)) (iE _) (aN (fJ df) (aN (fJ df) df))
 have D0:0<=(fc L:Rat)^(2*n+1)*((v:Rat)^L*((c:Rat)^n*(fc n:Rat))):=
  aN (fJ df) (aN (fJ df) (aN (fJ df) df))
 have S1:=Iw hβ0 bt;have S0:=iB hβ0 N;have H0:0<=hi^L:=fJ hh0
 have T1:hi*((L:Rat)*hi^L*w)<=2^h*(2^l*2^(h*L)*w):=
  k' bh (aV (k' c6 c5 (iE _) H0) hw0) (iE _) (aN (aN df H0) hw0)
 generalize hA2:l*L*(2*n+1)+p*L+k*n+ν*n=A at *;generalize (fc L:Rat)^(2*n+1)*((v:Rat)^L*((c:Rat)^n*(fc n:Rat)))=D at *;generalize hi*((L:Rat)*hi^L*w)=T at *;have hT0:0<=tm β N*hi^L:=aN S0 H0
 have P1:D*(tm β N*hi^L)*2<=1:=by
  have q1:D*hi^L*2<=2^(A+h*L+1):=by
   rw[bI,pow_add];exact aV (k' D1 c5 (iE _) H0) (by decide)
  have q2:D*hi^L*2<=2^(t*N):=cI q1 (qS hA);have q3:=cH q2 S0;grind
 have P2:D*(2^N*T)<=2^A*(2^N*(2^h*(2^l*2^(h*L)*w))):=by
  rcases h_ (a:=0) (b:=T) with h|h
  .exact k' D1 (cH T1 (iE _)) (iE _) (aN (iE _) h)
  .have z1:D*(2^N*T)<=0:=by
    have :=aN D0 (aN (iE N) (show 0<= -T by grind));grind
   exact cI z1 (aN (iE _) (aN (iE _) (aN (iE _) (aN (aN (iE _) (iE _)) hw0))))
 have e:(2:Rat)^(A+h*L+N+h+l+1)=2^A*2^(h*L)*2^N*2^h*2^l*2:=by
  rw[bI,pow_add,pow_add,pow_add,pow_add]
 rw[e];generalize (2:Rat)^A=y1 at *;generalize (2:Rat)^(h*L)=y2 at *;generalize (2:Rat)^N=y3 at *;generalize (2:Rat)^h=y4 at *;generalize (2:Rat)^l=y5 at *;grind
theorem Rc {x η:Rat}(hx:0<=x) (hη:0<η):∃n z,0<n/\Up x z/\z<=E x n+η:=by
 obtain⟨A,hA⟩:=q_ (8*x);obtain⟨B,hB⟩:=q_ (2/η);obtain⟨N,hN⟩:∃N,N=A+B+1:=⟨_,rfl⟩;have hAN:((A:Nat):Rat)<=(N:Rat):=cL.2 (by omega);have hBN:((B:Nat):Rat)<=(N:Rat):=cL.2 (by omega);have h1:=Iw hx (t:=1) (N:=N) (by rw[uw];grind);have h0:=iB hx N
 have h2:(N:Rat)<=2^(1*N):=by
  rw[fP,<-c_];exact cL.2 (gn Nat.lt_two_pow_self)
 have h3:2<=(N:Rat)*η:=by
  have g1:2/η*η=2:=bM (cR hη);have g2:=aV (cI hB hBN) (aJ hη);grind
 refine⟨N,_,by omega,xe hx (K:=N) ?_,?_⟩
 .have :((N+1:Nat):Rat)=(N:Rat)+1:=dW N 1
  rw[this];grind
 .have g3:tm x N*(N:Rat)<=1:=cI (cH h2 h0) h1
  have hN0:(0:Rat)<(N:Rat):=fo.2 (by omega)
  have g4:2*tm x N<=η:=by
   refine fw.1 fun e=>?_
   have :=oe e hN0;grind
  grind
def kM (p q a:Rat):Prop:= ∀z,Up p z->∀n,a*E q n<=z
def jM (p q b:Rat):Prop:= ∀z,Up q z->∀n,E p n<=b*z
theorem sK {x:Rat}(hx:0<=x) {n:Nat}(hn:0<n):1<=E x n:=by have :=pU hx hn;rw[qM]at this;exact this
theorem jM.pos {p q b:Rat}(hq:0<=q) (h:jM p q b):0<b:=by
 obtain⟨z,hz⟩:=ox hq;have h1:=h z hz 1;rw[qM]at h1;have :=hz.one_le;refine kY.1 fun e=>?_
 have :=aN (show 0<= -b by grind) (show 0<=z by grind);grind
theorem BI {p q a b:Rat}(hq:0<=q) (hp:0<=p) (h1:kM p q a) (h2:jM p q b):a<=b:=by
 refine fw.1 fun e=>?_
 have hb:=h2.pos hq;have hη:0<(a-b)/(2*b):=by rw[jW (by grind)];grind
 obtain⟨n,z,hn,hz,hzn⟩:=Rc hq hη;have h3:Up p (b*z):=fun m=>h2 z hz m
 have h4:=h1 _ h3 n;have h5:=sK hq hn;have h6:(a-b)/(2*b)*(2*b)=a-b:=bM (cR (by grind));generalize (a-b)/(2*b)=η at *;have h7:=cH hzn (aJ hb);have h8:=cH h5 (show 0<=a-b by grind);grind
theorem Un {p q b:Rat}(hq:0<=q) (hb:0<=b) (h:¬kM p q b):jM p q b:=by
 have :∃z n,Up p z/\z<b*E q n:=by
  refine gP fun hn=>h fun z hz n=>fw.1 fun e=>hn ⟨z,n,hz,e⟩
 obtain⟨z,n,hz,hlt⟩:=this;intro z' hz' m;have h1:=hz m;have h2:=cH (hz' n) hb;grind
theorem J_ {p q b:Rat}(hb:0<=b) (h:¬jM p q b):kM p q b:=by
 have :∃z n,Up q z/\b*z<E p n:=by
  refine gP fun hn=>h fun z hz n=>fw.1 fun e=>hn ⟨z,n,hz,e⟩
 obtain⟨z,n,hz,hlt⟩:=this;intro z' hz' m;have h1:=hz' n;have h2:=cH (hz m) hb;grind
theorem Cf {p q b p' q' b':Rat}(hp:0<=p) (hq:0<=q) (hp':0<=p') (hq':0<=q') (h:jM p q b) (h':jM p' q' b'):jM (p+p') (q+q') (b*b'):=by
 intro z hz n;have hb:=h.pos hq;have hb':=h'.pos hq';have h1:∀m k,E q m*E q' k<=z:=fun m k=>cI (xB hq hq' m k) (hz _)
 have h2:=yX hp hp' n;rcases fl n with h0|h0
 .subst h0
  have :=hz.one_le;have :=aN (aN (aJ hb) (aJ hb')) (show 0<=z by grind)
  show(0:Rat)<=_
  exact this
 have hpn:=sK hp h0;have hpn':=sK hp' h0
 have g1:∀k,E p n*E q' k<=b*z:=by
  intro k;rcases fl k with k0|k0
  .subst k0
   rw[show E q' 0=0 from rfl,jV];have :=hz.one_le;exact aN (aJ hb) (by grind)
  .have hk:0<E q' k:=by have :=sK hq' k0;grind
   have :Up q (z/E q' k):=fun m=>by rw[eB hk];exact h1 m k
   have :=h _ this n;have e:z/E q' k*E q' k=z:=bM (cR hk);have :=aV this (aJ hk);rw[iu,e]at this;exact this
 have hE:0<E p n:=by grind
 have g2:Up q' (b*z/E p n):=fun k=>by rw[eB hE];have :=g1 k;grind
 have g3:=h' _ g2 n;have e:b*z/E p n*E p n=b*z:=bM (cR hE);have g4:=aV g3 (aJ hE);rw[iu,e]at g4;grind
theorem BZ {p q a p' q' a':Rat}(hp:0<=p) (hq:0<=q) (hp':0<=p') (hq':0<=q') (ha:0<=a) (ha':0<=a') (h:kM p q a) (h':kM p' q' a'):kM (p+p') (q+q') (a*a'):=by
 intro z hz n;have h1:∀m k,E p m*E p' k<=z:=fun m k=>cI (xB hp hp' m k) (hz _)
 have h2:=yX hq hq' n;have hz0:=hz.one_le
 have g1:∀k,a*E q n*E p' k<=z:=by
  intro k;rcases fl k with k0|k0
  .subst k0
   rw[show E p' 0=0 from rfl,jV];grind
  .have hk:0<E p' k:=by have :=sK hp' k0;grind
   have :Up p (z/E p' k):=fun m=>by rw[eB hk];exact h1 m k
   have :=h _ this n;rw[eB hk]at this;exact this
 have hA:=aN ha (ki hq n);have hB:=aN ha' (ki hq' n);have h3:=cH h2 (aN ha ha');rcases so.1 hA with hlt|heq
 .have g2:Up p' (z/(a*E q n)):=fun k=>by rw[eB hlt];have :=g1 k;grind
  have g3:=h' _ g2 n;rw[eB hlt]at g3;grind
 .have :a*a'*(E q n*E q' n)=(a*E q n)*(a'*E q' n):=by grind
  rw[this,<-heq,fS]at h3;grind
theorem Ix {s:Rat} :kM s s 1:=fun z hz n=>by rw[l8];exact hz n
theorem Jz {s:Rat} :jM s s 1:=fun z hz n=>by rw[l8];exact hz n
theorem Mf {p q s a:Rat}(hp:0<=p) (hq:0<=q) (hs:0<=s) (ha:0<=a):kM (p+s) (q+s) a↔kM p q a:=by
 constructor
 .intro h
  refine gP fun hn=>?_
  have :∃z n,Up p z/\z<a*E q n:=by
   refine gP fun hn2=>hn fun z hz n=>fw.1 fun e=>hn2 ⟨z,n,hz,e⟩
  obtain⟨z,n,hz,hlt⟩:=this;have hz1:=hz.one_le
  have hn0:0<n:=by
   rcases fl n with h0|h0
   .subst h0
    rw[show E q 0=0 from rfl,jV]at hlt;grind
   .exact h0
  have hE:0<E q n:=by have :=sK hq hn0;grind
  have h1:jM p q (z/E q n):=fun z' hz' m=>by
   have e:z/E q n*E q n=z:=bM (cR hE);have h2:0<=z/E q n:=by rw[eB hE];grind
   have h3:=cH (hz' n) h2;have :=hz m;grind
  have h2:=Cf hp hq hs hs h1 Jz;rw[fz]at h2;have h3:=BI (by grind) (by grind) h h2;rw[eB hE]at h3;grind
 .intro h
  have :=BZ hp hq hs hs ha (by decide) h Ix;rw[fz]at this;exact this
theorem Mi {p q s b:Rat}(hp:0<=p) (hq:0<=q) (hs:0<=s):jM (p+s) (q+s) b↔jM p q b:=by
 constructor
 .intro h
  refine gP fun hn=>?_
  have hb:=h.pos (by grind);have h1:=J_ (aJ hb) hn
  have :∃z n,Up q z/\b*z<E p n:=by
   refine gP fun hn2=>hn fun z hz n=>fw.1 fun e=>hn2 ⟨z,n,hz,e⟩
  obtain⟨z,n,hz,hlt⟩:=this;have hz1:=hz.one_le;have hz0:0<z:=by grind
  have hpn:=ki hp n
  have h1:kM p q (E p n/z):=fun z' hz' m=>by
   have e:E p n/z*z=E p n:=bM (cR hz0);have h2:0<=E p n/z:=by rw[eB hz0];grind
   have h3:=cH (hz m) h2;have :=hz' n;grind
  have h2:0<=E p n/z:=by rw[eB hz0];grind
  have h3:=BZ hp hq hs hs h2 (by decide) h1 Ix;rw[fz]at h3;have h4:=BI (by grind) (by grind) h3 h;have e:E p n/z*z=E p n:=bM (cR hz0);have :=aV h4 (aJ hz0);grind
 .intro h
  have :=Cf hp hq hs hs h Jz;rw[fz]at this;exact this
def Lo (x a:Rat):Prop:=a<=0\/∃p q,0<=p/\0<=q/\x+q=p/\kM p q a
def Hi (x b:Rat):Prop:= ∃p q,0<=p/\0<=q/\x+q=p/\jM p q b
theorem pn {x a p q:Rat}(hp:0<=p) (hq:0<=q) (h:x+q=p) (ha:0<a):Lo x a↔kM p q a:=by
 constructor
 .rintro(h1|⟨p',q',hp',hq',h',h1⟩)
  .grind
  .have h2:=(Mf hp' hq' hq (aJ ha)).2 h1
   rw[show p'+q=p+q' by grind,show q'+q=q+q' by grind]at h2;exact(Mf hp hq hq' (aJ ha)).1 h2
 .exact fun h1=>Or.inr ⟨p,q,hp,hq,h,h1⟩
theorem nH {x b p q:Rat}(hp:0<=p) (hq:0<=q) (h:x+q=p):Hi x b↔jM p q b:=by
 constructor
 .rintro⟨p',q',hp',hq',h',h1⟩
  have h2:=(Mi hp' hq' hq).2 h1;rw[show p'+q=p+q' by grind,show q'+q=q+q' by grind]at h2;exact(Mi hp hq hq').1 h2
 .exact fun h1=>⟨p,q,hp,hq,h,h1⟩
theorem parts (x:Rat):∃p q,0<=p/\0<=q/\x+q=p:=by
 rcases h_ (a:=0) (b:=x) with h|h
 .exact⟨x,0,h,dX,by grind⟩
 .exact⟨0,-x,dX,by grind,by grind⟩
theorem Hi.pos {x b:Rat}(h:Hi x b):0<b:=by
 obtain⟨p,q,hp,hq,_,h1⟩:=h;exact h1.pos hq
theorem mn {x a b:Rat}(h1:Lo x a) (h2:Hi x b):a<=b:=by
 have hb:=h2.pos;rcases h_ (a:=a) (b:=0) with h|h
 .grind
 .rcases so.1 h with h|h
  .obtain⟨p,q,hp,hq,he⟩:=parts x
   exact BI hq hp ((pn hp hq he h).1 h1) ((nH hp hq he).1 h2)
  .grind
theorem V_ {x b:Rat}(h:¬Lo x b):Hi x b:=by
 have hb:0<b:=kY.1 fun e=>h (Or.inl e)
 obtain⟨p,q,hp,hq,he⟩:=parts x;exact(nH hp hq he).2 (Un hq (aJ hb) fun h1=>h ((pn hp hq he hb).2 h1))
theorem Ak {x b:Rat}(h:¬Hi x b):Lo x b:=by
 rcases h_ (a:=b) (b:=0) with hb|hb
 .exact Or.inl hb
 .rcases so.1 hb with h0|h0
  .obtain⟨p,q,hp,hq,he⟩:=parts x
   exact(pn hp hq he h0).2 (J_ hb fun h1=>h ((nH hp hq he).2 h1))
  .exact Or.inl (by grind)
theorem pI {x y a b:Rat}(ha:0<=a) (hb:0<=b) (h1:Lo x a) (h2:Lo y b):Lo (x+y) (a*b):=by
 rcases so.1 ha with ha'|ha'
 .rcases so.1 hb with hb'|hb'
  .obtain⟨p,q,hp,hq,he⟩:=parts x
   obtain⟨p',q',hp',hq',he'⟩:=parts y;exact(pn (p:=p+p') (q:=q+q') (by grind) (by grind) (by grind) (iJ ha' hb')).2 (BZ hp hq hp' hq' ha hb ((pn hp hq he ha').1 h1) ((pn hp' hq' he' hb').1 h2))
  .exact Or.inl (by rw[<-hb',jV];exact dX)
 .exact Or.inl (by rw[<-ha',fS];exact dX)
theorem tu {x y a b:Rat}(h1:Hi x a) (h2:Hi y b):Hi (x+y) (a*b):=by
 obtain⟨p,q,hp,hq,he⟩:=parts x;obtain⟨p',q',hp',hq',he'⟩:=parts y;exact(nH (p:=p+p') (q:=q+q') (by grind) (by grind) (by grind)).2 (Cf hp hq hp' hq' ((nH hp hq he).1 h1) ((nH hp' hq' he').1 h2))
theorem Lo.le {x a a':Rat}(h:Lo x a) (h1:a'<=a):Lo x a':=by
 rcases h_ (a:=a') (b:=0) with hb|hb
 .exact Or.inl hb
 .rcases h with h|⟨p,q,hp,hq,he,h2⟩
  .exact Or.inl (by grind)
  .exact Or.inr ⟨p,q,hp,hq,he,fun z hz n=>by
    have :=aV h1 (ki hq n);have :=h2 z hz n;grind⟩
theorem Hi.le {x b b':Rat}(h:Hi x b) (h1:b<=b'):Hi x b':=by
 obtain⟨p,q,hp,hq,he,h2⟩:=h
 exact⟨p,q,hp,hq,he,fun z hz n=>by
  have :=aV h1 (show 0<=z by have :=hz.one_le;grind);have :=h2 z hz n;grind⟩
theorem Kn {x a:Rat}(hx:0<=x) (h:Dn x a):Lo x a:=by
 rcases h_ (a:=a) (b:=0) with hb|hb
 .exact Or.inl hb
 .refine Or.inr ⟨x,0,hx,dX,by grind,fun z hz n=>?_⟩
  cases n with
  |zero=>rw[show E 0 0=0 from rfl,jV];have :=hz.one_le;grind
  |succ n=>rw[vN,fz];exact h z hz
theorem yx {x b:Rat}(hx:0<=x) (h:Up x b):Hi x b:=by
 refine⟨x,0,hx,dX,by grind,fun z hz n=>?_⟩;have h1:=hz.one_le;have h2:=h n;have h3:=h.one_le;have :=aN (show 0<=b by grind) (show 0<=z-1 by grind);grind
theorem ag1 {x b:Rat}(hx:0<=x) (h:Hi x b):Up x b:=by
 have h1:=(nH hx (dX (a:=0)) (by grind)).1 h;intro n
 have h0:Up 0 1:=fun n=>by
  cases n with
  |zero=>show(0:Rat)<=1;decide
  |succ n=>rw[vN];exact dX
 have :=h1 1 h0 n;grind
theorem ah1 {x a:Rat}(hx:0<=x) (h:Lo x a):Dn x a:=fun z hz=>mn h (yx hx hz)
theorem lf {x a:Rat}(ha:0<a) (h:Lo x a):Hi (-x) (1/a):=by
 obtain⟨p,q,hp,hq,he⟩:=parts x;have h1:=(pn hp hq he ha).1 h;refine⟨q,p,hq,hp,by grind,fun z hz n=>?_⟩;have h2:=h1 z hz n;have e:1/a*a=1:=bM (cR ha);have h3:0<=1/a:=by rw[eB ha];grind
 have :=cH h2 h3;rw[<-iu,e,l8]at this;exact this
theorem sW {x b:Rat}(h:Hi x b):Lo (-x) (1/b):=by
 have hb:=h.pos;obtain⟨p,q,hp,hq,he⟩:=parts x;have h1:=(nH hp hq he).1 h;refine Or.inr ⟨q,p,hq,hp,by grind,fun z hz n=>?_⟩;have h2:=h1 z hz n;have e:1/b*b=1:=bM (cR hb);have h3:0<=1/b:=by rw[eB hb];grind
 have :=cH h2 h3;rw[<-iu,e,l8]at this;exact this
theorem iy (x:Rat):Lo x (1+x):=by
 rcases h_ (a:=0) (b:=x) with h|h
 .refine Kn h ((F8 x 2).le ?_)
  show 1+x<=0+tm x 0+tm x 1
  have h1:=gO x 0;rw[show((0+1:Nat):Rat)=1 from rfl]at h1;have :tm x 0=1:=rfl;rw[this]at h1 ⊢;grind
 .rcases h_ (a:=1+x) (b:=0) with h0|h0
  .exact Or.inl h0
  .rcases so.1 h0 with h2|h2
   .obtain⟨y,hy⟩:∃y,y= -x:=⟨_,rfl⟩
    have hy0:0<=y:=by grind
    have key:∀n,E y n*(1-y)<=1-y^n/\tm y n<=y^n:=by
     intro n
     induction n with
     |zero=>exact⟨by show(0:Rat)*(1-y)<=1-y^0;rw[cU];grind,by rw[Rat.pow_zero];exact dX⟩
     |succ n ih=>
      obtain⟨i1,i2⟩:=ih;have t:=gO y n;have t0:=iB hy0 (n+1);have hp:=fJ (n:=n) hy0;constructor
      .show(E y n+tm y n)*(1-y)<=_
       rw[bI];have :=aV i2 (show 0<=1-y by grind);grind
      .rw[bI]
       have h3:=cH i2 hy0;have h4:(1:Rat)<=((n+1:Nat):Rat):=cL.2 (show 1<=n+1 by omega);have h5:=aV h4 t0;grind
    have hu:Up y (1/(1+x)):=fun n=>by
     rw[eB h2];have h1:=(key n).1;have h3:=fJ (n:=n) hy0;have h4:1-y=1+x:=by grind
     rw[h4]at h1;grind
    have :=sW (yx hy0 hu);have e1: -y=x:=by grind
    have e2:1/(1/(1+x))=1+x:=by
     rw[Ag,Ag,l8,l8,Rat.inv_inv]
    rw[e1,e2]at this;exact this
   .exact Or.inl (by grind)
theorem sx {x y a:Rat}(h:Lo x a) (hxy:x<=y):Lo y a:=by
 rcases h_ (a:=a) (b:=0) with hb|hb
 .exact Or.inl hb
 .have h1:=pI hb (by decide) h ((iy (y-x)).le (a':=1) (by grind))
  rw[fz,show x+(y-x)=y by grind]at h1;exact h1
theorem uK {x y b:Rat}(h:Hi y b) (hxy:x<=y):Hi x b:=by
 refine gP fun hn=>?_
 have h1:=sx (Ak hn) hxy;have hb:=h.pos
 have h2:Lo (x-y) 1:=by
  have :=pI (aJ hb) (by rw[eB hb];grind) (Ak hn) (sW h);have e:b*(1/b)=1:=by rw[l7];exact bM (cR hb)
  rw[e,show x+ -y=x-y by grind]at this;exact this
 have h3:=lf (by decide) h2;rw[show -(x-y)=y-x by grind]at h3;have h4:=mn (iy (y-x)) h3;have e1:(1:Rat)/1=1:=by have :=bM (a:=1) (b:=1) (by decide);grind
 rw[e1]at h4;have :x=y:=by grind
 subst this;exact hn h
theorem aa2 {x y a b:Rat}(h:x<y) (ha:0<a) (h1:Lo x a) (h2:Hi y b):a<b:=by
 have h3:=pI (aJ ha) (by grind) h1 (iy (y-x));rw[show x+(y-x)=y by grind]at h3;have h4:=mn h3 h2;have :=iJ ha (show 0<y-x by grind);grind
theorem y9:Lo 0 1:=(iy 0).le (by grind)
theorem vY:Hi 0 1:=by
 have :=lf (by decide) y9;have e1:(1:Rat)/1=1:=by have :=bM (a:=1) (b:=1) (by decide);grind
 rw[e1,Rat.neg_zero]at this;exact this
def ah (z:Rat):Nat->Rat
 | 0=> 0
 |k+1=>ah z k+2*(z^(2*k+1)/((2*k+1:Nat):Rat))
theorem Vw {x b:Rat}(hb:0<b) (h:∀η,0<η->Hi x (b+η)):Hi x b:=by
 refine gP fun hn=>?_
 obtain⟨p,q,hp,hq,he⟩:=parts x;have hn2:¬jM p q b:=fun e=>hn ((nH hp hq he).2 e)
 have :∃z n,Up q z/\b*z<E p n:=by
  refine gP fun hn3=>hn2 fun z hz n=>fw.1 fun e=>hn3 ⟨z,n,hz,e⟩
 obtain⟨z,n,hz,hlt⟩:=this;have hz0:0<z:=by have :=hz.one_le;grind
 have hη:0<(E p n-b*z)/(2*z):=by rw[jW (by grind)];grind
 have h1:=(nH hp hq he).1 (h _ hη) z hz n;have h2:(E p n-b*z)/(2*z)*(2*z)=E p n-b*z:=bM (cR (by grind));generalize (E p n-b*z)/(2*z)=η at *;grind
theorem OL {x a:Rat}(h:∀η,0<η->Lo x (a-η)):Lo x a:=by
 refine gP fun hn=>?_
 have hb:0<a:=kY.1 fun e=>hn (Or.inl e)
 obtain⟨p,q,hp,hq,he⟩:=parts x;have hn2:¬kM p q a:=fun e=>hn ((pn hp hq he hb).2 e)
 have :∃z n,Up p z/\z<a*E q n:=by
  refine gP fun hn3=>hn2 fun z hz n=>fw.1 fun e=>hn3 ⟨z,n,hz,e⟩
 obtain⟨z,n,hz,hlt⟩:=this;have hz1:=hz.one_le
 have hE:0<E q n:=by
  rcases so.1 (ki hq n) with h|h
  .exact h
  .rw[<-h,jV]at hlt;grind
 have hη:0<(a*E q n-z)/(2*E q n):=by rw[jW (by grind)];grind
 have h2:(a*E q n-z)/(2*E q n)*(2*E q n)=a*E q n-z:=bM (cR (by grind));have h1:=h _ hη;generalize (a*E q n-z)/(2*E q n)=η at *
 have h3:0<a-η:=by
  refine kY.1 fun e=>?_
  have :=aV e (aJ hE);grind
 have :=(pn hp hq he h3).1 h1 z hz n;grind
theorem xD {x:Rat}(h:x<1):Hi x (1/(1-x)):=by
 have h1:=iy (-x);rw[show 1+ -x=1-x by grind]at h1;have :=lf (show 0<1-x by grind) h1;rw[wD]at this;exact this
theorem Ro {x y h u A s:Rat}(hx:0<=x) (hy:y=x+h) (hy3:3*y<=1) (h0:0<=h) (h1:100*h<=1) (hu:u*(1-y*y)<=2*h) (hs:0<=s) (hA:A*(1-x)=(1+x)*s) {U:Rat}(hU:Hi U A):
  ∃B,B*(1-y)=(1+y)*(s*(1+5*(h*h)))/\Hi (U+u) B:=by
 have hyy:y*y<=1/9:=by
  rw[eB (by decide)];have :=aN (show 0<=1-3*y by grind) (show 0<=1+3*y by grind);grind
 have hu1:u<1:=by
  refine kY.1 fun e=>?_
  have :=aV e (show 0<=1-y*y by grind);grind
 have hp:0<1-u:=by grind
 have hq:0<1-y:=by grind
 refine⟨(1+y)*(s*(1+5*(h*h)))/(1-y),bM (cR hq),?_⟩;refine(tu hU (xD hu1)).le ?_;rw[eB hq];have e1:1/(1-u)*(1-u)=1:=bM (cR hp);have hr:0<1/(1-u):=by rw[jW hp];grind
 generalize 1/(1-u)=r at *;have hw:0<(1-x)*(1-u):=iJ (by grind) hp;have hw2:0<1-y*y:=by grind
 have main:(1+x)*((1-y)*(1-y))<=(1-x)*(1+5*(h*h))*(1-y*y-2*h):=by
  have a1:(1-x)*(1-y*y-2*h)*5 ≥ 2:=by
   have b1:2/3<=1-x:=by rw[Ag];grind
   have b2:3/4<=1-y*y-2*h:=by grind
   have :=aN (show 0<=1-x-2/3 by grind) (show 0<=1-y*y-2*h by grind);grind
  have a2:=aN (aN h0 h0) (show 0<=(1-x)*(1-y*y-2*h)*5-2 by grind);have hx2:x=y-h:=by grind
  subst hx2;grind
 have hu2:1-y*y-2*h<=(1-u)*(1-y*y):=by grind
 have m1:=cH hu2 (show 0<=(1-x)*(1+5*(h*h)) by
  have :=aN h0 h0;exact aN (by grind) (by grind))
 have m2:(1+x)*((1-y)*(1-y))<=(1-x)*(1+5*(h*h))*((1-u)*(1-y*y)):=cI main m1
 have m3:(1+x)*(1-y)<=(1-x)*(1+5*(h*h))*((1-u)*(1+y)):=by
  refine iw (c:=1-y) ?_ hq;grind
 have m4:=cH m3 hs;refine iw (c:=(1-x)*(1-u)) ?_ hw;have e2:A*r*(1-y)*((1-x)*(1-u))=(A*(1-x))*(r*(1-u))*(1-y):=by grind
 rw[e2,hA,e1];grind
theorem XS {x y h u A t:Rat}(hx:0<=x) (hy:y=x+h) (hy3:3*y<=1) (h0:0<=h) (h1:100*h<=1) (hu:2*h<=u*(1-x*x)) (ht:0<t) (hA0:0<=A) (hA:A*(1-x)*t=1+x) {U:Rat}(hU:Lo U A):
  ∃B,0<=B/\B*(1-y)*(t*(1+5*(h*h)))=1+y/\Lo (U+u) B:=by
 have hxx:x*x<=1/9:=by
  rw[eB (by decide)];have :=aN (show 0<=1-3*x by grind) (show 0<=1+3*x by grind);grind
 have hw2:0<1-x*x:=by grind
 have hu0:0<=u:=by
  refine fw.1 fun e=>?_
  have :=oe e hw2;grind
 have hq:0<1-y:=by grind
 have hh:=aN h0 h0;have hk:0<1+5*(h*h):=by grind
 have hP:0<(1-y)*(t*(1+5*(h*h))):=iJ hq (iJ ht hk);have hB0:0<=(1+y)/((1-y)*(t*(1+5*(h*h)))):=by rw[eB hP,fS];grind
 have e0:(1+y)/((1-y)*(t*(1+5*(h*h))))*((1-y)*(t*(1+5*(h*h))))=1+y:=bM (cR hP);generalize (1+y)/((1-y)*(t*(1+5*(h*h))))=B at *;refine⟨B,hB0,by rw[iu];exact e0,?_⟩;refine(pI hA0 (by grind) hU (iy u)).le ?_
 have main:(1+y)*((1-x)*(1-x))<=(1-y)*(1-x*x+2*h)*(1+5*(h*h)):=by
  have a1:(1-y)*(1-x*x+2*h)*5 ≥ 2:=by
   have b1:2/3<=1-y:=by rw[Ag];grind
   have b2:3/4<=1-x*x+2*h:=by grind
   have :=aN (show 0<=1-y-2/3 by grind) (show 0<=1-x*x+2*h by grind);grind
  have a2:=aN hh (show 0<=(1-y)*(1-x*x+2*h)*5-2 by grind);subst hy;grind
 have hu2:1-x*x+2*h<=(1+u)*(1-x*x):=by grind
 have m1:=cH hu2 (show 0<=(1-y)*(1+5*(h*h)) by exact aN (by grind) (by grind))
 have m2:(1+y)*(1-x)<=(1-y)*(1+5*(h*h))*((1+u)*(1+x)):=by
  refine iw (c:=1-x) ?_ (show 0<1-x by grind);grind
 refine iw (c:=((1-y)*(t*(1+5*(h*h))))*(1-x)) ?_ (iJ hP (by grind));have e2:A*(1+u)*(((1-y)*(t*(1+5*(h*h))))*(1-x))=(A*(1-x)*t)*((1-y)*(1+5*(h*h))*(1+u)):=by grind
 have e3:B*(((1-y)*(t*(1+5*(h*h))))*(1-x))=(B*((1-y)*(t*(1+5*(h*h)))))*(1-x):=by grind
 rw[e2,hA,e3,e0];grind
theorem Mw {f:Rat->Rat}{h:Rat}(h0:0<=h) (h1:100*h<=1) (hf0:f 0=0) (hf:∀x y,0<=x->x<=y->3*y<=1->(f y-f x)*(1-y*y)<=2*(y-x)):∀i:Nat,3*((i:Rat)*h)<=1->
  ∃B,B*(1-(i:Rat)*h)=(1+(i:Rat)*h)*(1+5*(h*h))^i/\Hi (f ((i:Rat)*h)) B
 | 0,_=>by
  refine⟨1,?_,?_⟩
  .rw[show((0:Nat):Rat)=0 from rfl,cU];grind
  .rw[show((0:Nat):Rat)=0 from rfl,fS,hf0];exact vY
 |i+1,hi=>by
  have hc:((i+1:Nat):Rat)*h=(i:Rat)*h+h:=by rw[dW];show((i:Rat)+1)*h=_;grind
  rw[hc]at hi ⊢;obtain⟨A,hA,hU⟩:=Mw h0 h1 hf0 hf i (by grind);have hx0:=aN (df (a:=i)) h0;have hs:=fJ (n:=i) (show 0<=1+5*(h*h) by have :=aN h0 h0;grind)
  obtain⟨B,hB,hV⟩:=Ro (u:=f ((i:Rat)*h+h)-f ((i:Rat)*h)) hx0 rfl hi h0 h1 (by
   have :=hf ((i:Rat)*h) ((i:Rat)*h+h) hx0 (by grind) hi;grind) hs hA hU
  refine⟨B,by rw[bI];exact hB,?_⟩;rw[show f ((i:Rat)*h)+(f ((i:Rat)*h+h)-f ((i:Rat)*h))=f ((i:Rat)*h+h) by grind]at hV;exact hV
theorem Hl {ε:Rat}(hε:0<=ε):∀m:Nat,(m:Rat)*ε<=1/2->(1+ε)^m<=1+2*((m:Rat)*ε)
 | 0,_=>by rw[cU,show((0:Nat):Rat)=0 from rfl];grind
 |m+1,h=>by
  have hc:((m+1:Nat):Rat)=(m:Rat)+1:=dW m 1;rw[hc]at h ⊢;have hm:=aN (df (a:=m)) hε;have ih:=Hl hε m (by grind);rw[bI];have h2:=aV ih (show 0<=1+ε by grind);have h3:=aN hε (show 0<=1/2-(m:Rat)*ε by grind);grind
theorem many {z η:Rat}(hz:0<=z) (hz3:3*z<=1) (hη:0<η):∃(m:Nat) (h:Rat),0<m/\100*h<=1/\0<=h/\(m:Rat)*h=z/\(1+5*(h*h))^m<=1+η:=by
 obtain⟨A,hA⟩:=q_ (10/η);obtain⟨m,hm⟩:∃m,m=A+100:=⟨_,rfl⟩;have hmr:(100:Rat)<=(m:Rat):=cL.2 (show 100<=m by omega);have hmA:(A:Rat)<=(m:Rat):=cL.2 (show A<=m by omega);have hm0:(0:Rat)<(m:Rat):=by grind
 have e1:z/(m:Rat)*(m:Rat)=z:=bM (cR hm0);have hh0:0<=z/(m:Rat):=by rw[eB hm0];grind
 have e2:10/η*η=10:=bM (cR hη);have g2:=aV (cI hA hmA) (aJ hη);generalize z/(m:Rat)=h at *
 have hh1:100*h<=1:=by
  refine fw.1 fun e=>?_
  have :=cH hmr hh0;grind
 refine⟨m,h,by omega,hh1,hh0,by grind,?_⟩;have e3:(m:Rat)*(5*(h*h))=5*(z*h):=by rw[<-e1];grind
 have g3:z*h<=1/3*h:=aV (show z<=1/3 by rw[eB (by decide)];grind) hh0;have g4:=Hl (ε:=5*(h*h)) (by have :=aN hh0 hh0;grind) m (by rw[e3];grind);rw[e3]at g4
 have g5:10*(z*h)<=η:=by
  refine iw (c:=(m:Rat)) ?_ hm0;have :10*(z*h)*(m:Rat)=10*(z*z):=by rw[show 10*(z*h)*(m:Rat)=10*(z*(h*(m:Rat))) by grind,e1]
  have zz:=aN (show 0<=1-z by grind) (show 0<=1+z by grind);grind
 have g6:1+2*(5*(z*h))<=1+η:=by grind
 exact cI g4 g6
theorem QN {f:Rat->Rat}{z:Rat}(hz:0<=z) (hz3:3*z<=1) (hf0:f 0=0) (hf:∀x y,0<=x->x<=y->3*y<=1->(f y-f x)*(1-y*y)<=2*(y-x)):Hi (f z) ((1+z)/(1-z)):=by
 have hq:0<1-z:=by grind
 have hD:0<(1+z)/(1-z):=by rw[jW hq];grind
 refine Vw hD fun η hη=>?_
 have hD3:(1+z)/(1-z)<=2:=by
  refine fw.1 fun e=>?_
  rw[jW hq]at e;grind
 obtain⟨m,h,hm,h1,h0,hmz,hpow⟩:=many hz hz3 (show 0<η/2 by rw[jW (by decide)];grind);obtain⟨B,hB,hU⟩:=Mw h0 h1 hf0 hf m (by rw[hmz];exact hz3);rw[hmz]at hB hU;refine hU.le ?_;have e:(1+z)/(1-z)*(1-z)=1+z:=bM (cR hq);generalize (1+z)/(1-z)=D at *;generalize (1+5*(h*h))^m=s at *
 have e2:B=D*s:=by
  have :(B-D*s)*(1-z)=0:=by grind
  rcases gr.1 this with h|h
  .grind
  .grind
 have g:=cH hpow (aJ hD);have e3:η/2*2=η:=bM (by decide);have g2:=aV hD3 (show 0<=η/2 by grind);grind
theorem Hk {f:Rat->Rat}{h:Rat}(h0:0<=h) (h1:100*h<=1) (hf0:f 0=0) (hf:∀x y,0<=x->x<=y->3*y<=1->2*(y-x)<=(f y-f x)*(1-x*x)):∀i:Nat,3*((i:Rat)*h)<=1->
  ∃B,0<=B/\B*(1-(i:Rat)*h)*(1+5*(h*h))^i=1+(i:Rat)*h/\Lo (f ((i:Rat)*h)) B
 | 0,_=>by
  refine⟨1,by decide,?_,?_⟩
  .rw[show((0:Nat):Rat)=0 from rfl,cU];grind
  .rw[show((0:Nat):Rat)=0 from rfl,fS,hf0];exact y9
 |i+1,hi=>by
  have hc:((i+1:Nat):Rat)*h=(i:Rat)*h+h:=by rw[dW];show((i:Rat)+1)*h=_;grind
  rw[hc]at hi ⊢;obtain⟨A,hA0,hA,hU⟩:=Hk h0 h1 hf0 hf i (by grind);have hx0:=aN (df (a:=i)) h0;have hs:=wC (n:=i) (show 0<1+5*(h*h) by have :=aN h0 h0;grind)
  obtain⟨B,hB0,hB,hV⟩:=XS (u:=f ((i:Rat)*h+h)-f ((i:Rat)*h)) hx0 rfl hi h0 h1 (by
   have :=hf ((i:Rat)*h) ((i:Rat)*h+h) hx0 (by grind) hi;grind) hs hA0 hA hU
  refine⟨B,hB0,by rw[bI];exact hB,?_⟩;rw[show f ((i:Rat)*h)+(f ((i:Rat)*h+h)-f ((i:Rat)*h))=f ((i:Rat)*h+h) by grind]at hV;exact hV
theorem Rg {f:Rat->Rat}{z:Rat}(hz:0<=z) (hz3:3*z<=1) (hf0:f 0=0) (hf:∀x y,0<=x->x<=y->3*y<=1->2*(y-x)<=(f y-f x)*(1-x*x)):Lo (f z) ((1+z)/(1-z)):=by
 have hq:0<1-z:=by grind
 have hD:0<(1+z)/(1-z):=by rw[jW hq];grind
 refine OL fun η hη=>?_
 have hD3:(1+z)/(1-z)<=2:=by
  refine fw.1 fun e=>?_
  rw[jW hq]at e;grind
 obtain⟨m,h,hm,h1,h0,hmz,hpow⟩:=many hz hz3 (show 0<η/2 by rw[jW (by decide)];grind);obtain⟨B,hB0,hB,hU⟩:=Hk h0 h1 hf0 hf m (by rw[hmz];exact hz3);rw[hmz]at hB hU;refine hU.le ?_;have e:(1+z)/(1-z)*(1-z)=1+z:=bM (cR hq);generalize (1+z)/(1-z)=D at *;generalize (1+5*(h*h))^m=s at *
 have e2:B*s=D:=by
  have :(B*s-D)*(1-z)=0:=by grind
  rcases gr.1 this with h|h
  .grind
  .grind
 have e3:η/2*2=η:=bM (by decide);generalize η/2=θ at *;have g:=cH hpow hB0;rcases h_ (a:=B) (b:=2) with hb|hb
 .have :=aV hb (show 0<=θ by grind)
  grind
 .grind
def Qs:Nat:=4398046511104
theorem Ys {α β lo hi w:Rat}(u v a c:Nat) (hv:0<v) (hc:0<c) (hu:0<u) (ha:0<a) (hα:α*(v:Rat)=(u:Rat)) (hβ:β*(c:Rat)=(a:Rat)) {h p k b:Nat}
  (hlo:Dn β lo) (hhi:Up β hi) (l0:1<=lo) (h1:lo<=α) (h2:α<=hi) (hw:hi-lo<w) (hw1:w<1)
  (bh:hi<=2^h) (bv:(v:Rat)<=2^p) (bc:(c:Rat)<=2^k) (bb:β<=2^b) (hh:h<=5000) (hp:p<=5000) (hk:k<=2600) (hb:b<=12):
  1<=2^Qs*w:=by
 obtain⟨l,hl⟩:∃l:Nat,l=10:=⟨_,rfl⟩;obtain⟨ν,hν⟩:∃l:Nat,l=27:=⟨_,rfl⟩;obtain⟨L,hL⟩:∃L:Nat,L=2^l:=⟨_,rfl⟩;obtain⟨n,hn⟩:∃n:Nat,n=2^ν:=⟨_,rfl⟩;obtain⟨N,hN⟩:∃N:Nat,N=(L+1)*n:=⟨_,rfl⟩;obtain⟨t,ht⟩:∃t:Nat,t=23:=⟨_,rfl⟩;have hL2:L=1024:=by rw[hL,hl]
 have hn2:n=134217728:=by rw[hn,hν]
 have hN2:N=137573171200:=by rw[hN,hL2,hn2]
 have hβ0:0<=β:=by
  refine fw.1 fun e=>?_
  have :=oe e (fo.2 hc);rw[hβ,fS]at this;have :=df (a:=a);grind
 have bt:β*4*2^t<=(N:Rat):=by
  have g1:β*4*2^t<=2^(b+2+t):=by
   rw[pow_add,pow_add];have :(2:Rat)^2=4:=by decide
   rw[this];exact aV (aV bb (by decide)) (iE _)
  refine cI g1 ?_;rw[<-c_];apply cL.2;have g2:2^(b+2+t)<=2^37:=aG (by omega) (by omega);have g3:(2:Nat)^37=137438953472:=by decide
  omega
 have hA:l*L*(2*n+1)+p*L+k*n+ν*n+h*L+1<=t*N:=by
  rw[hN2,hn2,hL2,hl,hν,ht];omega
 have :=aa6 u v a c hv hc hu ha hα hβ hL hn hN hlo hhi l0 h1 h2 hw hw1 bh bv bc bt hA
 have hQ:l*L*(2*n+1)+p*L+k*n+ν*n+h*L+N+h+l+1<=Qs:=by
  rw[hN2,hn2,hL2,hl,hν,show Qs=4398046511104 from rfl];omega
 generalize l*L*(2*n+1)+p*L+k*n+ν*n+h*L+N+h+l+1=q at *;have g:=qS hQ;have hw0:0<=w:=by grind
 have :=aV g hw0;grind
theorem Ah {α β w:Rat}(u v a c:Nat) (hv:0<v) (hc:0<c) (hu:0<u) (ha:0<a) (hα:α*(v:Rat)=(u:Rat)) (hβ:β*(c:Rat)=(a:Rat)) {h p k b:Nat}
  (bh:α<=2^h) (bv:(v:Rat)<=2^p) (bc:(c:Rat)<=2^k) (bb:β<=2^b) (hh:h<=4900) (hp:p<=5000) (hk:k<=2600) (hb:b<=12) (w0:0<w) (hw:4*(2^Qs*w)<=1):
  Lo β (α+w)\/Hi β (α-w):=by
 refine gP fun hne=>?_
 have n1:Hi β (α+w):=V_ fun e=>hne (Or.inl e)
 have n2:Lo β (α-w):=Ak fun e=>hne (Or.inr e)
 have hcr:(0:Rat)<(c:Rat):=fo.2 hc;have har:(1:Rat)<=(a:Rat):=cL.2 (show 1<=a by omega)
 have hβ0:0<=β:=by
  refine fw.1 fun e=>?_
  have :=oe e hcr;grind
 have q1:(2:Rat)^k<=2^Qs:=qS (by rw[show Qs=4398046511104 from rfl];omega)
 have w1:4*w<=1:=by
  have :=aV (one_le_pow (a:=2) (by decide) Qs) (aJ w0);grind
 have w2:w<β:=by
  refine kY.1 fun e=>?_
  have s1:β*(c:Rat)<=w*2^Qs:=by
   have r1:=aV e (aJ hcr);have r2:=cH (cI bc q1) (aJ w0);grind
  grind
 have l1:=mn (iy β) n1;have α1:1<=α:=by grind
 obtain⟨lo,hlo,hlo1,hlo2,hlo3⟩:∃lo,Lo β lo/\1<=lo/\lo<=α/\α-w<=lo:=by
  rcases h_ (a:=1) (b:=α-w) with e|e
  .exact⟨α-w,n2,e,by grind,dX⟩
  .exact⟨1,(iy β).le (by grind),dX,α1,e⟩
 have bh':α+w<=2^(h+1):=by
  have :=one_le_pow (a:=2) (by decide) h;rw[bI];grind
 have :=Ys u v a c hv hc hu ha hα hβ (w:=3*w) (ah1 hβ0 hlo) (ag1 hβ0 n1) hlo1 hlo2 (by grind) (by grind) (by grind) bh' bv bc bb (by omega) hp hk hb;grind
theorem MJ {α β w τ ε:Rat}(u v a c:Nat) (hv:0<v) (hc:0<c) (hu:0<u) (ha:0<a) (hα:α*(v:Rat)=(u:Rat)) (hβ:β*(c:Rat)=(a:Rat)) {h p k b:Nat}
  (bh:α<=2^h) (bv:(v:Rat)<=2^p) (bc:(c:Rat)<=2^k) (bb:β<=2^b) (hh:h<=4900) (hp:p<=5000) (hk:k<=2600) (hb:b<=12) (w0:0<w) (hw:4*(2^Qs*w)<=1)
  (hτ:τ*α=1) (hε:2*(ε*(α*α))<=w) (h1:w<=α) (hε0:0<ε) (hε1:ε*α<=1):Lo (-β) (τ+ε)\/Hi (-β) (τ-ε):=by
 have hvr:(0:Rat)<(v:Rat):=fo.2 hv
 have hα0:0<α:=by
  refine kY.1 fun e=>?_
  have :=aV e (aJ hvr);have :(0:Rat)<(u:Rat):=fo.2 hu;grind
 rcases Ah u v a c hv hc hu ha hα hβ bh bv bc bb hh hp hk hb w0 hw with h|h
 ·
  right
  refine(lf (by grind) h).le ?_;refine iw (c:=α+w) ?_ (by grind);rw[bM (cR (show 0<α+w by grind))];have e1:(τ-ε)*(α+w)=1+τ*w-ε*α-ε*w:=by grind
  rw[e1]
  have g0:0<τ:=by
   refine kY.1 fun e=>?_
   have :=aV e (aJ hα0);grind
  have g1:2*(ε*α)<=τ*w:=by
   have :=cH hε (aJ g0);have e2:τ*(2*(ε*(α*α)))=2*(ε*α)*(τ*α):=by grind
   rw[e2,hτ]at this;grind
  have g2:ε*w<=ε*α:=cH h1 (aJ hε0);grind
 ·
  left
  have hp:=h.pos;refine(sW h).le ?_;refine iw (c:=α-w) ?_ hp;rw[bM (cR hp)];have e1:(τ+ε)*(α-w)=1-τ*w+ε*α-ε*w:=by grind
  rw[e1]
  have g0:0<τ:=by
   refine kY.1 fun e=>?_
   have :=aV e (aJ hα0);grind
  have g1:2*(ε*α)<=τ*w:=by
   have :=cH hε (aJ g0);have e2:τ*(2*(ε*(α*α)))=2*(ε*α)*(τ*α):=by grind
   rw[e2,hτ]at this;grind
  have g2:=iJ hε0 w0;have g3:=iJ hε0 hα0;grind
def tw (e:Int):Rat:=if 0<=e then 2^e.toNat else 1/2^(-e).toNat
theorem bN (n:Nat):tw (n:Int)=2^n:=by unfold tw;rw[aj (by omega),gf]
theorem nK {a:Rat}(h:0<a):1/a*a=1:=bM (cR h)
theorem y_ (e:Int):tw (e+1)=tw e*2:=by
 unfold tw;by_cases h:0<=e
 .rw[aj h,aj (by omega),show(e+1).toNat=e.toNat+1 by omega,bI]
 .rw[ag h]
  by_cases h1:e= -1
  .subst h1
   rw[aj (by omega),show((-1:Int)+1).toNat=0 by decide,cU,show(-(-1:Int)).toNat=1 by decide,uw];exact(nK (by decide)).symm
  .rw[ag (by omega),show(-e).toNat=(-(e+1)).toNat+1 by omega,bI]
   have h2:=two_pos (-(e+1)).toNat;generalize (2:Rat)^(-(e+1)).toNat=y at *;have e1:=nK h2;have e2:=nK (show 0<y*2 by grind);have e3:(1/y)*(y*(1/(y*2)))=1/(y*2):=by rw[<-iu,e1,l8]
   generalize 1/y=u at *;generalize 1/(y*2)=v at *;grind
theorem rJ (e:Int) (n:Nat):tw (e+n)=tw e*2^n:=by
 induction n with
 |zero=>rw[show e+((0:Nat):Int)=e by omega,cU,fz]
 |succ n ih=>rw[show e+((n+1:Nat):Int)=e+n+1 by omega,y_,ih,bI,iu]
theorem db (e:Int):0<tw e:=by
 unfold tw;split
 .exact two_pos _
 .rw[jW (two_pos _)];grind
theorem fM (a b:Int):tw (a+b)=tw a*tw b:=by
 by_cases h:0<=b
 .have :=rJ a b.toNat
  have e2:=bN b.toNat;rw[show((b.toNat:Nat):Int)=b by omega]at this e2;rw[this,e2]
 .have e1:=rJ (a+b) (-b).toNat
  have e2:=rJ b (-b).toNat;rw[show a+b+(((-b).toNat:Nat):Int)=a by omega]at e1;rw[show b+(((-b).toNat:Nat):Int)=((0:Nat):Int) by omega,bN,cU]at e2;have hp:=two_pos (-b).toNat;generalize (2:Rat)^(-b).toNat=y at *;have :(tw (a+b)-tw a*tw b)*y=0:=by grind
  rcases gr.1 this with h|h
  .grind
  .grind
theorem mE (e:Int):tw (-e)*tw e=1:=by
 rw[<-fM,show -e+e=((0:Nat):Int) by omega,bN,cU]
theorem dH {a b:Int}(h:a<=b):tw a<=tw b:=by
 have :=rJ a (b-a).toNat;rw[show a+(((b-a).toNat:Nat):Int)=b by omega]at this;rw[this];have g:=cH (one_le_pow (a:=2) (by decide) (b-a).toNat) (aJ (db a));grind
structure Pr where
 l:Nat
 h:Nat
def cN (a b:Nat):Nat:=a/b+(if a%b=0 then 0 else 1)
def iF (x:Pr) (n:Nat):Pr:=⟨x.l/2^n,cN x.h (2^n)⟩
def cy (x y:Pr) (p:Nat):Pr:=iF ⟨x.l*y.l,x.h*y.h⟩ p
def eU (x:Pr) (n:Nat):Pr:=⟨x.l/n,cN x.h n⟩
def jN (x y:Pr):Pr:=⟨x.l+y.l,x.h+y.h⟩
def dz (m:Nat) (e:Int) (p:Nat):Pr:=if 0<=e+p then⟨m*2^(e+p).toNat,m*2^(e+p).toNat⟩ else iF ⟨m,m⟩ (-e-p).toNat
theorem Gk (a:Nat) {b:Nat}(hb:0<b):a<=cN a b*b:=by
 have h1:=kt a b;have h2:=ew a hb;unfold cN;rw[a_,aW (a/b) b];generalize b*(a/b)=q at *;split
 .omega
 .rw[fP];omega
theorem aa0 (a:Nat) {b:Nat}(hb:0<b):cN a b*b<a+b:=by
 have h1:=kt a b;have h2:=ew a hb;unfold cN;rw[a_,aW (a/b) b];generalize b*(a/b)=q at *;split
 .omega
 .rw[fP];omega
theorem kA {a b c:Nat}(hb:0<b) (h:a<=c*b):cN a b<=c:=by
 have h1:=aa0 a hb;have h2:cN a b*b<(c+1)*b:=by rw[a_,fP];omega
 have :=mR h2;omega
theorem DU (a:Nat) {b:Nat}(hb:0<b):a<(a/b+1)*b:=by
 have h1:=kt a b;have h2:=ew a hb;rw[a_,aW (a/b) b,fP];omega
theorem GZ {a b n c:Nat}(hn:0<n) (h:b<=a+c*n):cN b n<=a/n+c+1:=by
 have h1:=DU a hn;refine kA hn ?_;rw[a_]at h1;rw[a_,a_];omega
theorem KR {a b c:Nat}(hb:0<b) (h:c*b<=a):c<=cN a b:=jS (ct h (Gk a hb)) hb
theorem sQ {L b:Nat}{s:Rat}(hb:0<b) (h:(L:Rat)<=s*(b:Rat)):((L/b:Nat):Rat)<=s:=by
 have h1:((L/b*b:Nat):Rat)<=(L:Rat):=cL.2 (qH L b);rw[ft]at h1;exact iw (cI h1 h) (fo.2 hb)
theorem uL {L b:Nat}{s:Rat}(hb:0<b) (h:s*(b:Rat)<=(L:Rat)):s<=((cN L b:Nat):Rat):=by
 have h1:(L:Rat)<=((cN L b*b:Nat):Rat):=cL.2 (Gk L hb);rw[ft]at h1;exact iw (cI h h1) (fo.2 hb)
def ig (x:Pr) (p:Nat) (r:Rat):Prop:=(x.l:Rat)<=r*2^p/\r*2^p<=(x.h:Rat)
theorem A_ {x y:Pr}{p:Nat}{r s:Rat}(h1:ig x p r) (h2:ig y p s) (hr:0<=r) (hs:0<=s):ig (cy x y p) p (r*s):=by
 obtain⟨a1,a2⟩:=h1;obtain⟨b1,b2⟩:=h2;have hp:=two_pos p;have hx:=df (a:=x.l);have hy:=df (a:=y.l);have hr':=aN hr (aJ hp);have hs':=aN hs (aJ hp);constructor
 .refine sQ (az p) ?_
  show((x.l*y.l:Nat):Rat)<=_
  rw[ft,c_];have :=k' a1 b1 hr' hy;grind
 .refine uL (az p) ?_
  show _<=((x.h*y.h:Nat):Rat)
  rw[ft,c_];have :=k' a2 b2 (df (a:=x.h)) hs';grind
theorem Il {x:Pr}{p n:Nat}{r s:Rat}(h1:ig x p r) (hn:0<n) (h:r=s*(n:Rat)):ig (eU x n) p s:=by
 obtain⟨a1,a2⟩:=h1;subst h;exact⟨sQ hn (by grind),uL hn (by grind)⟩
theorem Kc {x y:Pr}{p:Nat}{r s:Rat}(h1:ig x p r) (h2:ig y p s):ig (jN x y) p (r+s):=by
 obtain⟨a1,a2⟩:=h1;obtain⟨b1,b2⟩:=h2;constructor
 .show((x.l+y.l:Nat):Rat)<=_
  rw[dW];grind
 .show _<=((x.h+y.h:Nat):Rat)
  rw[dW];grind
theorem RX (m:Nat) (e:Int) (p:Nat):ig (dz m e p) p ((m:Rat)*tw e):=by
 have e0:(m:Rat)*tw e*2^p=(m:Rat)*tw (e+p):=by rw[rJ];grind
 unfold dz;by_cases h:0<=e+p
 .rw[aj h]
  have e1:(m:Rat)*tw e*2^p=((m*2^(e+p).toNat:Nat):Rat):=by
   rw[e0,ft,c_,<-bN,show(((e+p).toNat:Nat):Int)=e+p by omega]
  exact⟨by rw[e1];exact dX,by rw[e1];exact dX⟩
 .rw[ag h]
  have e1:(m:Rat)*tw e*2^p*((2^(-e-p).toNat:Nat):Rat)=(m:Rat):=by
   rw[e0,c_,iu,<-rJ,show e+p+(((-e-p).toNat:Nat):Int)=((0:Nat):Int) by omega,bN,cU,fz]
  exact⟨sQ (az _) (by rw[e1];exact dX),uL (az _) (by rw[e1];exact dX)⟩
def bZ (t:Pr) (p:Nat):Nat->Pr
 | 0=>⟨2^p,2^p⟩
 |k+1=>eU (cy (bZ t p k) t p) (k+1)
def cY (t:Pr) (p:Nat):Nat->Pr
 | 0=>bZ t p 0
 |k+1=>jN (cY t p k) (bZ t p (k+1))
theorem Tu (p:Nat):dz 1 0 p=⟨2^p,2^p⟩:=by
 unfold dz;rw[aj (by omega),show((0:Int)+p).toNat=p by omega,fP]
theorem xO {t:Pr}{p:Nat}{r:Rat}(h:ig t p r) (hr:0<=r):∀k,ig (bZ t p k) p (tm r k)
 | 0=>by
  show ig ⟨2^p,2^p⟩ p 1
  exact⟨by show((2^p:Nat):Rat)<=_;rw[c_];grind,by show _<=((2^p:Nat):Rat);rw[c_];grind⟩
 |k+1=>Il (A_ (xO h hr k) h (iB hr k) hr) (by omega) (by have :=gO r k;grind)
theorem Nr {t:Pr}{p:Nat}{r:Rat}(h:ig t p r) (hr:0<=r):∀k,ig (cY t p k) p (E r (k+1))
 | 0=>by
  have :=xO h hr 0;rw[qM];exact this
 |k+1=>Kc (Nr h hr k) (xO h hr (k+1))
theorem wH {t:Pr}{p:Nat}(h:2*t.h<=2^p):∀k,k<=p->(bZ t p k).h<=2^(p-k)
 | 0,_=>ae _
 |k+1,hk=>by
  have ih:=wH h k (by omega);have hp:=az p;have e1:2^(p-k)=2*2^(p-(k+1)):=by rw[show p-k=(p-(k+1))+1 by omega,bH,aW]
  show cN (cN ((bZ t p k).h*t.h) (2^p)) (k+1)<=_
  refine kA (by omega) (ct (kA (c:=2^(p-(k+1))) hp ?_) (ug _ (by omega)));have h1:=eI ih (ae t.h);have h2:=cZ (2^(p-(k+1))) h;rw[e1]at h1;have e2:2^(p-(k+1))*(2*t.h)=2*2^(p-(k+1))*t.h:=by rw[aW 2 (2^(p-(k+1))),aF]
  omega
theorem xw {t:Pr}{p:Nat}(h:2*t.h<=2^p):∀k,k<=p->(cY t p k).h+2^(p-k)<=2*2^p
 | 0,_=>by show 2^p+2^(p-0)<=_;rw[Ae];omega
 |k+1,hk=>by
  have ih:=xw h k (by omega);have h1:=wH h (k+1) hk;have e1:2^(p-k)=2*2^(p-(k+1)):=by rw[show p-k=(p-(k+1))+1 by omega,bH,aW]
  show(cY t p k).h+(bZ t p (k+1)).h+_<=_
  omega
theorem CB (t:Pr) (p:Nat):∀k,2^p<=(cY t p k).l
 | 0=>ae _
 |k+1=>by
  have ih:=CB t p k
  show 2^p<=(cY t p k).l+(bZ t p (k+1)).l
  omega
theorem tv (x y:Pr) (p:Nat) (hx:x.l<=x.h) (hy:y.l<=y.h):(cy x y p).l<=(cy x y p).h:=by
 show x.l*y.l/2^p<=cN (x.h*y.h) (2^p)
 refine KR (az _) (ct (qH _ _) (eI hx hy))
theorem Bo (x:Pr) {n:Nat}(hn:0<n) (hx:x.l<=x.h):(eU x n).l<=(eU x n).h:=by
 show x.l/n<=cN x.h n
 exact KR hn (ct (qH _ _) hx)
theorem yF {t:Pr}{p:Nat}(h:t.l<=t.h):∀k,(bZ t p k).l<=(bZ t p k).h
 | 0=>ae _
 |k+1=>Bo _ (by omega) (tv _ _ _ (yF h k) h)
theorem DL {t:Pr}{p:Nat}(h:t.l<=t.h):∀k,(cY t p k).l<=(cY t p k).h
 | 0=>ae _
 |k+1=>Nat.add_le_add (DL h k) (yF h (k+1))
theorem zc {x y:Pr}{p a b c:Nat}(hx:x.h<=x.l+a) (hy:y.h<=y.l+b) (h:a*y.h+b*x.l<=c*2^p):(cy x y p).h<=(cy x y p).l+c+1:=by
 show cN (x.h*y.h) (2^p)<=x.l*y.l/2^p+c+1
 refine GZ (az _) ?_;have h1:=eI hx (ae y.h);have h2:=eI (ae x.l) hy;rw[a_]at h1;rw[cP,aW x.l b]at h2;omega
theorem IM {x:Pr}{n a c:Nat}(hn:0<n) (hx:x.h<=x.l+a) (h:a<=c*n):(eU x n).h<=(eU x n).l+c+1:=
 GZ hn (by omega)
theorem Ap {t:Pr}{p:Nat}(h:2*t.h<=2^p):∀k,(bZ t p k).h<=2^p
 | 0=>ae _
 |k+1=>by
  have ih:=Ap h k;have hp:=az p
  show cN (cN ((bZ t p k).h*t.h) (2^p)) (k+1)<=_
  refine kA (by omega) (ct (kA (c:=2^p) hp ?_) (ug _ (by omega)));exact eI ih (by omega)
theorem Gf {t:Pr}{p:Nat}(h:8*t.h<=2^p) (ht:t.h<=t.l+1) (htl:t.l<=t.h):∀k,(bZ t p k).h<=(bZ t p k).l+4/\(bZ t p k).l<=2^p
 | 0=>⟨by show 2^p<=2^p+4;omega,ae _⟩
 |k+1=>by
  obtain⟨ih,ih2⟩:=Gf h ht htl k;have hp:=az p;have h1:(cy (bZ t p k) t p).h<=(cy (bZ t p k) t p).l+2+1:=zc ih ht (by omega);have h2:=IM (n:=k+1) (a:=3) (c:=3) (by omega) h1 (by omega);refine⟨by show(eU (cy (bZ t p k) t p) (k+1)).h<=(eU (cy (bZ t p k) t p) (k+1)).l+4;omega,?_⟩
  show(bZ t p k).l*t.l/2^p/(k+1)<=_
  refine ct (iG _ _) ?_;refine jS (ct (qH _ _) (eI ih2 ?_)) hp;omega
theorem Gu {t:Pr}{p:Nat}(h:8*t.h<=2^p) (ht:t.h<=t.l+1) (htl:t.l<=t.h):∀k,(cY t p k).h<=(cY t p k).l+4*k
 | 0=>ae _
 |k+1=>by
  have ih:=Gu h ht htl k;have h1:=(Gf h ht htl (k+1)).1
  show(cY t p k).h+(bZ t p (k+1)).h<=(cY t p k).l+(bZ t p (k+1)).l+4*(k+1)
  omega
def cG (x:Pr) (p:Nat):Nat->Pr
 | 0=>x
 |k+1=>cy (cG x p k) (cG x p k) p
def uq (u:Nat):Nat->Nat
 | 0=>u
 |k+1=> 2*uq u k*8^2^k
theorem vB {x:Pr}{p:Nat}(h:2^p<=x.l) (hl:x.l<=x.h):∀k,2^p<=(cG x p k).l/\(cG x p k).l<=(cG x p k).h
 | 0=>⟨h,hl⟩
 |k+1=>by
  obtain⟨i1,i2⟩:=vB h hl k;refine⟨?_,tv _ _ _ i2 i2⟩
  show 2^p<=(cG x p k).l*(cG x p k).l/2^p
  rw[qF (az _)];exact eI i1 i1
theorem wR {x:Pr}{p:Nat}(h:2^p<=x.l) (hl:x.l<=x.h) (hx:x.h+1<=2^p*8):∀k,(cG x p k).h+1<=2^p*8^2^k
 | 0=>hx
 |k+1=>by
  have ih:=wR h hl hx k;obtain⟨i1,i2⟩:=vB h hl k;have hp:=az p;have e8:8^2^(k+1)=8^2^k*8^2^k:=by rw[<-aB];congr 1;rw[bH];omega
  have hB:0<8^2^k:=fN (by decide);rw[e8];generalize 8^2^k=B at *
  show cN ((cG x p k).h*(cG x p k).h) (2^p)+1<=_
  generalize (cG x p k).h=H at *;generalize 2^p=P at *;have g0:0<P*(B*B):=fm hp (fm hB hB)
  suffices hs:cN (H*H) P<=P*(B*B)-1 by omega
  refine kA hp ?_;have g1:=eI ih ih
  have e1:P*B*(P*B)=P*(B*B)*P:=by
   ac_rfl
  rw[e1,a_,cP]at g1;rw[Nat.sub_mul];omega
theorem J6 {x:Pr}{p u:Nat}(h:2^p<=x.l) (hl:x.l<=x.h) (hx:x.h+1<=2^p*8) (hu:x.h+1<=x.l+u):∀k,(cG x p k).h+1<=(cG x p k).l+uq u k
 | 0=>hu
 |k+1=>by
  have ih:=J6 h hl hx hu k;have hs:=wR h hl hx k;obtain⟨i1,i2⟩:=vB h hl k;have hB:0<8^2^k:=fN (by decide);have hU:0<uq u k:=by omega
  show(cy (cG x p k) (cG x p k) p).h+1<=(cy (cG x p k) (cG x p k) p).l+2*uq u k*8^2^k
  obtain⟨v,hv⟩:∃v,uq u k=v+1:=⟨uq u k-1,by omega⟩
  have hn:=zc (x:=cG x p k) (y:=cG x p k) (p:=p) (a:=v) (b:=v) (c:=2*v*8^2^k) (by omega) (by omega) (by
   have g1:=cZ v (show(cG x p k).h<=2^p*8^2^k by omega);have g2:=cZ v (show(cG x p k).l<=2^p*8^2^k by omega)
   have e:2*v*8^2^k*2^p=v*(2^p*8^2^k)+v*(2^p*8^2^k):=by
    rw[aF,aF,aW (8^2^k)];omega
   omega)
  rw[hv];generalize 8^2^k=B at *;have e:2*(v+1)*B=2*v*B+2*B:=by rw[cP,a_]
  omega
theorem Hh (u:Nat):∀k,uq u k<=u*2^(k+3*(2^k-1))
 | 0=>by show u<=_;simp
 |k+1=>by
  have ih:=Hh u k
  show 2*uq u k*8^2^k<=_
  have h2:=az k;have e8:8^2^k=2^(3*2^k):=by rw[show(8:Nat)=2^3 by decide,<-jU]
  have e:u*2^(k+1+3*(2^(k+1)-1))=2*(u*2^(k+3*(2^k-1)))*2^(3*2^k):=by
   rw[show k+1+3*(2^(k+1)-1)=(k+3*(2^k-1))+3*2^k+1 by rw[bH];omega,bH,aB,aW 2 (u*_),<-aF,<-aF,gZ]
  rw[e8,e];exact bR _ (cZ _ ih)
theorem lD {a b c:Rat}(hc:0<c):a/c<=b↔a<=b*c:=by
 have e:a/c*c=a:=bM (cR hc);constructor
 .intro h
  have :=aV h (aJ hc);grind
 .intro h
  exact iw (by rw[e];exact h) hc
theorem Ka {x:Pr}{p:Nat}{r:Rat}(hr:0<=r) (h:Dn r ((x.l:Rat)/2^p)) (h2:Up r ((x.h:Rat)/2^p)):∀k,Dn (r*2^k) (((cG x p k).l:Rat)/2^p)/\Up (r*2^k) (((cG x p k).h:Rat)/2^p)
 | 0=>by rw[cU,fz];exact⟨h,h2⟩
 |k+1=>by
  obtain⟨i1,i2⟩:=Ka hr h h2 k;have hp:=two_pos p;have hrk:=aN hr (iE k);have e:r*2^(k+1)=r*2^k+r*2^k:=by rw[bI];grind
  rw[e];have hl0:0<=((cG x p k).l:Rat)/2^p:=by rw[eB hp];have :=df (a:=(cG x p k).l);grind
  have d1:=YJ hrk hrk i1 i1 hl0 hl0;have d2:=up_mul hrk hrk i2 i2;have el:((cG x p k).l:Rat)/2^p*2^p=((cG x p k).l:Rat):=bM (cR hp);have eh:((cG x p k).h:Rat)/2^p*2^p=((cG x p k).h:Rat):=bM (cR hp);generalize ((cG x p k).l:Rat)/2^p=L at *;generalize ((cG x p k).h:Rat)/2^p=H at *;constructor
  .refine d1.le ?_
   rw[lD hp];refine sQ (az p) ?_
   show(((cG x p k).l*(cG x p k).l:Nat):Rat)<=_
   rw[ft,c_,<-el];grind
  .refine d2.le ?_
   rw[eB hp];refine uL (az p) ?_
   show _<=(((cG x p k).h*(cG x p k).h:Nat):Rat)
   rw[ft,c_,<-eh];grind
theorem Cx {m p b:Nat}{e:Int}(hm:m<2^b) (hs:(b:Int)+e<= -16) (hp:16<=p):(dz m e p).h<=2^(p-16)/\(dz m e p).l<=(dz m e p).h/\(dz m e p).h<=(dz m e p).l+1:=by
 unfold dz;by_cases h:0<=e+p
 .rw[aj h]
  refine⟨?_,ae _,Nat.le_succ _⟩
  show m*2^(e+p).toNat<=_
  refine ct (bR _ (gn hm)) ?_;rw[<-aB];exact aG (by decide) (by omega)
 .rw[ag h]
  have hq:=az (-e-p).toNat;refine⟨?_,?_,?_⟩
  .show cN m (2^(-e-p).toNat)<=_
   refine kA hq ?_;rw[<-aB];exact ct (gn hm) (aG (by decide) (by omega))
  .show m/_<=cN m _
   unfold cN;omega
  .show cN m _<=m/_+1
   unfold cN;split <;> omega
def cD (m:Nat) (e:Int) (p k s:Nat):Pr:=cG ⟨(cY (dz m (e-s) p) p k).l,(cY (dz m (e-s) p) p k).h+4⟩ p s
def Ww (k s:Nat):Nat:=(4*k+5)*2^(s+3*(2^s-1))
structure Good (x:Rat) (p:Nat) (y:Pr):Prop where
 lo:Lo x ((y.l:Rat)/2^p)
 hi:Hi x ((y.h:Rat)/2^p)
theorem FY {m p b k s:Nat}{e:Int}(hm:m<2^b) (hs:(b:Int)+e-s<= -16) (hp:16<=p) (hk:k<=p) (hend:(bZ (dz m (e-s) p) p k).h<=1):
  2^p<=(cD m e p k s).l/\(cD m e p k s).l<=(cD m e p k s).h/\(cD m e p k s).h+1<=(cD m e p k s).l+Ww k s/\(cD m e p k s).h+1<=2^p*8^2^s/\
   Good ((m:Rat)*tw e) p (cD m e p k s):=by
 obtain⟨f1,f2,f3⟩:=Cx (p:=p) (e:=e-s) hm (by omega) hp;have hb:=RX m (e-s) p;unfold cD;obtain⟨r,hr⟩:∃r,r=(m:Rat)*tw (e-s):=⟨_,rfl⟩;rw[<-hr]at hb;generalize dz m (e-s) p=t at *;have hr0:0<=r:=by rw[hr];exact aN df (aJ (db _))
 have e16:2^p=65536*2^(p-16):=by
  have :2^p=2^(16+(p-16)):=by congr 1;omega
  rw[this,aB]
 have hp16:=az (p-16);have t8:8*t.h<=2^p:=by omega
 have s1:=CB t p k;have s2:=xw (t:=t) (p:=p) (by omega) k hk;have s3:=Gu t8 f3 f2 k;have q1:=Nr hb hr0 k;have q2:=xO hb hr0 k;have hP:=two_pos p
 have hr1:2*r<=1:=by
  have h1:=hb.2
  have h2:(t.h:Rat)*2<=2^p:=by
   rw[<-c_];have :((t.h*2:Nat):Rat)<=((2^p:Nat):Rat):=cL.2 (by omega);rw[ft]at this;exact this
  refine iw (c:=2^p) ?_ hP;grind
 have hdn:Dn r (((cY t p k).l:Rat)/2^p):=(F8 r (k+1)).le ((lD hP).2 q1.1)
 have hup:Up r ((((cY t p k).h+4:Nat):Rat)/2^p):=by
  refine(xe hr0 (K:=k+1) ?_).le ?_
  .have :(1:Rat)<=((k+1+1:Nat):Rat):=cL.2 (show 1<=k+1+1 by omega)
   grind
  .rw[eB hP]
   have g1:=q1.2;have g2:tm r k*2^p<=1:=cI q2.2 (cL.2 hend);have g3:=gO r k
   have g4:tm r (k+1)<=tm r k:=by
    have c1:(1:Rat)<=((k+1:Nat):Rat):=cL.2 (show 1<=k+1 by omega);have c2:=aV c1 (iB hr0 (k+1));have c3:=aV (show r<=1 by grind) (iB hr0 k);grind
   have g5:=aV g4 (aJ hP);rw[dW];have :((4:Nat):Rat)=4:=rfl;rw[this];grind
 obtain⟨z,hz⟩:∃z:Pr,z=⟨(cY t p k).l,(cY t p k).h+4⟩:=⟨_,rfl⟩;have zl:z.l=(cY t p k).l:=by rw[hz]
 have zh:z.h=(cY t p k).h+4:=by rw[hz]
 rw[<-hz];have w1:2^p<=z.l:=by omega
 have w2:z.l<=z.h:=by
  have :=q1.1;have h2:=q1.2;have h3:(cY t p k).l<=(cY t p k).h:=cL.1 (cI this h2);omega
 have hpk:=az (p-k);have w3:z.h+1<=2^p*8:=by omega
 obtain⟨a1,a2⟩:=vB w1 w2 s;have a3:=J6 w1 w2 w3 (u:=4*k+5) (by omega) s;have a4:=wR w1 w2 w3 s;obtain⟨d1,d2⟩:=Ka (x:=z) (p:=p) hr0 (by rw[zl];exact hdn) (by rw[zh];exact hup) s;have ex:r*2^s=(m:Rat)*tw e:=by rw[hr,iu,<-rJ,show e-(s:Int)+s=e by omega]
 rw[ex]at d1 d2;have hx0:0<=(m:Rat)*tw e:=aN df (aJ (db _));refine⟨a1,a2,ct a3 (Nat.add_le_add_left (Hh _ s) _),a4,⟨Kn hx0 d1,yx hx0 d2⟩⟩
def nE (y:Pr) (p:Nat):Pr:=⟨2^(2*p)/y.h,2^(2*p)/y.l+1⟩
theorem ZJ {x:Rat}{p w:Nat}{y:Pr}(h:Good x p y) (h1:2^p<=y.l) (h2:y.l<=y.h) (hw:y.h<=y.l+w):
  Good (-x) p (nE y p)/\(nE y p).h<=(nE y p).l+2*w+1/\(nE y p).h<=2^p+1:=by
 have hp:=az p;have hP:=two_pos p;have e2:2^(2*p)=2^p*2^p:=by rw[<-aB];congr 1;omega
 have hl:0<y.l:=by omega
 have hh:0<y.h:=by omega
 have hlr:(0:Rat)<(y.l:Rat):=fo.2 hl;have hhr:(0:Rat)<(y.h:Rat):=fo.2 hh;refine⟨⟨?_,?_⟩,?_,?_⟩
 .refine(sW h.hi).le ?_
  rw[lD hP];refine sQ hh ?_;rw[e2,ft,c_];have e:=nK (show 0<(y.h:Rat)/2^p by rw[jW hP];grind);have e3:(y.h:Rat)/2^p*2^p=(y.h:Rat):=bM (cR hP);generalize (y.h:Rat)/2^p=H at *;rw[<-e3];generalize 1/H=G at *;have :G*2^p*(H*2^p)=(G*H)*(2^p*2^p):=by grind
  rw[this,e];grind
 .refine(lf (by rw[jW hP];grind) h.lo).le ?_
  rw[eB hP]
  show _<=((2^(2*p)/y.l+1:Nat):Rat)
  have g:2^(2*p)<=(2^(2*p)/y.l+1)*y.l:=gn (DU _ hl)
  have g2:((2^(2*p):Nat):Rat)<=((2^(2*p)/y.l+1:Nat):Rat)*(y.l:Rat):=by
   rw[<-ft];exact cL.2 g
  refine iw (cI ?_ g2) hlr;rw[e2,ft,c_];have e:=nK (show 0<(y.l:Rat)/2^p by rw[jW hP];grind);have e3:(y.l:Rat)/2^p*2^p=(y.l:Rat):=bM (cR hP);generalize (y.l:Rat)/2^p=H at *;rw[<-e3];generalize 1/H=G at *;have :G*2^p*(H*2^p)=(G*H)*(2^p*2^p):=by grind
  rw[this,e];grind
 .show 2^(2*p)/y.l+1<=2^(2*p)/y.h+2*w+1
  obtain⟨q,hq⟩:∃q,q=2^(2*p)/y.h:=⟨_,rfl⟩;rw[<-hq];have g1:=DU (2^(2*p)) hh;rw[<-hq]at g1
  have g2:q<=2^p:=by
   rw[hq];refine jS (ct (qH _ _) ?_) hh;rw[e2];exact cZ _ (by omega)
  suffices hs:2^(2*p)/y.l<q+1+2*w by omega
  rw[lU hl];refine aX g1 ?_;have g3:=cZ (q+1) hw;rw[cP]at g3;rw[a_ (q+1)]
  have g4:(q+1)*w<=2*w*y.l:=by
   have :=bR w (show q+1<=2*y.l by omega);rw[gZ];exact this
  omega
 .show 2^(2*p)/y.l+1<=2^p+1
  have :2^(2*p)/y.l<=2^p:=by
   refine jS (ct (qH _ _) ?_) hl;rw[e2];exact cZ _ h1
  omega
theorem GO {x y:Rat}(hx:0<=x) (h:x<=y):∀n:Nat,y^(n+1)-x^(n+1)<=((n+1:Nat):Rat)*y^n*(y-x)
 | 0=>by
  rw[bI,bI,cU,cU];have :((0+1:Nat):Rat)=1:=rfl;rw[this];grind
 |n+1=>by
  have ih:=GO hx h n;have hy:0<=y:=cI hx h;have e1:y^(n+1+1)-x^(n+1+1)=(y^(n+1)-x^(n+1))*y+x^(n+1)*(y-x):=by rw[bI y (n+1),bI x (n+1)];grind
  have h1:=aV ih hy;have h2:=aV (j8 hx h (n+1)) (show 0<=y-x by grind);have e2:((n+1+1:Nat):Rat)=((n+1:Nat):Rat)+1:=dW (n+1) 1;have e3:y^(n+1)=y^n*y:=bI y n;rw[e1,e2];rw[e3]at h2 h1 ⊢;clear ih e1 e2 e3;generalize y^n=Y at *;generalize x^(n+1)=X at *;generalize ((n+1:Nat):Rat)=c at *;grind
theorem Bh {x y:Rat}(hx:0<=x) (h:x<=y):∀n:Nat,((n+1:Nat):Rat)*x^n*(y-x)<=y^(n+1)-x^(n+1)
 | 0=>by
  rw[bI,bI,cU,cU];have :((0+1:Nat):Rat)=1:=rfl;rw[this];grind
 |n+1=>by
  have ih:=Bh hx h n;have hy:0<=y:=cI hx h;have e1:y^(n+1+1)-x^(n+1+1)=(y^(n+1)-x^(n+1))*x+y^(n+1)*(y-x):=by rw[bI y (n+1),bI x (n+1)];grind
  have h1:=aV ih hx;have h2:=aV (j8 hx h (n+1)) (show 0<=y-x by grind);have e2:((n+1+1:Nat):Rat)=((n+1:Nat):Rat)+1:=dW (n+1) 1;have e3:x^(n+1)=x^n*x:=bI x n;rw[e1,e2];rw[e3]at h2 h1 ⊢;clear ih e1 e2 e3;generalize y^(n+1)=Y at *;generalize x^n=X at *;generalize ((n+1:Nat):Rat)=c at *;grind
theorem JF {x y:Rat}(hx:0<=x) (h:x<=y) (hy:y<=1):∀K,(ah y K-ah x K)*(1-y*y)<=2*(y-x)*(1-y^(2*K))
 | 0=>by
  show(0-0:Rat)*_<=_
  rw[show 2*0=0 from rfl,cU];grind
 |K+1=>by
  have ih:=JF hx h hy K;have h1:=GO hx h (2*K);have hn:(0:Rat)<((2*K+1:Nat):Rat):=fo.2 (by omega);have hy0:0<=y:=cI hx h;have hyy:0<=1-y*y:=by have :=aN (show 0<=1-y by grind) (show 0<=1+y by grind);grind
  show(ah y K+2*(y^(2*K+1)/((2*K+1:Nat):Rat))-(ah x K+2*(x^(2*K+1)/((2*K+1:Nat):Rat))))*(1-y*y)<=_
  have e1:y^(2*K+1)/((2*K+1:Nat):Rat)*((2*K+1:Nat):Rat)=y^(2*K+1):=bM (cR hn);have e2:x^(2*K+1)/((2*K+1:Nat):Rat)*((2*K+1:Nat):Rat)=x^(2*K+1):=bM (cR hn);have e3:y^(2*(K+1))=y^(2*K)*(y*y):=by rw[show 2*(K+1)=2*K+1+1 by omega,bI,bI];grind
  generalize y^(2*K+1)/((2*K+1:Nat):Rat)=u at *;generalize x^(2*K+1)/((2*K+1:Nat):Rat)=v at *;rw[<-e1,<-e2]at h1
  have g:u-v<=y^(2*K)*(y-x):=by
   refine iw (c:=((2*K+1:Nat):Rat)) ?_ hn;grind
  have g2:=aV g hyy;rw[e3];grind
theorem Ih {x y:Rat}(hx:0<=x) (h:x<=y) (hx1:x<=1):∀K,2*(y-x)*(1-x^(2*K))<=(ah y K-ah x K)*(1-x*x)
 | 0=>by
  show _<=(0-0:Rat)*_
  rw[show 2*0=0 from rfl,cU];grind
 |K+1=>by
  have ih:=Ih hx h hx1 K;have h1:=Bh hx h (2*K);have hn:(0:Rat)<((2*K+1:Nat):Rat):=fo.2 (by omega);have hxx:0<=1-x*x:=by have :=aN (show 0<=1-x by grind) (show 0<=1+x by grind);grind
  show _<=(ah y K+2*(y^(2*K+1)/((2*K+1:Nat):Rat))-(ah x K+2*(x^(2*K+1)/((2*K+1:Nat):Rat))))*(1-x*x)
  have e1:y^(2*K+1)/((2*K+1:Nat):Rat)*((2*K+1:Nat):Rat)=y^(2*K+1):=bM (cR hn);have e2:x^(2*K+1)/((2*K+1:Nat):Rat)*((2*K+1:Nat):Rat)=x^(2*K+1):=bM (cR hn);have e3:x^(2*(K+1))=x^(2*K)*(x*x):=by rw[show 2*(K+1)=2*K+1+1 by omega,bI,bI];grind
  generalize y^(2*K+1)/((2*K+1:Nat):Rat)=u at *;generalize x^(2*K+1)/((2*K+1:Nat):Rat)=v at *;rw[<-e1,<-e2]at h1
  have g:x^(2*K)*(y-x)<=u-v:=by
   refine iw (c:=((2*K+1:Nat):Rat)) ?_ hn;grind
  have g2:=aV g hxx;rw[e3];grind
theorem AS:∀K,ah 0 K=0
 | 0=>rfl
 |K+1=>by
  show ah 0 K+2*((0:Rat)^(2*K+1)/((2*K+1:Nat):Rat))=0
  rw[AS K,bI,jV,Ag,fS];grind
theorem Ve {z:Rat}(hz:0<=z) (hz3:3*z<=1) (K:Nat):Hi (ah z K) ((1+z)/(1-z)):=
 QN (f:=fun z=>ah z K) hz hz3 (AS K) fun x y hx h hy=>by
  have h1:=JF hx h (show y<=1 by grind) K;have h2:=fJ (n:=2*K) (show 0<=y by grind);have h3:=aN (show 0<=y-x by grind) h2;grind
theorem XK {z:Rat}(hz:0<=z) (hz3:3*z<=1) (K:Nat):Lo (ah z (K+1)+z^(2*(K+1)+1)) ((1+z)/(1-z)):=
 Rg (f:=fun z=>ah z (K+1)+z^(2*(K+1)+1)) hz hz3 (by
  show ah 0 (K+1)+(0:Rat)^(2*(K+1)+1)=0
  rw[AS,bI];grind) fun x y hx h hy=>by
  have h1:=Ih hx h (show x<=1 by grind) (K+1);have h2:=Bh hx h (2*(K+1));have h3:(3:Rat)<=((2*(K+1)+1:Nat):Rat):=cL.2 (show 3<=2*(K+1)+1 by omega);have hp:=fJ (n:=2*(K+1)) hx
  show 2*(y-x)<=(ah y (K+1)+y^(2*(K+1)+1)-(ah x (K+1)+x^(2*(K+1)+1)))*(1-x*x)
  generalize x^(2*(K+1))=u at *;generalize y^(2*(K+1)+1)=b at *;generalize x^(2*(K+1)+1)=a at *;generalize ((2*(K+1)+1:Nat):Rat)=n at *;have h4:=aN hp (show 0<=y-x by grind);have h5:=aV h3 h4;have h6:3*(u*(y-x))<=b-a:=by grind
  have hxx:3*(x*x)<=1:=by
   have :=aN hx (show 0<=1-3*x by grind);grind
  have h7:=aV h6 (show 0<=1-x*x by grind);have h8:=aN h4 (show 0<=1-3*(x*x) by grind);grind
def qP (num den p:Nat):Pr:=⟨num*2^p/den,cN (num*2^p) den⟩
def cf (z:Pr) (p:Nat):Nat->Pr
 | 0=>z
 |k+1=>cy (cf z p k) (cy z z p) p
def cM (z:Pr) (p:Nat):Nat->Pr
 | 0=>z
 |k+1=>jN (cM z p k) (eU (cf z p (k+1)) (2*k+3))
theorem BF {num den p:Nat}(hd:0<den) (h:3*num<=den) (hp:4<=p):2*(qP num den p).h<=2^p/\(qP num den p).l<=(qP num den p).h/\(qP num den p).h<=(qP num den p).l+1:=by
 have h16:2^4<=2^p:=aG (by decide) hp;refine⟨?_,?_,?_⟩
 .have :(qP num den p).h<=2^p/3+1:=by
   refine kA hd ?_;have h1:=bR (2^p) h;have h2:2^p<=3*(2^p/3+1):=by omega
   have h3:=cZ den h2;have e1:den*(3*(2^p/3+1))=3*((2^p/3+1)*den):=by rw[fQ,aW den]
   have e2:3*num*2^p=3*(num*2^p):=aF _ _ _;omega
  omega
 .show _/_<=cN _ _
  unfold cN;omega
 .show cN _ _<=_/_+1
  unfold cN;split <;> omega
theorem TJ {num den p:Nat}{x:Rat}(hd:0<den) (hx:x*(den:Rat)=(num:Rat)):ig (qP num den p) p x:=by
 have e:((num*2^p:Nat):Rat)=x*2^p*(den:Rat):=by rw[ft,c_,<-hx];grind
 exact⟨sQ hd (by rw[e];exact dX),uL hd (by rw[e];exact dX)⟩
theorem KA (x:Rat) (k:Nat):x^(2*(k+1)+1)=x^(2*k+1)*(x*x):=by
 rw[show 2*(k+1)+1=2*k+1+1+1 by omega,bI,bI];grind
theorem Cg {z:Pr}{p:Nat}{x:Rat}(h:ig z p x) (hx:0<=x):∀k,ig (cf z p k) p (x^(2*k+1))
 | 0=>by rw[show 2*0+1=1 from rfl,uw];exact h
 |k+1=>by
  rw[KA];exact A_ (Cg h hx k) (A_ h h hx hx) (fJ hx) (aN hx hx)
def pH (x:Rat):Nat->Rat
 | 0=>x
 |k+1=>pH x k+x^(2*(k+1)+1)/((2*k+3:Nat):Rat)
theorem M_ (x:Rat):∀k,pH x k+pH x k=ah x (k+1)
 | 0=>by
  show x+x=0+2*(x^(2*0+1)/((2*0+1:Nat):Rat))
  have e:((2*0+1:Nat):Rat)=1:=rfl;have e2:x/1=x:=by have :=bM (a:=x) (b:=1) (by decide);grind
  rw[e,show 2*0+1=1 from rfl,uw,e2];grind
 |k+1=>by
  have ih:=M_ x k
  show pH x k+x^(2*(k+1)+1)/((2*k+3:Nat):Rat)+(pH x k+x^(2*(k+1)+1)/((2*k+3:Nat):Rat))=ah x (k+1)+2*(x^(2*(k+1)+1)/((2*(k+1)+1:Nat):Rat))
  rw[show 2*(k+1)+1=2*k+3 by omega]at *;grind
theorem GJ {z:Pr}{p:Nat}{x:Rat}(h:ig z p x) (hx:0<=x):∀k,ig (cM z p k) p (pH x k)
 | 0=>h
 |k+1=>Kc (GJ h hx k) (Il (Cg h hx (k+1)) (by omega) (bM (cR (fo.2 (by omega)))).symm)
theorem yU {z:Pr}{p:Nat}(h:2*z.h<=2^p):2*(cy z z p).h<=2^p:=by
 have hp:=az p;have :(cy z z p).h<=z.h:=kA hp (cZ _ (by omega));omega
theorem yt {z:Pr}{p:Nat}(h:2*z.h<=2^p):∀k,k<=p->(cf z p k).h<=2^(p-k)
 | 0,_=>by show z.h<=2^(p-0);rw[Ae];omega
 |k+1,hk=>by
  have ih:=yt h k (by omega);have hp:=az p;have hs:=yU h;have e1:2^(p-k)=2*2^(p-(k+1)):=by rw[show p-k=(p-(k+1))+1 by omega,bH,aW]
  show cN ((cf z p k).h*(cy z z p).h) (2^p)<=_
  refine kA hp ?_;have h1:=eI ih (ae (cy z z p).h);have h2:=cZ (2^(p-(k+1))) hs;rw[e1]at h1;have e2:2^(p-(k+1))*(2*(cy z z p).h)=2*2^(p-(k+1))*(cy z z p).h:=by rw[aW 2 (2^(p-(k+1))),aF]
  omega
theorem we {z:Pr}{p:Nat}(h:2*z.h<=2^p):∀k,(cf z p k).h<=2^p
 | 0=>by show z.h<=_;omega
 |k+1=>by
  have ih:=we h k;have hp:=az p;have hs:=yU h
  show cN ((cf z p k).h*(cy z z p).h) (2^p)<=_
  exact kA hp (eI ih (by omega))
theorem vR {z:Pr}{p:Nat}(h:z.l<=z.h):∀k,(cf z p k).l<=(cf z p k).h
 | 0=>h
 |k+1=>tv _ _ _ (vR h k) (tv _ _ _ h h)
theorem Ib {x:Pr}{n:Nat}(hn:0<n):(eU x n).h<=x.h:=by
 show cN x.h n<=x.h
 exact kA hn (ug _ hn)
theorem BE {z:Pr}{p:Nat}(h:2*z.h<=2^p):∀k,k<=p->(cM z p k).h+2^(p-k)<=2*2^p
 | 0,_=>by show z.h+2^(p-0)<=_;rw[Ae];omega
 |k+1,hk=>by
  have ih:=BE h k (by omega);have h1:=yt h (k+1) hk;have h2:=Ib (x:=cf z p (k+1)) (n:=2*k+3) (by omega);have e1:2^(p-k)=2*2^(p-(k+1)):=by rw[show p-k=(p-(k+1))+1 by omega,bH,aW]
  show(cM z p k).h+(eU (cf z p (k+1)) (2*k+3)).h+_<=_
  omega
theorem Ec {z:Pr}{p:Nat}(h:z.l<=z.h):∀k,(cM z p k).l<=(cM z p k).h
 | 0=>h
 |k+1=>Nat.add_le_add (Ec h k) (Bo _ (by omega) (vR h (k+1)))
theorem Gm {z:Pr}{p:Nat}(h:2*z.h<=2^p) (hl:z.l<=z.h) (hn:z.h<=z.l+1):∀k,(cf z p k).h<=(cf z p k).l+6
 | 0=>by show z.h<=z.l+6;omega
 |k+1=>by
  have ih:=Gm h hl hn k;have hs:=yU h;have h2:=we h k;have h3:=vR (p:=p) hl k;have hsq:(cy z z p).h<=(cy z z p).l+1+1:=zc hn hn (by omega);exact zc (a:=6) (b:=2) (c:=5) ih (by omega) (by omega)
theorem Ho {z:Pr}{p:Nat}(h:2*z.h<=2^p) (hl:z.l<=z.h) (hn:z.h<=z.l+1):∀k,(cM z p k).h<=(cM z p k).l+1+3*k
 | 0=>by show z.h<=z.l+1+3*0;omega
 |k+1=>by
  have ih:=Ho h hl hn k;have h1:=IM (n:=2*k+3) (c:=2) (by omega) (Gm h hl hn (k+1)) (by omega)
  show(cM z p k).h+(eU (cf z p (k+1)) (2*k+3)).h<=(cM z p k).l+(eU (cf z p (k+1)) (2*k+3)).l+1+3*(k+1)
  omega
def aZ (num den p k:Nat):Pr:=jN ⟨(cM (qP num den p) p k).l,(cM (qP num den p) p k).h+4⟩ ⟨(cM (qP num den p) p k).l,(cM (qP num den p) p k).h+4⟩
theorem xf {num den p k:Nat}{x:Rat}(hd:0<den) (h:3*num<=den) (hp:4<=p) (hk:k<=p) (hend:(cf (qP num den p) p k).h<=1) (hx:x*(den:Rat)=(num:Rat)):
  Hi (((aZ num den p k).l:Rat)/2^p) ((1+x)/(1-x))/\Lo (((aZ num den p k).h:Rat)/2^p) ((1+x)/(1-x))/\(aZ num den p k).l<=(aZ num den p k).h/\(aZ num den p k).h<=(aZ num den p k).l+(10+6*k)/\(aZ num den p k).h<2^(p+4):=by
 obtain⟨z1,z2,z3⟩:=BF (p:=p) hd h hp;have hb:=TJ (p:=p) hd hx;have hdr:(0:Rat)<(den:Rat):=fo.2 hd
 have hx0:0<=x:=by
  refine fw.1 fun e=>?_
  have :=oe e hdr;have :=df (a:=num);grind
 have hx3:3*x<=1:=by
  refine iw (c:=(den:Rat)) ?_ hdr;have :((3*num:Nat):Rat)<=(den:Rat):=cL.2 h;rw[ft]at this;have e:((3:Nat):Rat)=3:=rfl;rw[e]at this;grind
 unfold aZ;generalize qP num den p=z at *;have q1:=GJ hb hx0 k;have q2:=Cg hb hx0 k;have s2:=BE z1 k hk;have s3:=Ho z1 z2 z3 k;have s4:=Ec (p:=p) z2 k;have hP:=two_pos p;have hpk:=az (p-k);have ea:=M_ x k;have h16:2^4<=2^p:=aG (by decide) hp;refine⟨?_,?_,?_,?_,?_⟩
 .refine uK (Ve hx0 hx3 (k+1)) ?_
  rw[lD hP]
  show(((cM z p k).l+(cM z p k).l:Nat):Rat)<=_
  rw[dW,<-ea];have :=q1.1;generalize pH x k=A at *;generalize ((cM z p k).l:Rat)=L at *;generalize (2:Rat)^p=P at *;grind
 .refine sx (XK hx0 hx3 k) ?_
  rw[eB hP]
  show _<=(((cM z p k).h+4+((cM z p k).h+4):Nat):Rat)
  rw[dW,dW];have g1:=q1.2;have g2:x^(2*k+1)*2^p<=1:=cI q2.2 (cL.2 hend)
  have g3:x^(2*(k+1)+1)<=x^(2*k+1):=by
   rw[KA];have :=fJ (n:=2*k+1) hx0
   have h1:=aN this (show 0<=1-x*x by
    have :=aN (show 0<=1-x by grind) (show 0<=1+x by grind);grind)
   grind
  have g4:=aV g3 (aJ hP);have e4:((4:Nat):Rat)=4:=rfl;rw[e4,<-ea];clear q1 q2 g3 hx;generalize pH x k=A at *;generalize ((cM z p k).h:Rat)=L at *;generalize x^(2*k+1)=X at *;generalize x^(2*(k+1)+1)=Y at *;generalize (2:Rat)^p=P at *;grind
 .show(cM z p k).l+(cM z p k).l<=(cM z p k).h+4+((cM z p k).h+4);omega
 .show(cM z p k).h+4+((cM z p k).h+4)<=(cM z p k).l+(cM z p k).l+(10+6*k);omega
 .show(cM z p k).h+4+((cM z p k).h+4)<_
  rw[aB];omega
theorem JK:∀n:Nat,Hi (n:Rat) (4^n)
 | 0=>by rw[cU];exact vY
 |n+1=>by
  have h1:=tu (JK n) (yx (by decide) F7);rw[dW,bI];exact h1.le (cH (by decide) (fJ (by decide)))
theorem Yd (n:Nat):(4:Rat)^n=2^(2*n):=by rw[<-oh];congr 1
theorem Eh {x:Rat}{n:Nat}(h:x<=(n:Rat)):Hi x (tw ((2*n:Nat):Int)):=by
 rw[bN,<-Yd];exact uK (JK n) h
theorem vj (e:Int):1/tw e=tw (-e):=by
 have h1:=nK (db e);have h2:=mE e;have h3:=db e;generalize tw e=y at *;generalize 1/y=u at *;generalize tw (-e)=v at *;have :(u-v)*y=0:=by grind
 rcases gr.1 this with h|h
 .grind
 .grind
theorem Du {x:Rat}{n:Nat}(h: -(n:Rat)<=x):Lo x (tw (-((2*n:Nat):Int))):=by
 have h1:=sW (Eh (x:= -x) (n:=n) (by grind));rw[vj,wD]at h1;exact h1
theorem kF (e:Int):tw (e-1)*2=tw e:=by
 have :=y_ (e-1);rw[show e-1+1=e by omega]at this;exact this.symm
def dm:Rat:=tw (-((Qs+20000:Nat):Int))
theorem A4:0<dm:=db _
theorem Le {k:Int}(h:k<=((Qs+20000:Nat):Int)):dm<=tw (-k):=dH (by omega)
def wS:Rat:=tw (-((Qs+2:Nat):Int))
theorem zx:4*(2^Qs*wS)<=1:=by
 unfold wS;rw[<-bN,<-fM,show((Qs:Nat):Int)+ -((Qs+2:Nat):Int)= -2 by omega]
 have :tw (-2)=1/4:=by
  unfold tw;rw[ag (by decide)];congr 1
 rw[this];have :(1:Rat)/4*4=1:=bM (by decide);grind
theorem yg:0<wS:=db _
theorem Lw (m:Nat) (e:Int):∃a c:Nat,0<c/\(0<m->0<a)/\(m:Rat)*tw e*(c:Rat)=(a:Rat)/\(c:Rat)=tw (max 0 (-e))/\(a:Rat)=(m:Rat)*tw (max 0 e):=by
 by_cases h:0<=e
 .refine⟨m*2^e.toNat,1,by decide,fun h=>fm h (az _),?_,?_,?_⟩
  .have e1:tw e=2^e.toNat:=by rw[<-bN];congr 1;omega
   rw[ft,c_,e1]
   show _*(1:Rat)=_
   rw[fz]
  .rw[show max 0 (-e)=((0:Nat):Int) by omega,bN,cU];rfl
  .rw[ft,c_,<-bN];congr 2;omega
 .refine⟨m,2^(-e).toNat,az _,fun h=>h,?_,?_,?_⟩
  .rw[c_,<-bN,show(((-e).toNat:Nat):Int)= -e by omega,iu,l7 (tw e),mE,fz]
  .rw[c_,<-bN];congr 1;omega
  .rw[show max 0 e=((0:Nat):Int) by omega,bN,cU,fz]
def iV (x t ε:Rat):Prop:=Lo x (t+ε)\/Hi x (t-ε)
theorem iV.le {x t ε ε':Rat}(h:iV x t ε) (h1:ε'<=ε):iV x t ε':=by
 rcases h with h|h
 .exact Or.inl (h.le (by grind))
 .exact Or.inr (h.le (by grind))
theorem lC:tw 0=1:=by have :=bN 0;rw[cU]at this;exact this
theorem YG {x t δ:Rat}(x0:0<x) (x1:4*x<=δ) (d1:δ<=1) (ht:t<=1\/1+δ<=t):iV x t (x/2):=by
 have hx2:x/2*2=x:=bM (by decide);generalize x/2=y at *;rcases ht with h|h
 .exact Or.inl ((iy x).le (by grind))
 .right
  refine(xD (x:=x) (by grind)).le ?_;rw[lD (by grind)];have :=aN (show 0<=x by grind) (show 0<=1-4*x by grind);have h2:=aV (show 1+3*x<=t-y by grind) (show 0<=1-x by grind);grind
theorem af1 {x t δ:Rat}(x0:0<x) (x1:4*x<=δ) (d1:δ<=1) (ht:1<=t\/t<=1-δ):iV (-x) t (x/4):=by
 have hx2:x/4*4=x:=bM (by decide);generalize x/4=y at *;rcases ht with h|h
 .right
  refine(lf (by grind) (iy x)).le ?_;rw[lD (by grind)];have :=aN (show 0<=x by grind) (show 0<=1-4*x by grind);have h2:=aV (show 1-y<=t-y by grind) (show 0<=1+x by grind)
  have h3:1<=(1-y)*(1+x):=by
   have :=aN (show 0<=y by grind) (show 0<=1-4*x by grind);grind
  grind
 .exact Or.inl ((iy (-x)).le (by grind))
theorem F6 {j:Int}{pl:Nat} :(j:Rat)*tw (-(pl:Int))*2^pl=(j:Rat):=by
 rw[iu,<-bN,mE,fz]
theorem qg {i j:Int}{δ:Rat}(hδ:0<=δ) (h:i<=j):(i:Rat)*δ<=(j:Rat)*δ:=aV (pE.2 h) hδ
theorem UW {m:Nat}{e:Int}{pl:Nat}(hm0:0<m) (hm:m<2^1280) (he: -19000<=e) (hx:(m:Rat)*tw e<=2048) (hpl:pl<=1300) (j:Int):
  iV ((m:Rat)*tw e) ((j:Rat)*tw (-(pl:Int))) dm/\iV (-((m:Rat)*tw e)) ((j:Rat)*tw (-(pl:Int))) dm:=by
 have hm1:(1:Rat)<=(m:Rat):=cL.2 (show 1<=m by omega);have hte:=db e;have hδ:=db (-(pl:Int))
 have x0:tw (-19000)<=(m:Rat)*tw e:=by
  have h1:=aV hm1 (aJ hte);have h2:=dH he;grind
 have xp:0<(m:Rat)*tw e:=by have :=db (-19000);grind
 have d1:tw (-(pl:Int))<=1:=by rw[<-lC];exact dH (by omega)
 have d2:tw (-1300)<=tw (-(pl:Int)):=dH (by omega);have e1:((2^pl:Nat):Rat)*tw (-(pl:Int))=1:=by rw[c_,<-bN,l7,mE]
 have e1':((2^pl:Nat):Int)=((2^pl:Nat):Int):=rfl;have hs1:dm<=tw (-19002):=Le (by rw[show Qs=4398046511104 from rfl];decide)
 have hs2:tw (-19002)<=1/4:=by
  have :=dH (show(-19002:Int)<= -2 by decide);have e2:tw (-2)=1/4:=by unfold tw;rw[ag (by decide)];congr 1
  grind
 have hq4:(1:Rat)/4*4=1:=bM (by decide);have hs0:=A4
 have t19:tw (-19002)*4=tw (-19000):=by
  have a:=kF (-19000);have b:=kF (-19001);rw[show(-19000:Int)-1= -19001 by decide]at a;rw[show(-19001:Int)-1= -19002 by decide]at b;grind
 by_cases hbig:e< -2600
 .have x1:4*((m:Rat)*tw e)<=tw (-(pl:Int)):=by
   have h1:(m:Rat)<=tw ((1280:Nat):Int):=by
    rw[bN,<-c_];exact cL.2 (gn hm)
   have h2:=aV h1 (aJ hte);rw[<-fM]at h2;have h3:=dH (show((1280:Nat):Int)+e<= -1302 by omega);have a:=kF (-1300);have b:=kF (-1301);rw[show(-1300:Int)-1= -1301 by decide]at a;rw[show(-1301:Int)-1= -1302 by decide]at b;grind
  constructor
  .refine(YG xp x1 d1 ?_).le ?_
   .rcases jQ ((2^pl:Nat):Int) j with h|h
    .right
     have :=qg (aJ hδ) (show((2^pl:Nat):Int)+1<=j by omega);rw[wz]at this;have e3:(((2^pl:Nat):Int):Rat)=((2^pl:Nat):Rat):=rfl;have e4:((1:Int):Rat)=1:=rfl;rw[e3,e4,Fv,e1]at this;grind
    .left
     have :=qg (aJ hδ) h;have e3:(((2^pl:Nat):Int):Rat)=((2^pl:Nat):Rat):=rfl;rw[e3,e1]at this;exact this
   .have hh:(m:Rat)*tw e/2*2=(m:Rat)*tw e:=bM (by decide)
    grind
  .refine(af1 xp x1 d1 ?_).le ?_
   .rcases jQ j ((2^pl:Nat):Int) with h|h
    .right
     have :=qg (aJ hδ) (show j+1<=((2^pl:Nat):Int) by omega);rw[wz]at this;have e3:(((2^pl:Nat):Int):Rat)=((2^pl:Nat):Rat):=rfl;have e4:((1:Int):Rat)=1:=rfl;rw[e3,e4,Fv,e1]at this;grind
    .left
     have :=qg (aJ hδ) h;have e3:(((2^pl:Nat):Int):Rat)=((2^pl:Nat):Rat):=rfl;rw[e3,e1]at this;exact this
   .have hh:(m:Rat)*tw e/4*4=(m:Rat)*tw e:=bM (by decide)
    grind
 .obtain⟨a,c,hc,ha,hac,hcv,hav⟩:=Lw m e
  have bc:(c:Rat)<=2^2600:=by rw[hcv,<-bN];exact dH (by omega)
  have bb:(m:Rat)*tw e<=2^11:=by
   have :(2:Rat)^11=2048:=by decide+kernel
   rw[this];exact hx
  have hws:dm<=wS:=dH (by omega)
  have ht0:j<=0->(j:Rat)*tw (-(pl:Int))<=0:=fun h=>by
   have :=qg (aJ hδ) h;have e4:((0:Int):Rat)=0:=rfl;rw[e4,fS]at this;exact this
  have hT:= @F6 j pl;generalize hTT:(j:Rat)*tw (-(pl:Int))=T at *;constructor
  .by_cases hj:j<=0
   .have :=ht0 hj
    exact Or.inl ((iy _).le (by grind))
   .obtain⟨u,hu⟩:∃u:Nat,j=(u:Int):=⟨j.toNat,by omega⟩
    rcases h_ (a:=T) (b:=2^4200) with ht|ht
    .refine(show iV _ _ wS from Ah u (2^pl) a c (az _) hc (by omega) (ha hm0) ?_ hac ht ?_ bc bb (by decide) (show 1300<=5000 by decide) (Nat.le_refl _) (by decide) yg zx).le hws
     .rw[c_,hT,hu];rfl
     .rw[c_];exact qS hpl
    .right
     have h1:=Eh (x:=(m:Rat)*tw e) (n:=2048) (by exact hx);refine h1.le ?_
     have h2:tw ((2*2048:Nat):Int)+1<=2^4200:=by
      rw[bN];have h3:=qS (show 2*2048+1<=4200 by decide);have h4:=one_le_pow (a:=2) (by decide) (2*2048);rw[bI]at h3;grind
     grind
  .by_cases hj:j<=0
   .have :=ht0 hj
    refine Or.inl ((Du (x:= -((m:Rat)*tw e)) (n:=2048) ?_).le ?_)
    .have e5:((2048:Nat):Rat)=2048:=rfl
     rw[e5];grind
    .have h1:=dH (show(-19002:Int)<= -((2*2048:Nat):Int) by decide)
     grind
   .obtain⟨u,hu⟩:∃u:Nat,j=(u:Int):=⟨j.toNat,by omega⟩
    rcases h_ (a:=2) (b:=T) with ht|ht
    .right
     exact(uK vY (by grind)).le (by grind)
    .have hu0:0<u:=by omega
     have hur:(1:Rat)<=(u:Rat):=cL.2 (show 1<=u by omega);have hju:(j:Rat)=(u:Rat):=by rw[hu];rfl
     have hP:=two_pos pl
     have hT0:0<T:=by
      refine kY.1 fun h=>?_
      have :=aV h (aJ hP);grind
     have hα:=nK hT0;have hα0:0<1/T:=by rw[jW hT0];grind
     have hαP:1/T<=2^pl:=by
      rw[lD hT0];grind
     have hα2:1<=2*(1/T):=by
      have :=aV ht (aJ hα0);grind
     have hP1:(2:Rat)^pl<=2^1300:=qS hpl;have hlast:=MJ (w:=wS) (τ:=T) (ε:=dm) (2^pl) u a c hu0 hc (az _) (ha hm0) (α:=1/T) (β:=(m:Rat)*tw e) (h:=1300) (p:=1301) (k:=2600) (b:=11) ?_ hac (cI hαP hP1) ?_ bc bb (by decide) (by decide) (Nat.le_refl _) (by decide) yg zx (by grind) ?_ ?_ hs0 ?_
     .exact hlast
     .rw[c_]
      have :(u:Rat)=T*2^pl:=by grind
      rw[this];generalize (2:Rat)^pl=P at *;grind
     .have h1:(u:Rat)=T*2^pl:=by grind
      have h2:=aV ht (aJ hP);have h3:(2:Rat)^1301=2^1300*2:=bI 2 1300;rw[h3];grind
     ·
      have hsq:(1/T)*(1/T)<=2^2600:=by
       have h3:(2:Rat)^2600=2^1300*2^1300:=by rw[<-pow_add]
       rw[h3];exact k' (cI hαP hP1) (cI hαP hP1) (iE _) (aJ hα0)
      have h5:dm*2^2601<=wS:=by
       unfold dm wS;rw[<-bN,<-fM];exact dH (by omega)
      have h6:(2:Rat)^2601=2^2600*2:=bI 2 2600;rw[h6]at h5;have h7:=cH hsq (aJ hs0);grind
     .have :wS<=1/4:=by
       have :=dH (show -((Qs+2:Nat):Int)<= -2 by omega);have e2:tw (-2)=1/4:=by unfold tw;rw[ag (by decide)];congr 1
       unfold wS;grind
      grind
     .have h5:dm*2^1300<=1:=by
       unfold dm;rw[<-bN,<-fM,<-lC];exact dH (by omega)
      have h7:=cH (cI hαP hP1) (aJ hs0);grind
def PB:Nat:=4398500000000
def ts (x:Rat) (q:Int) (pl:Nat):Prop:=Lo x ((q:Rat)*tw (-(pl:Int)))/\∃h,Hi x h/\h<((q:Rat)+1)*tw (-(pl:Int))
theorem Ui {i j:Int}{δ:Rat}(hδ:0<δ) (h:(i:Rat)*δ<((j:Rat)+1)*δ):i<=j:=by
 refine Int.not_lt.1 fun e=>?_
 have :=qg (aJ hδ) (show j+1<=i by omega);rw[wz]at this;have e4:((1:Int):Rat)=1:=rfl;rw[e4]at this;grind
theorem ts.mono {x x':Rat}{q q':Int}{pl:Nat}(h:ts x q pl) (h':ts x' q' pl) (hx:x<=x'):q<=q':=by
 obtain⟨h1,-⟩:=h;obtain⟨-,z,h2,h3⟩:=h';have :=mn (sx h1 hx) h2;exact Ui (db _) (show(q:Rat)*tw (-(pl:Int))<_ by grind)
theorem KB {k s p:Nat}(hk:k<=p) (hs:s<=27) (hp:PB<=p) (hp1:p<=20000000000000):((2*Ww k s+1:Nat):Rat)<dm*2^p:=by
 have h2s:2^s<=134217728:=aG (show 0<2 by decide) hs;obtain⟨t,ht⟩:∃t:Nat,t=402653211:=⟨_,rfl⟩
 have h1:Ww k s<=2^50*2^t:=by
  unfold Ww;refine eI ?_ (aG (by decide) (by omega));have :(2:Nat)^50=1125899906842624:=by decide
  omega
 rw[<-aB]at h1
 have h3:2*Ww k s+1<2^(50+t+2):=by
  have e2:2^(50+t+2)=4*2^(50+t):=by rw[aB];omega
  have :=az (50+t);omega
 have h4:((2*Ww k s+1:Nat):Rat)<((2^(50+t+2):Nat):Rat):=OD.2 h3
 have h5:((2^(50+t+2):Nat):Rat)<=dm*2^p:=by
  unfold dm;rw[c_,<-bN,<-bN,<-fM];refine dH ?_;have :PB=4398500000000:=rfl;have :Qs=4398046511104:=rfl;omega
 grind
theorem MY {x y:Rat}(h:Hi x y):∀n:Nat,Hi ((n:Rat)*x) (y^n)
 | 0=>by rw[cU,show((0:Nat):Rat)*x=0 from by rw[show((0:Nat):Rat)=0 from rfl,fS]];exact vY
 |n+1=>by
  have :=tu (MY h n) h;rw[bI,show((n+1:Nat):Rat)*x=(n:Rat)*x+x from by rw[dW];show((n:Rat)+1)*x=_;grind];exact this
theorem sN {x y:Rat}(hy:0<=y) (h:Lo x y):∀n:Nat,Lo ((n:Rat)*x) (y^n)
 | 0=>by rw[cU,show((0:Nat):Rat)*x=0 from by rw[show((0:Nat):Rat)=0 from rfl,fS]];exact y9
 |n+1=>by
  have :=pI (fJ hy) hy (sN hy h n) h;rw[bI,show((n+1:Nat):Rat)*x=(n:Rat)*x+x from by rw[dW];show((n:Rat)+1)*x=_;grind];exact this
def ke (a:Rat) (q:Int) (pl:Nat):Prop:=Hi ((q:Rat)*tw (-(pl:Int))) a/\∃t,t<((q:Rat)+1)*tw (-(pl:Int))/\Lo t a
def Lg (a x y:Rat):Prop:=Hi x a/\Lo y a
theorem Lg.pos {a x y:Rat}(h:Lg a x y):0<a:=h.1.pos
theorem Lg.mul {a b x y x' y':Rat}(h:Lg a x y) (h':Lg b x' y'):Lg (a*b) (x+x') (y+y'):=
 ⟨tu h.1 h'.1,pI (aJ h.pos) (aJ h'.pos) h.2 h'.2⟩
theorem Lg.inv {a x y:Rat}(h:Lg a x y):Lg (1/a) (-y) (-x):=⟨lf h.pos h.2,sW h.1⟩
theorem Lg.pow {a x y:Rat}(h:Lg a x y) (n:Nat):Lg (a^n) ((n:Rat)*x) ((n:Rat)*y):=⟨MY h.1 n,sN (aJ h.pos) h.2 n⟩
theorem Cd {num den p k a b:Nat}(hd:0<den) (h:3*num<=den) (hp:4<=p) (hk:k<=p) (hend:(cf (qP num den p) p k).h<=1) (hb:0<b) (e1:den+num=2*a) (e2:den-num=2*b):
  Lg ((a:Rat)/(b:Rat)) (((aZ num den p k).l:Rat)/2^p) (((aZ num den p k).h:Rat)/2^p):=by
 have hdr:(0:Rat)<(den:Rat):=fo.2 hd;have hbr:(0:Rat)<(b:Rat):=fo.2 hb;have hdz:(den:Rat)≠0:=by grind
 have hbz:(b:Rat)≠0:=by grind
 obtain⟨h1,h2,-⟩:=xf (x:=(num:Rat)/(den:Rat)) hd h hp hk hend (by grind)
 have f1:(den:Rat)+(num:Rat)=2*(a:Rat):=by
  have :((den+num:Nat):Rat)=((2*a:Nat):Rat):=by rw[e1]
  rw[dW,ft]at this;exact this
 have f2:(den:Rat)=2*(b:Rat)+(num:Rat):=by
  have :((den:Nat):Rat)=((2*b+num:Nat):Rat):=by congr 1;omega
  rw[dW,ft]at this;exact this
 have e:(1+(num:Rat)/(den:Rat))/(1-(num:Rat)/(den:Rat))=(a:Rat)/(b:Rat):=by
  have g:1-(num:Rat)/(den:Rat)=2*(b:Rat)/(den:Rat):=by grind
  have g2:1+(num:Rat)/(den:Rat)=2*(a:Rat)/(den:Rat):=by grind
  rw[g,g2];grind
 rw[e]at h1 h2;exact⟨h1,h2⟩
theorem VZ {a x y t w ε:Rat}(h:Lg a x y) (hw:y<=x+w) (w1:w<1) (hs:iV t a ε) (hε:a*w<ε*(1-w)) (h1:x<=t) (h2:t<=y):False:=by
 have ha:=h.pos;have w0:0<=w:=by grind
 have wp:0<1-w:=by grind
 have l1:Lo (-w) (1-w):=(iy (-w)).le (by grind);have l2:Lo t (a*(1-w)):=sx (pI (aJ ha) (aJ wp) h.2 l1) (by grind);have u1:Hi w (1/(1-w)):=by have :=lf wp l1;rwa [wD]at this
 have u2:Hi t (a*(1/(1-w))):=uK (tu h.1 u1) (by grind);rcases hs with hs|hs
 .have :=mn hs u2
  have :=aV this (aJ wp)
  have e:a*(1/(1-w))*(1-w)=a:=by
   have :1-w≠0:=by grind
   grind
  rw[e]at this;grind
 .have :=mn l2 hs
  have g:ε*(1-w)<=ε:=by
   have :0<=ε:=by
    refine fw.1 fun e=>?_
    have :=oe e wp;have :=aN (aJ ha) w0;grind
   have :=aN this w0;grind
  grind
theorem Eo:Lo 6 128:=by
 have h1:=sN (x:=1/2) (y:=3/2) (by decide+kernel) ((iy (1/2)).le (by decide+kernel)) 12;have e1:((12:Nat):Rat)*(1/2)=6:=by decide+kernel
 rw[e1]at h1;exact h1.le (by decide+kernel)
theorem K5 {t:Rat}(h:4096<=t):Lo t (tw ((4774:Nat):Int)):=by
 have h1:=sN (x:=6) (y:=128) (by decide+kernel) Eo 682;have e1:((682:Nat):Rat)*6=4092:=by decide+kernel
 have e2:(128:Rat)^682=tw ((4774:Nat):Int):=by
  rw[bN];have :(128:Rat)=2^7:=by decide+kernel
  rw[this,oh]
 rw[e1,e2]at h1;exact sx h1 (by grind)
theorem OS {t:Rat}(h:t<= -4096):Hi t (tw (-((4774:Nat):Int))):=by
 have h1:=lf (db _) (K5 (t:= -t) (by grind));rw[vj,wD]at h1;exact h1
theorem Aj (e:Int):tw e*tw (-e)=1:=by rw[l7,mE]
theorem Q5 {m:Nat}{e:Int}{pl:Nat}(hm0:0<m) (hm:m<2^1280) (he: -3000<=e) (he1:e<=3000) (h1:(m:Rat)*tw e≠1) (hpl:pl<=1300) (j:Int):
  iV ((j:Rat)*tw (-(pl:Int))) ((m:Rat)*tw e) dm:=by
 obtain⟨a,c,hc,ha,hac,hcv,hav⟩:=Lw m e;have ha:=ha hm0;have hm1:(1:Rat)<=(m:Rat):=cL.2 (show 1<=m by omega);have hm2:(m:Rat)<=tw ((1280:Nat):Int):=by rw[bN,<-c_];exact cL.2 (gn hm)
 have hte:=db e;have hcr:(0:Rat)<(c:Rat):=fo.2 hc;have har:(1:Rat)<=(a:Rat):=cL.2 (show 1<=a by omega)
 have A0:tw (-3000)<=(m:Rat)*tw e:=by
  have h1:=aV hm1 (aJ hte);have h2:=dH he;grind
 have A1:(m:Rat)*tw e<=tw ((4280:Nat):Int):=by
  have h1:=aV hm2 (aJ hte);rw[<-fM]at h1;exact cI h1 (dH (by omega))
 have c1:(c:Rat)<=tw ((3000:Nat):Int):=by rw[hcv];exact dH (by omega)
 have a1:(a:Rat)<=tw ((4280:Nat):Int):=by
  rw[hav];have h1:=aV hm2 (aJ (db (max 0 e)));rw[<-fM]at h1;exact cI h1 (dH (by omega))
 have hs0:=A4;have hQs:Qs=4398046511104:=rfl;have hs1:dm<=tw (-3001):=Le (k:=3001) (by omega);have t3:=kF (-3000);rw[show(-3000:Int)-1= -3001 by decide]at t3;generalize hA:(m:Rat)*tw e=A at *;have hAp:0<A:=by have :=db (-3000);grind
 rcases h_ (a:=4096) (b:=(j:Rat)*tw (-(pl:Int))) with hb|hb
 .left
  refine(K5 hb).le ?_
  have h2:tw ((4280:Nat):Int)+1<=tw ((4774:Nat):Int):=by
   rw[bN,bN];have h3:=qS (show 4280+1<=4774 by decide);have h4:=one_le_pow (a:=2) (by decide) 4280;rw[bI]at h3;grind
  have h3:tw (-3001)<=1:=by rw[<-lC];exact dH (by omega)
  grind
 rcases h_ (a:=(j:Rat)*tw (-(pl:Int))) (b:= -4096) with hb2|hb2
 .right
  refine(OS hb2).le ?_;have h2:tw (-((4774:Nat):Int))<=tw (-3001):=dH (by omega);grind
 have hδ:=db (-(pl:Int));have hT:= @F6 j pl;have hws:dm<=wS:=dH (by omega);have k1:pl<=2600:=by omega
 rcases Ox j 0 with hj|hj|hj
 .obtain⟨u,hu⟩:∃u:Nat,j= -(u:Int):=⟨(-j).toNat,by omega⟩
  have hu0:0<u:=by omega
  have hju:(j:Rat)= -(u:Rat):=by rw[hu,Af];rfl
  have hβ:(u:Rat)*tw (-(pl:Int))*((2^pl:Nat):Rat)=(u:Rat):=by
   rw[c_,iu,<-bN,mE,fz]
  have eT:(j:Rat)*tw (-(pl:Int))= -((u:Rat)*tw (-(pl:Int))):=by rw[hju,Fw]
  rw[eT]at hb2 ⊢;have hα:=nK hAp
  have i1:1/A<=tw ((3000:Nat):Int):=by
   rw[lD hAp];have h2:=cH A0 (aJ (db ((3000:Nat):Int)));have h3:=Aj ((3000:Nat):Int);rw[show(-((3000:Nat):Int))= -3000 by omega]at h3;grind
  have i0:tw (-((4280:Nat):Int))<=1/A:=by
   rw[eB hAp];have h2:=cH A1 (aJ (db (-((4280:Nat):Int))));have h3:=mE ((4280:Nat):Int);grind
  have ip:0<1/A:=by have :=db (-((4280:Nat):Int));grind
  refine MJ (w:=wS) (τ:=A) (ε:=dm) (α:=1/A) (β:=(u:Rat)*tw (-(pl:Int))) c a u (2^pl) ha (az _) hc hu0 ?_ hβ (h:=3000) (p:=4280) (k:=pl) (b:=12) ?_ ?_ ?_ ?_ (by decide) (by decide) k1 (by decide) yg zx (by grind) ?_ ?_ hs0 ?_
  .rw[<-hac];grind
  .rw[<-bN];exact i1
  .rw[<-bN];exact a1
  .rw[c_];exact dX
  .have :(2:Rat)^12=4096:=by decide+kernel
   rw[this];grind
  .have hsq:(1/A)*(1/A)<=tw ((6000:Nat):Int):=by
    have h3:tw ((6000:Nat):Int)=tw ((3000:Nat):Int)*tw ((3000:Nat):Int):=by rw[<-fM];congr 1
    rw[h3];exact k' i1 i1 (aJ (db _)) (aJ ip)
   have h5:dm*tw ((6001:Nat):Int)<=wS:=by
    unfold dm wS;rw[<-fM];exact dH (by omega)
   have h6:=y_ ((6000:Nat):Int);rw[show((6000:Nat):Int)+1=((6001:Nat):Int) by omega]at h6;rw[h6]at h5;have h7:=cH hsq (aJ hs0);grind
  .have :wS<=tw (-((4280:Nat):Int)):=by unfold wS;exact dH (by omega)
   grind
  .have h5:dm*tw ((3000:Nat):Int)<=1:=by
    unfold dm;rw[<-fM,<-lC];exact dH (by omega)
   have h7:=cH i1 (aJ hs0);grind
 .subst hj
  have e0:((0:Int):Rat)*tw (-(pl:Int))=0:=by
   have :((0:Int):Rat)=0:=rfl;rw[this,fS]
  rw[e0]
  have hsc:dm*(c:Rat)<=1:=by
   have h2:=cH c1 (aJ hs0)
   have h5:dm*tw ((3000:Nat):Int)<=1:=by
    unfold dm;rw[<-fM,<-lC];exact dH (by omega)
   grind
  rcases ju a c with h|h|h
  .left
   refine y9.le ?_;refine iw (c:=(c:Rat)) ?_ hcr;have h2:((a+1:Nat):Rat)<=(c:Rat):=cL.2 (by omega);rw[dW]at h2;have e4:((1:Nat):Rat)=1:=rfl;rw[e4]at h2;grind
  .exfalso
   apply h1;have h2:A*(c:Rat)=(c:Rat):=by rw[hac,h]
   have h3:(A-1)*(c:Rat)=0:=by grind
   rcases gr.1 h3 with h|h <;> grind
  .right
   refine vY.le ?_;refine iw (c:=(c:Rat)) ?_ hcr;have h2:((c+1:Nat):Rat)<=(a:Rat):=cL.2 (by omega);rw[dW]at h2;have e4:((1:Nat):Rat)=1:=rfl;rw[e4]at h2;grind
 .obtain⟨u,hu⟩:∃u:Nat,j=(u:Int):=⟨j.toNat,by omega⟩
  have hu0:0<u:=by omega
  have hju:(j:Rat)=(u:Rat):=by rw[hu];rfl
  have hβ:(u:Rat)*tw (-(pl:Int))*((2^pl:Nat):Rat)=(u:Rat):=by
   rw[c_,iu,<-bN,mE,fz]
  rw[hju]at hb ⊢;refine(show iV _ _ wS from Ah a c u (2^pl) hc (az _) ha hu0 hac hβ (h:=4280) (p:=3000) (k:=pl) (b:=12) ?_ ?_ ?_ ?_ (by decide) (by decide) k1 (by decide) yg zx).le hws
  .rw[<-bN];exact A1
  .rw[<-bN];exact c1
  .rw[c_];exact dX
  .have :(2:Rat)^12=4096:=by decide+kernel
   rw[this];exact hb
theorem Sj {a x y t w:Rat}(h:Lg a x y) (hw:y<=x+w) (hw1:w<=tw (-((Qs+24400:Nat):Int))) (w0:0<=w) (ha:a<=tw ((4280:Nat):Int)) (hs:iV t a dm) (h1:x<=t) (h2:t<=y):False:=by
 have hQs:Qs=4398046511104:=rfl;have hap:=h.pos;have w1:w<=tw (-2):=cI hw1 (dH (by omega))
 have e2:tw (-2)*4=1:=by
  have a:=kF 0;have b:=kF (-1);rw[show(0:Int)-1= -1 by decide,lC]at a;rw[show(-1:Int)-1= -2 by decide]at b;grind
 have hs0:=A4;refine VZ h hw (by grind) hs ?_ h1 h2;have g1:a*w<=tw ((4280:Nat):Int)*tw (-((Qs+24400:Nat):Int)):=k' ha hw1 (aJ (db _)) w0;rw[<-fM]at g1;have g2:tw (((4280:Nat):Int)+ -((Qs+24400:Nat):Int))<=tw (-((Qs+20000:Nat):Int)-1):=dH (by omega);have g3:=kF (-((Qs+20000:Nat):Int));have g4:tw (-((Qs+20000:Nat):Int))=dm:=rfl;rw[g4]at g3
 have g5:dm*w*4<=dm:=by
  have :=cH (show w*4<=1 by grind) (aJ hs0);grind
 have g6:a*w*2<=dm:=by grind
 grind
