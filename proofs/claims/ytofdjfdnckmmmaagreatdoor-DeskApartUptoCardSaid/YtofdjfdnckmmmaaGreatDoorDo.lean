import Derived.Test.YtofdjfdnckmmmaaGreatDoorDk
import Derived.Lib.Replace
import Derived.Lib.SlTrimSet
set_option linter.all false
open Go.Lib (decDigits indexByte)
namespace Go.Proofs.YtofdjfdnckmmmaaGreatDoor
open Nt Fm Fl
theorem BA (d:D) (a:Int) (k:Nat):dN d (a+k)*dD d a=dN d a*10^k*dD d (a+k):=by
 unfold dN dD
 have h:10^(a+k).toNat*10^(-a).toNat=10^a.toNat*10^k*10^(-(a+k)).toNat:=by
  rw[<-aB,<-aB,<-aB];congr 1;omega
 have e1:d.m*10^(a+k).toNat*2^d.e.toNat*(10^(-a).toNat*2^(-d.e).toNat)=(10^(a+k).toNat*10^(-a).toNat)*(d.m*2^d.e.toNat*2^(-d.e).toNat):=by
  simp only[aF,aW,fQ]
 have e2:d.m*10^a.toNat*2^d.e.toNat*10^k*(10^(-(a+k)).toNat*2^(-d.e).toNat)=(10^a.toNat*10^k*10^(-(a+k)).toNat)*(d.m*2^d.e.toNat*2^(-d.e).toNat):=by
  simp only[aF,aW,fQ]
 rw[e1,e2,h]
def ke (d:D) (p:Int):Prop:=dD d (-p)<=dN d (-p)/\dN d (-(p+1))<dD d (-(p+1))
theorem Kx {d:D}{p:Int}(h:ke d p) (k:Nat):10^k*dD d (-p+k)<=dN d (-p+k):=by
 have h1:=BA d (-p) k;have h2:=bR (10^k*dD d (-p+k)) h.1;rw[<-aF (dN d (-p)),<-h1,aW (dD d (-p))]at h2;exact jS h2 (qb d _)
theorem I4 {d:D}{p:Int}(h:ke d p) (k:Nat):dN d (-(p+1)+k)<10^k*dD d (-(p+1)+k):=by
 have h1:=BA d (-(p+1)) k;have h2:=cS h.2 (fm (fN (show 0<10 by omega) (n:=k)) (qb d (-(p+1)+k)));rw[<-aF (dN d (-(p+1))),<-h1,aW (dD d (-(p+1)))]at h2;exact mR h2
theorem FI {d:D}{p:Int}(h:ke d p) (g:Nat) (hg:1<=g) (mode:Int):10^(g-1)<=dQ d ((g:Int)-1-p) mode/\dQ d ((g:Int)-1-p) mode<=10^g:=by
 have h1:=Kx h (g-1);have h2:=I4 h g;rw[show -p+((g-1:Nat):Int)=(g:Int)-1-p by omega]at h1;rw[show -(p+1)+(g:Int)=(g:Int)-1-p by omega]at h2;have hp:=qb d ((g:Int)-1-p);unfold dQ;constructor
 .exact ct ((qF hp).2 h1) (Ym _ _ _ _)
 .exact ct (Nl _ _ _ _) ((lU hp).2 h2)
def oL (q g:Nat):List UInt8:=if(decDigits q).length>g then(decDigits q).take g else decDigits q
theorem Jt:∀(k q:Nat),10^k<=q->k+1<=(decDigits q).length
 | 0,q,_=>uT q
 |k+1,q,h=>by
  have h10:0<10^k:=fN (by omega);rw[bH]at h;rw[oC (by omega),ck,EH];have :=Jt k (q/10) (by rw[qF (by omega)];exact h);omega
theorem Dl:∀u,0<u->∃c l,decDigits u=c::l/\c≠48:=by
 intro u
 induction u using Nat.strongRecOn with
 |_ u ih=>
  intro hu;by_cases h:u<10
  .rw[m_ h]
   refine⟨_,_,rfl,?_⟩;intro e;have :=congrArg UInt8.toNat e;simp [Fa]at this;omega
  .obtain⟨c,l,h1,h2⟩:=ih (u/10) (by omega) (by omega)
   rw[oC h,h1];exact⟨c,l++_,rfl,h2⟩
theorem WY {q g:Nat}(hg:1<=g) (h1:10^(g-1)<=q) (h2:q<=10^g):(oL q g).length=g/\(∀c∈oL q g,cF c)/\∃c l,oL q g=c::l/\c≠48:=by
 have hl:=Jt (g-1) q h1;have hq:0<q:=aX (fN (by omega)) h1;obtain⟨c,l,e1,e2⟩:=Dl q hq;unfold oL;split
 .rename_i h
  refine⟨by rw[dj];omega,fun c hc=>oW q c (kU hc),c,l.take (g-1),?_,e2⟩;rw[e1];obtain⟨g',rfl⟩:∃g',g=g'+1:=⟨g-1,by omega⟩;rfl
 .exact⟨by omega,oW q,c,l,e1,e2⟩
def fh (p:Int):List UInt8:=(if p<0 then 45 else 43)::((if p.natAbs<10 then [48] else [])++decDigits p.natAbs)
theorem AU {s:List UInt8}{g:Nat}(hg:1<=g) (h:s.length=g):pt s (g-1)=if g=1 then s else s.take 1++46::s.drop 1:=by
 unfold pt;by_cases h1:g=1
 .rw[aj (by omega),aj h1]
 .rw[ag (by omega),ag h1,show g-1+1-s.length=0 by omega,Ok,ku,show s.length-(g-1)=1 by omega]
theorem Iq {c:UInt8} :∀(a b:List UInt8),c ∉ a->indexByte (a++c::b) c=a.length
 | [],b,_=>by simp [indexByte]
 |x::a,b,h=>by
  have hx:(x==c)=false:=by rw[aH];intro e;subst e;simp at h
  have ih:=Iq a b (by intro hc;exact h (n8 _ hc));rw[i',indexByte,ih,hx];have :(((a.length:Nat):Int)== -1)=false:=by rw[aH];omega
  rw[this];simp
theorem Gs {c:UInt8} :∀(a:List UInt8),c ∉ a->indexByte a c= -1
 | [],_=>rfl
 |x::a,h=>by
  have hx:(x==c)=false:=by rw[aH];intro e;subst e;simp at h
  have ih:=Gs a (by intro hc;exact h (n8 _ hc));rw[indexByte,ih,hx];rfl
theorem Xk {c:UInt8}(h:cF c):c≠46/\c≠101/\c≠45:=by
 unfold cF at h;refine⟨?_,?_,?_⟩ <;> (intro e;subst e;revert h;decide)
