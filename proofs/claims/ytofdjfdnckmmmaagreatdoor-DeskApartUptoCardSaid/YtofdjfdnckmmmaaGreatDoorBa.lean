import Derived.Test.YtofdjfdnckmmmaaGreatDoorAx
import Derived.Lib.Hide
import Derived.Test.YtofdjfdnckmmmaaGreatDoorChecked
import Derived.WalkLawsBesides
import Derived.WalkSpells
import Derived.Handy
set_option linter.all false
open Go.Proofs.Tryz
namespace Go.Proofs.YtofdjfdnckmmmaaGreatDoor
theorem le0 {n:Nat} :n<=n:=ae n
theorem br0 {n:Nat}{w:Go.World} :Go.RowKit.Below n w w:=Go.RowKit.Below.refl n w
end Go.Proofs.YtofdjfdnckmmmaaGreatDoor
namespace Go.Proofs.YtofdjfdnckmmmaaGreatDoor.Nt
def val:List Nat->Nat
 | []=> 0
 |d::l=>d+4294967296*val l
def aI (l:List Nat):Prop:= ∀d∈l,d<4294967296
def dA (l:List Nat):Prop:=aI l/\l.getLast?≠some 0
theorem p32:(4294967296:Nat)=2^32:=by decide
theorem kQ (n:Nat):2^(32*(n+1))=4294967296*2^(32*n):=by
 rw[p32,<-aB];congr 1;omega
theorem rn (l m:List Nat):val (l++m)=val l+2^(32*l.length)*val m:=by
 induction l with
 |nil=>simp [val]
 |cons d l ih=>
  simp only[i',val,ih,ez];rw[kQ,cP,aF];omega
theorem aI.nil:aI []:=fun _ h=>by cases h
theorem aI.cons {d:Nat}{l:List Nat}(hd:d<4294967296) (h:aI l):aI (d::l):=by
 intro x hx;cases hx with
 |head=>exact hd
 |tail _ hx=>exact h x hx
theorem aI.head {d:Nat}{l:List Nat}(h:aI (d::l)):d<4294967296:=h d (by simp)
theorem aI.tail {d:Nat}{l:List Nat}(h:aI (d::l)):aI l:=fun x hx=>h x (by simp [hx])
theorem aI.append {l m:List Nat}(h:aI l) (k:aI m):aI (l++m):=by
 intro x hx;rcases gF.1 hx with hx|hx
 .exact h x hx
 .exact k x hx
theorem aI.snoc {l:List Nat}{d:Nat}(h:aI l) (hd:d<4294967296):aI (l++[d]):=h.append (aI.cons hd aI.nil)
theorem aI.take {l:List Nat}(h:aI l) (k:Nat):aI (l.take k):=fun x hx=>h x (kU hx)
theorem aI.drop {l:List Nat}(h:aI l) (k:Nat):aI (l.drop k):=fun x hx=>h x (zF hx)
theorem aI.get {l:List Nat}(h:aI l) (i:Nat) (hi:i<l.length):l[i]<4294967296:=h _ (zG hi)
theorem aI.getD {l:List Nat}(h:aI l) (i:Nat):l[i]?.getD 0<4294967296:=by
 by_cases hi:i<l.length
 .simp [hi];exact h.get i hi
 .simp [kV (mP hi)]
theorem fV {l:List Nat}(h:aI l):val l<2^(32*l.length):=by
 induction l with
 |nil=>simp [val]
 |cons d l ih=>
  have :=ih h.tail;have hd:=h.head;simp only[val,ez,kQ];omega
theorem nh (l:List Nat) (d:Nat):val (l++[d])=val l+2^(32*l.length)*d:=by
 rw[rn];simp [val]
theorem iX (l:List Nat) (k:Nat) (h:k<l.length):val (l.take (k+1))=val (l.take k)+2^(32*k)*l[k]:=by
 rw[pA h,nh,dj,i_ (gn h)]
theorem pj (l:List Nat) (k:Nat) (h:k<=l.length):val l=val (l.take k)+2^(32*k)*val (l.drop k):=by
 have h2:=rn (l.take k) (l.drop k);rw[nX,dj,i_ h]at h2;exact h2
theorem qU (l:List Nat) (k:Nat) (h:k<l.length):val (l.drop k)=l[k]+4294967296*val (l.drop (k+1)):=by
 rw[t_ h];rfl
theorem dA.nil:dA []:=⟨aI.nil,by simp⟩
theorem dA.ge {l:List Nat}(h:dA l) (n:Nat) (hn:l.length=n+1):2^(32*n)<=val l:=by
 have hlt:n<l.length:=by omega
 have h1:=iX l n hlt;rw[dI (by omega)]at h1
 have h2:l[n]≠0:=by
  intro h0;apply h.2;rw[EJ,show l.length-1=n by omega,fO hlt,h0]
 have h3:2^(32*n)*1<=2^(32*n)*l[n]:=cZ _ (by omega);omega
theorem dA.len {l:List Nat}(h:dA l) {k:Nat}(hk:val l<2^k):32*l.length<k+32:=by
 rcases fl l.length with h0|h0
 .omega
 .obtain⟨n,hn⟩:∃n,l.length=n+1:=⟨l.length-1,by omega⟩
  have h1:=h.ge n hn;have h2:2^(32*n)<2^k:=de h1 hk;have h3:=(lW (by decide:1<2)).1 h2;omega
theorem val_eq_zero {l:List Nat}(h:dA l) (h0:val l=0):l=[]:=by
 rcases fl l.length with h1|h1
 .exact gp.1 h1
 .have :=h.ge (l.length-1) (by omega)
  have :=az (32*(l.length-1));omega
theorem Fz {a b:List Nat}(ha:aI a) (hl:a.length=b.length) (i:Nat) (hi:i<a.length)
  (hd:a.drop (i+1)=b.drop (i+1)) (h:a[i]<b[i]'(by omega)):val a<val b:=by
 have h1:=pj a i (by omega);have h2:=pj b i (by omega);have h3:=qU a i hi;have h4:=qU b i (by omega);rw[hd]at h3;have h5:=fV (ha.take i);rw[dj,i_ (by omega)]at h5;have h6:2^(32*i)*(val (a.drop i)+1)<=2^(32*i)*val (b.drop i):=cZ _ (by omega);rw[cP]at h6;omega
theorem yN {a b:List Nat}(ha:dA a) (hb:dA b) (h:a.length<b.length):val a<val b:=by
 have h1:=fV ha.1;have h2:=hb.ge (b.length-1) (by omega);have h3:2^(32*a.length)<=2^(32*(b.length-1)):=aG (by decide) (by omega);omega
end Go.Proofs.YtofdjfdnckmmmaaGreatDoor.Nt
namespace Go.Proofs.YtofdjfdnckmmmaaGreatDoor
open Go.RowKit Nt
def Lim (w:World) (v:Value) (l:List Nat):Prop:=
 aI l/\∃(ao:Option Addr) (cap:Nat),v=.slice ao l.length cap/\l.length<=cap/\cap<=maxLen/\
  (l.length<=0\/∃b off,ao=some ⟨b,off,none⟩/\b<w.heap.size/\∀i,i<l.length->w.cell? ⟨b,off+i,none⟩=some (.int .u32 ((l.getD i 0:Nat):Int)))
def NV (w:World) (v:Value) (n:Nat):Prop:= ∃l,dA l/\val l=n/\Lim w v l
def kn (w:World) (n:Nat) (e:Ending) (w':World):Prop:= ∃v,e=.returned v/\NV w' v n/\Below w.heap.size w w'
theorem Lim.below {w w':World}{v:Value}{l:List Nat}(h:Lim w v l) (hb:Below w.heap.size w w'):Lim w' v l:=by
 obtain⟨h1,ao,cap,h2,h3,h4,h5⟩:=h;refine⟨h1,ao,cap,h2,h3,h4,?_⟩;rcases h5 with h5|⟨b,off,h5,h6,h7⟩
 .exact Or.inl h5
 .exact Or.inr ⟨b,off,h5,aX h6 hb.size,fun i hi=>(hb.cell (p:=⟨b,off+i,none⟩) h6).trans (h7 i hi)⟩
theorem NV.below {w w':World}{v:Value}{n:Nat}(h:NV w v n) (hb:Below w.heap.size w w'):NV w' v n:=by
 obtain⟨l,h1,h2,h3⟩:=h;exact⟨l,h1,h2,h3.below hb⟩
theorem Lim.alloc {w:World}{v:Value}{l:List Nat}(h:Lim w v l) (o:Obj):Lim (w.alloc o) v l:=h.below ((Below.refl _ _).alloc (Nat.le_refl _) o)
theorem NV.alloc {w:World}{v:Value}{n:Nat}(h:NV w v n) (o:Obj):NV (w.alloc o) v n:=h.below ((Below.refl _ _).alloc (Nat.le_refl _) o)
theorem NV.drew {w:World}{v:Value}{n:Nat}(h:NV w v n):NV w.drew v n:=h.below (Below.refl _ _).drew
theorem y8 {B n:Nat}{w w':World}(h:Below B (w.drewN n) w'):Below B w w':=⟨h.os,h.tape,h.output,h.size,h.block⟩
theorem dh {B n:Nat}{w w':World}(h:Below B w w'):Below B w (w'.drewN n):=⟨h.os,h.tape,h.output,h.size,h.block⟩
theorem NV.drewN {w:World}{v:Value}{n:Nat}(h:NV w v n) (k:Nat):NV (w.drewN k) v n:=h.below (dh (Below.refl _ _))
theorem NV.len {w:World}{v:Value}{n k:Nat}(h:NV w v n) (hk:n<2^k):∃l,dA l/\val l=n/\Lim w v l/\32*l.length<k+32:=by
 obtain⟨l,h1,h2,h3⟩:=h;exact⟨l,h1,h2,h3,h1.len (by rw[h2];exact hk)⟩
theorem NV.nil (w:World):NV w (.slice none 0 0) 0:=⟨[],dA.nil,rfl,aI.nil,none,0,rfl,d_ _,d_ _,Or.inl (by simp)⟩
theorem NV.inj {w:World}{v:Value}{n m:Nat}(h:NV w v n) (k:NV w v m):n=m:=by
 obtain⟨l,h1,h2,h3,ao,cap,h4,h5,h6,h7⟩:=h;obtain⟨l',k1,k2,k3,ao',cap',k4,k5,k6,k7⟩:=k;rw[h4]at k4;simp only[Value.slice.injEq]at k4;obtain⟨e1,e2,e3⟩:=k4
 have e:l=l':=by
  rcases h7 with h7|⟨b,off,h7,_,h8⟩
  .rw[gp.1 (by omega:l.length=0),gp.1 (by omega:l'.length=0)]
  .rcases k7 with k7|⟨b',off',k7,_,k8⟩
   .rw[gp.1 (by omega:l.length=0),gp.1 (by omega:l'.length=0)]
   .apply List.ext_getElem e2
    intro i i1 i2;have a:=h8 i i1;have b2:=k8 i i2;rw[h7]at e1;rw[k7]at e1;simp only[rY,Addr.mk.injEq]at e1;rw[e1.1,e1.2.1,b2]at a;simp only[List.getD,fO i1,fO i2,N_,rY,Value.int.injEq,true_and]at a;omega
 rw[<-h2,<-k2,e]
theorem JZ {w:World}{base:Nat}{e:TypeId}{v:Value}{n:Nat}{l:List Nat}(h:w.ownsRow base e 1 v n (l.map fun d=>Value.int .u32 ((d:Nat):Int))) (hl:aI l):Lim w v l:=by
 have hn:l.length=n:=by have :=h.1;simpa using this
 refine⟨hl,?_⟩;rcases h.2 with⟨rfl,h0⟩|⟨g,cap,cur,rfl,hb,hg,h1,h2,h3,h4⟩
 .exact⟨none,0,by rw[hn,h0],by omega,d_ _,Or.inl (by omega)⟩
 .refine⟨some ⟨g,0,none⟩,cap,by rw[hn],by omega,h2,Or.inr ⟨g,0,rfl,(mQ.1 hg).1,?_⟩⟩
  intro i hi;have :=h.cells (g:=g) (by simp [Value.ownBlock]) i (Value.int .u32 ((l.getD i 0:Nat):Int)) (by simp [List.getD,hi]);rw[show(⟨g,0,none⟩:Addr).add i=⟨g,0+i,none⟩ from by unfold Addr.add;split <;> simp_all]at this;exact this
theorem NV.shape {w:World}{v:Value}{n:Nat}(h:NV w v n):∃(ao:Option Addr) (k c:Nat),v=.slice ao k c:=by
 obtain⟨l,_,_,_,ao,c,h,_⟩:=h;exact⟨ao,_,c,h⟩
theorem L8 {W w1:World}(hb:Below W.heap.size W w1):(∀b o,b<W.heap.size->w1.cell? ⟨b,o,none⟩=W.cell? ⟨b,o,none⟩)/\(∀b o,b<W.heap.size->w1.frozen? ⟨b,o,none⟩=W.frozen? ⟨b,o,none⟩):=
 ⟨fun b o h=>hb.cell (p:=⟨b,o,none⟩) h,fun b o h=>hb.frozen (p:=⟨b,o,none⟩) h⟩
theorem Lim.nrm {w:World}{v:Value}{l:List Nat}(h:Lim w v l) (hn:dA l):NV w v (val l):=⟨l,hn,rfl,h⟩
open Go.RowKit
def aK (a b:Int):Int:=if a<b then -1 else if b<a then 1 else 0
theorem MU (a b:Int) (w:World):
  Calls prog 137 #[.int .i64 a,.int .i64 b] w fun e w'=>e=.returned (.int .i64 (aK a b))/\w'=w:=by
 by_cases h1:a<b
 .have e:aK a b= -1:=by unfold aK;omega
  rw[e];clear e;go_enter func137,ntmps137;go_wp2;go_ret;exact⟨rfl,rfl⟩
 .by_cases h2:b<a
  .have e:aK a b=1:=by unfold aK;omega
   rw[e];clear e;go_enter func137,ntmps137;go_wp2;go_ret;exact⟨rfl,rfl⟩
  .have e:aK a b=0:=by unfold aK;omega
   rw[e];clear e;go_enter func137,ntmps137;go_wp2;go_ret;exact⟨rfl,rfl⟩
theorem ad3 (a b:Int) (w:World):
  Calls prog 138 #[.int .u32 a,.int .u32 b] w fun e w'=>e=.returned (.int .i64 (aK a b))/\w'=w:=by
 by_cases h1:a<b
 .have e:aK a b= -1:=by unfold aK;omega
  rw[e];clear e;go_enter func138,ntmps138;go_wp2;go_ret;exact⟨rfl,rfl⟩
 .by_cases h2:b<a
  .have e:aK a b=1:=by unfold aK;omega
   rw[e];clear e;go_enter func138,ntmps138;go_wp2;go_ret;exact⟨rfl,rfl⟩
  .have e:aK a b=0:=by unfold aK;omega
   rw[e];clear e;go_enter func138,ntmps138;go_wp2;go_ret;exact⟨rfl,rfl⟩
theorem Qb (a b:Int) (w:World):
  Calls prog 247 #[.int .u64 a,.int .u64 b] w fun e w'=>e=.returned (.int .i64 (aK a b))/\w'=w:=by
 by_cases h1:a<b
 .have e:aK a b= -1:=by unfold aK;omega
  rw[e];clear e;go_enter func247,ntmps247;go_wp2;go_ret;exact⟨rfl,rfl⟩
 .by_cases h2:b<a
  .have e:aK a b=1:=by unfold aK;omega
   rw[e];clear e;go_enter func247,ntmps247;go_wp2;go_ret;exact⟨rfl,rfl⟩
  .have e:aK a b=0:=by unfold aK;omega
   rw[e];clear e;go_enter func247,ntmps247;go_wp2;go_ret;exact⟨rfl,rfl⟩
end Go.Proofs.YtofdjfdnckmmmaaGreatDoor
namespace Go.Proofs.YtofdjfdnckmmmaaGreatDoor.Fm
def aw (r:Nat):Nat:=if r<4503599627370496 then r else(4503599627370496+r%4503599627370496)*2^(r/4503599627370496-1)
def jK (r:Nat):Nat:=2^(r/4503599627370496-1)
theorem nT (q j:Nat) (h1:4503599627370496<=q\/j=0) (h2:q<=9007199254740992):aw (q+j*4503599627370496)=q*2^j:=by
 unfold aw;by_cases hq:q<4503599627370496
 .have hj:j=0:=by omega
  subst hj;simp [hq]
 .rw[ag (by omega)]
  by_cases hq2:q=9007199254740992
  .subst hq2
   rw[show(9007199254740992+j*4503599627370496)%4503599627370496=0 by omega,show(9007199254740992+j*4503599627370496)/4503599627370496-1=j+1 by omega,bH];omega
  .rw[show(q+j*4503599627370496)%4503599627370496=q-4503599627370496 by omega,show(q+j*4503599627370496)/4503599627370496-1=j by omega,show 4503599627370496+(q-4503599627370496)=q by omega]
theorem sC (r:Nat):aw (r+1)=aw r+jK r:=by
 by_cases h:r<4503599627370496
 .have h1:jK r=1:=by unfold jK;rw[show r/4503599627370496-1=0 by omega]
  rw[h1];have h2:=nT r 0 (by omega) (by omega);have h3:=nT (r+1) 0 (by omega) (by omega);simp at h2 h3;omega
 .obtain⟨j,q,hq1,hq2,hr⟩:∃j q,4503599627370496<=q/\q<9007199254740992/\r=q+j*4503599627370496:=
   ⟨r/4503599627370496-1,r%4503599627370496+4503599627370496,by omega,by omega,by omega⟩
  subst hr;have h2:=nT q j (by omega) (by omega);have h3:=nT (q+1) j (by omega) (by omega);rw[show q+j*4503599627370496+1=q+1+j*4503599627370496 by omega,h3,h2];unfold jK;rw[show(q+j*4503599627370496)/4503599627370496-1=j by omega,a_];omega
theorem Cu (r:Nat):0<jK r:=az _
theorem Hy (r:Nat):aw r<aw (r+1):=by have :=sC r;have :=Cu r;omega
theorem k_ {r s:Nat}(h:r<=s):aw r<=aw s:=by
 induction s with
 |zero=>rw[show r=0 by omega];exact ae _
 |succ s ih=>
  by_cases h1:r=s+1
  .rw[h1];exact ae _
  .have :=ih (by omega);have :=Hy s;omega
theorem nN {r s:Nat}(h:r<s):aw r<aw s:=aX (Hy r) (k_ h)
theorem Nx {r s:Nat} :aw r<aw s↔r<s:=⟨fun h=>by
 rcases eJ r s with h1|h1
 .exact h1
 .have :=k_ h1;omega,nN⟩
theorem x9 {r s:Nat} :aw r<=aw s↔r<=s:=⟨fun h=>by
 rcases eJ s r with h1|h1
 .have :=nN h1;omega
 .exact h1,k_⟩
theorem BG {r s:Nat}(h:aw r=aw s):r=s:=by
 have h1:=x9.1 (zJ h);have h2:=x9.1 (zJ h.symm);omega
theorem kv:aw 0=0:=by simp [aw]
def bl (m:Nat):Nat:=if m=0 then 0 else m.log2+1
theorem qo (m:Nat):m<2^bl m:=by
 unfold bl;split
 .subst_vars;simp
 .exact EP
theorem oZ {m:Nat}(h:m≠0):2^(bl m-1)<=m:=by
 unfold bl;rw[ag h];exact Oa h
theorem nP {m:Nat}(h:m≠0):0<bl m:=by unfold bl;rw[ag h];omega
theorem Qv {m k:Nat}(h1:2^k<=m) (h2:m<2^(k+1)):bl m=k+1:=by
 have h0:m≠0:=by have :=az k;omega
 have a:=oZ h0;have b:=qo m;have c:=nP h0;have d:bl m-1<k+1:=(lW (by decide:1<2)).1 (de a h2);have e:k<bl m:=(lW (by decide:1<2)).1 (de h1 b);omega
def kk (m:Nat) (e:Int):Int:=max (bl m+e-53) (-1074)
def jj (m:Nat) (e:Int):Nat:=(kk m e+1074).toNat
def ss (m:Nat) (e:Int):Int:=kk m e-e
def qq (m:Nat) (e:Int):Nat:=if ss m e<=0 then m*2^(-ss m e).toNat else m/2^(ss m e).toNat
def rr (m:Nat) (e:Int):Nat:=if ss m e<=0 then 0 else m%2^(ss m e).toNat
def r0 (m:Nat) (e:Int):Nat:=qq m e+jj m e*4503599627370496
theorem F' (m:Nat) (e:Int): -1074<=kk m e:=by unfold kk;omega
theorem uN (m:Nat) (e:Int):(jj m e:Int)=kk m e+1074:=by unfold jj;have :=F' m e;omega
theorem Bk (m:Nat) (e:Int):qq m e<9007199254740992:=by
 have h1:=qo m;have h2:(bl m:Int)-53<=ss m e:=by unfold ss kk;omega
 unfold qq;rw[show(9007199254740992:Nat)=2^53 by decide];split
 .rename_i h
  calc m*2^(-ss m e).toNat<2^bl m*2^(-ss m e).toNat:=cS h1 (az _)
   _=2^(bl m+(-ss m e).toNat):=(aB _ _ _).symm
   _<=2^53:=aG (by decide) (by omega)
 .rename_i h
  rw[lU (az _),<-aB];exact aX h1 (aG (by decide) (by omega))
theorem DH {m:Nat}(hm:m≠0) (e:Int):4503599627370496<=qq m e\/jj m e=0:=by
 by_cases hk:kk m e= -1074
 .right;unfold jj;omega
 .left
  have h1:=oZ hm;have hp:=nP hm;have h2:ss m e=(bl m:Int)-53:=by unfold ss;unfold kk at hk ⊢;omega
  unfold qq;rw[show(4503599627370496:Nat)=2^52 by decide];split
  .rename_i h
   calc 2^52<=2^(bl m-1+(-ss m e).toNat):=aG (by decide) (by omega)
    _=2^(bl m-1)*2^(-ss m e).toNat:=aB _ _ _
    _<=_:=bR _ h1
  .rename_i h
   rw[qF (az _),<-aB];exact ct (aG (by decide) (by omega)) h1
theorem wG {m:Nat}(hm:m≠0) (e:Int):aw (r0 m e)=qq m e*2^jj m e:=
 nT _ _ (DH hm e) (by have :=Bk m e;omega)
theorem Cv {m:Nat}(hm:m≠0) (e:Int):aw (r0 m e+1)=(qq m e+1)*2^jj m e:=by
 have :=nT (qq m e+1) (jj m e) (by have :=DH hm e;omega) (by have :=Bk m e;omega);rw[<-this];unfold r0;congr 1;omega
def tt (t m:Nat) (e:Int):Nat:=m*2^(e+1074+t).toNat
theorem yf {t m:Nat}{e:Int}(ht:0<=e+1074+t):
  tt t m e=qq m e*2^jj m e*2^t+rr m e*2^(e+1074+t).toNat:=by
 have hj:=uN m e;have hs:ss m e=kk m e-e:=rfl;unfold tt qq rr;by_cases h:ss m e<=0
 .rw[aj h,aj h,aF,aF,<-aB,<-aB,iq,kW]
  congr 2;omega
 .rw[ag h,ag h]
  have h1:jj m e+t=(ss m e).toNat+(e+1074+t).toNat:=by omega
  rw[aF,<-aB,h1,aB,<-aF,<-a_];congr 1;rw[aW];exact(kt _ _).symm
theorem Wg {t m:Nat}{e:Int}(ht:0<=e+1074+t):rr m e*2^(e+1074+t).toNat<2^jj m e*2^t:=by
 have hj:=uN m e;have hs:ss m e=kk m e-e:=rfl;unfold rr;by_cases h:ss m e<=0
 .rw[aj h,iq];exact fm (az _) (az _)
 .rw[ag h]
  have h1:jj m e+t=(ss m e).toNat+(e+1074+t).toNat:=by omega
  rw[<-aB,h1,aB];exact cS (ew _ (az _)) (az _)
theorem floor_le {t m:Nat}{e:Int}(hm:m≠0) (ht:0<=e+1074+t):aw (r0 m e)*2^t<=tt t m e:=by
 rw[wG hm,yf ht];omega
theorem lt_succ {t m:Nat}{e:Int}(hm:m≠0) (ht:0<=e+1074+t):tt t m e<aw (r0 m e+1)*2^t:=by
 have :=Wg (m:=m) ht;rw[Cv hm,yf ht,a_,a_,fP];omega
theorem MS {t m:Nat}{e:Int}(hm:m≠0) (ht:0<=e+1074+t):rr m e=0↔tt t m e=aw (r0 m e)*2^t:=by
 rw[wG hm,yf ht];constructor
 .intro h;rw[h];simp
 .intro h
  have h1:rr m e*2^(e+1074+t).toNat=0:=by omega
  rcases pB.1 h1 with h2|h2
  .exact h2
  .have :=az (e+1074+t).toNat;omega
theorem ab5 {t m:Nat}{e:Int}(hm:m≠0) (ht:0<=e+1074+t) (hs:0<ss m e):
  (2^(ss m e).toNat<2*rr m e↔(aw (r0 m e)+aw (r0 m e+1))*2^t<2*tt t m e)/\
  (2^(ss m e).toNat=2*rr m e↔(aw (r0 m e)+aw (r0 m e+1))*2^t=2*tt t m e):=by
 have hj:=uN m e;have hse:ss m e=kk m e-e:=rfl;have h1:jj m e+t=(ss m e).toNat+(e+1074+t).toNat:=by omega
 rw[wG hm,Cv hm,yf ht]
 have h2:(qq m e*2^jj m e+(qq m e+1)*2^jj m e)*2^t=2*(qq m e*2^jj m e*2^t)+2^(ss m e).toNat*2^(e+1074+t).toNat:=by
  rw[<-aB 2 (ss m e).toNat,<-h1,aB,a_ (qq m e) 1,fP,a_,a_];omega
 rw[h2,cP];generalize 2*(qq m e*2^jj m e*2^t)=A;have hp:=az (e+1074+t).toNat;generalize 2^(e+1074+t).toNat=U at hp;rw[<-aF 2];constructor
 .rw[Nat.add_lt_add_iff_left,wg hp]
 .rw[Nat.add_left_cancel_iff,Nat.mul_right_cancel_iff hp]
def MR:Nat:=9218868437227405312
def hh (m:Nat) (e:Int):Int:=if 2*rr m e<2^(ss m e).toNat then -1 else if 2*rr m e=2^(ss m e).toNat then 0 else 1
def pR (k:Nat) (m:Nat) (e:Int):Bool:=
 match k with
 | 0=>false
 | 1=>true
 | 2=>decide (0<hh m e) || (decide (hh m e=0) && decide (qq m e%2=1))
 |_=>decide (0<=hh m e)
def r1 (k:Nat) (m:Nat) (e:Int):Nat:=if rr m e≠0/\pR k m e=true then r0 m e+1 else r0 m e
def dw (k:Nat) (m:Nat) (e:Int):Nat:=
 if m=0 then 0 else if MR<=r1 k m e then(if k=0 then MR-1 else MR) else r1 k m e
def fF (m:Nat) (e:Int):Bool:=decide (m≠0) && (decide (rr m e≠0) || decide (MR<=r0 m e))
def kd (neg:Bool) (mode:Int):Nat:=
 if mode=3 then 0 else if mode=4 then 3 else if mode=1 then(if neg then 0 else 1) else if mode=2 then(if neg then 1 else 0) else 2
def Pk (k t T n:Nat):Prop:=
 match k with
 | 0=>n<=MR-1/\aw n*2^t<=T
 | 1=>n<=MR/\(n=0\/aw (n-1)*2^t<T)
 | 2=>n<=MR/\(n=0\/(aw (n-1)+aw n)*2^t<2*T\/((aw (n-1)+aw n)*2^t=2*T/\n%2=0))
 |_=>n<=MR/\(n=0\/(aw (n-1)+aw n)*2^t<=2*T)
theorem Z_ {k t T T' n:Nat}(h:T<=T') (hp:Pk k t T n):Pk k t T' n:=by
 rcases k with _|_|_|k <;> simp only[Pk]at * <;> omega
theorem Zg (m:Nat) (e:Int):r0 m e%2=qq m e%2:=by unfold r0;omega
theorem UZ {m:Nat}{e:Int}(h:rr m e≠0):0<ss m e:=by
 rcases jQ 0 (ss m e) with h1|h1
 .exact h1
 .exfalso;apply h;unfold rr;rw[aj h1]
theorem UO {t m:Nat}{e:Int}(hm:m≠0) (ht:0<=e+1074+t) (k n:Nat):n<=r1 k m e↔
  match k with
  | 0=>aw n*2^t<=tt t m e
  | 1=>n=0\/aw (n-1)*2^t<tt t m e
  | 2=>n=0\/(aw (n-1)+aw n)*2^t<2*tt t m e\/((aw (n-1)+aw n)*2^t=2*tt t m e/\n%2=0)
  |_=>n=0\/(aw (n-1)+aw n)*2^t<=2*tt t m e:=by
 have f1:=floor_le hm ht;have f2:=lt_succ hm ht;have f3:=MS hm ht;have ho:=Zg m e
 have hh1:rr m e≠0->((hh m e= -1↔2*tt t m e<(aw (r0 m e)+aw (r0 m e+1))*2^t)/\(hh m e=0↔2*tt t m e=(aw (r0 m e)+aw (r0 m e+1))*2^t)/\(hh m e= -1\/hh m e=0\/hh m e=1)):=by
  intro h;obtain⟨a,b⟩:=ab5 hm ht (UZ h);unfold hh;split
  .rename_i h1;refine⟨⟨fun _=>?_,fun _=>rfl⟩,⟨fun h=>by simp at h,fun h2=>?_⟩,Or.inl rfl⟩
   .have :¬(2^(ss m e).toNat<2*rr m e):=by omega
    have h3:¬(2^(ss m e).toNat=2*rr m e):=by omega
    rw[a]at this;rw[b]at h3;omega
   .have :=b.2 h2.symm;omega
  .split
   .rename_i h1 h2
    refine⟨⟨fun h=>by simp at h,fun h3=>?_⟩,⟨fun _=>(b.1 h2.symm).symm,fun _=>rfl⟩,by simp⟩;have :=b.1 h2.symm;omega
   .rename_i h1 h2
    refine⟨⟨fun h=>by simp at h,fun h3=>?_⟩,⟨fun h=>by simp at h,fun h3=>?_⟩,by simp⟩
    .have :2^(ss m e).toNat<2*rr m e:=by omega
     rw[a]at this;omega
    .have :=b.2 h3.symm;omega
 have hw:=az t;have mono:∀ {x y:Nat},x<=y->aw x*2^t<=aw y*2^t:=fun h=>bR _ (k_ h)
 have smono:∀ {x y:Nat},x<y->aw x*2^t<aw y*2^t:=fun h=>cS (nN h) hw
 have hr:r1 k m e=r0 m e\/r1 k m e=r0 m e+1:=by unfold r1;split <;> simp
 have hr1:r1 k m e=r0 m e+1↔rr m e≠0/\pR k m e=true:=by unfold r1;split <;> simp_all
 rw[a_];rw[a_]at hh1;rcases ju n (r0 m e+1) with hn|hn|hn
 .have h1:=mono (show n<=r0 m e by omega)
  have h2:n≠0->aw (n-1)*2^t<aw n*2^t:=fun h=>smono (by omega)
  have h3:n<=r1 k m e:=by omega
  refine⟨fun _=>?_,fun _=>h3⟩;split <;> omega
 .subst hn
  rw[show r0 m e+1-1=r0 m e by omega];have h4:r0 m e+1<=r1 k m e↔rr m e≠0/\pR k m e=true:=by rw[<-hr1];omega
  rw[h4];by_cases h0:rr m e=0
  .have h5:=f3.1 h0
   simp only[h0,nZ,not_true_eq_false,false_and,false_iff];split <;> omega
  .obtain⟨c1,c2,c3⟩:=hh1 h0
   have h5:¬(tt t m e=aw (r0 m e)*2^t):=fun h=>h0 (f3.2 h)
   simp only[nZ,h0,not_false_eq_true,true_and];unfold pR;split
   .simp;omega
   .simp;omega
   .simp only[jR,da,lT]
    constructor
    .intro h;right
     rcases h with h|⟨h,h'⟩
     .left;rcases c3 with c|c|c
      .omega
      .omega
      .have :¬hh m e= -1:=by omega
       have h7:¬hh m e=0:=by omega
       rw[c1]at this;rw[c2]at h7;omega
     .right;have :=c2.1 h;omega
    .intro h
     rcases h with h|h|⟨h,h'⟩
     .omega
     .left
      have :¬hh m e= -1:=by rw[c1];omega
      have h7:¬hh m e=0:=by rw[c2];omega
      omega
     .right;exact⟨c2.2 h.symm,by omega⟩
   .simp only[da]
    constructor
    .intro h;right
     have :¬hh m e= -1:=by omega
     rw[c1]at this;omega
    .intro h
     have :¬hh m e= -1:=by rw[c1];omega
     omega
 .have h1:=mono (show r0 m e+1<=n-1 by omega)
  have h2:=smono (show n-1<n by omega);have h3:¬n<=r1 k m e:=by omega
  refine⟨fun h=>absurd h h3,fun h=>absurd h ?_⟩;split <;> omega
theorem lI {t m:Nat}{e:Int}(ht:0<=e+1074+t) (k n:Nat):n<=dw k m e↔Pk k t (tt t m e) n:=by
 by_cases hm:m=0
 .subst hm
  have h0:tt t 0 e=0:=by unfold tt;simp
  have hw:=az t;unfold dw;rw[aj rfl,h0];have hpos:n≠0->0<aw n*2^t:=fun h=>fm (by have :=nN (show 0<n by omega);rw[kv]at this;exact this) hw
  have hz:n=0->aw n*2^t=0:=fun h=>by subst h;rw[kv];simp
  unfold Pk;rw[a_];split <;> (unfold MR) <;> omega
 .have h1:=UO hm ht k n
  unfold dw;rw[ag hm];rcases k with _|_|_|k <;> simp only[Pk,jw,Nat.reduceAdd]at * <;> rw[<-h1] <;> split <;> simp <;> (try unfold MR at *) <;> omega
def sg (t:Nat) (neg:Bool) (m:Nat) (e:Int):Int:=if neg then -(tt t m e:Int) else tt t m e
def rg (neg:Bool) (mode:Int) (m:Nat) (e:Int):Int:=if neg then -(dw (kd neg mode) m e:Int) else dw (kd neg mode) m e
theorem s' {t m m':Nat}{e e':Int}(ht:0<=e+1074+t) (ht':0<=e'+1074+t) (k:Nat) (h:tt t m e<=tt t m' e'):dw k m e<=dw k m' e':=
 (lI ht' k _).2 (Z_ h ((lI ht k _).1 (Nat.le_refl _)))
theorem SF {t m m':Nat}{e e':Int}(ht:0<=e+1074+t) (ht':0<=e'+1074+t) (k:Nat) (h:tt t m e=tt t m' e'):dw k m e=dw k m' e':=
 pC (s' ht ht' k (by omega)) (s' ht' ht k (by omega))
theorem Ju {t m:Nat}{e:Int}(k:Nat) (h:tt t m e=0):dw k m e=0:=by
 have hm:m=0:=by
  unfold tt at h;rcases pB.1 h with h|h
  .exact h
  .have :=az (e+1074+t).toNat;omega
 unfold dw;rw[aj hm]
theorem Wy {t m m':Nat}{neg neg':Bool}{e e':Int}(ht:0<=e+1074+t) (ht':0<=e'+1074+t) (mode:Int)
  (h:sg t neg m e<=sg t neg' m' e'):rg neg mode m e<=rg neg' mode m' e':=by
 unfold sg at h;unfold rg;cases neg <;> cases neg' <;> simp only[ga,e9,cQ]at h ⊢
 .have :=s' (m:=m) (m':=m') ht ht' (kd false mode) (by omega);omega
 .have h1:=Ju (m:=m) (kd false mode) (by omega:tt t m e=0)
  have h2:=Ju (m:=m') (kd true mode) (by omega:tt t m' e'=0);omega
 .omega
 .have :=s' (m:=m') (m':=m) ht' ht (kd true mode) (by omega);omega
theorem nB (k m:Nat) (e:Int):dw k m e<=MR:=by
 unfold dw;split
 .omega
 .split
  .split <;> omega
  .omega
theorem Zc {t m:Nat}{e:Int}(ht:0<=e+1074+t) (k r:Nat) (hr:r<MR) (h:tt t m e=aw r*2^t):dw k m e=r:=by
 have hw:=az t;have smono:∀ {x y:Nat},x<y->aw x*2^t<aw y*2^t:=fun h=>cS (nN h) hw
 have h1:r<=dw k m e:=by
  rw[lI ht,h];have :=fun h:r≠0=>smono (show r-1<r by omega)
  rcases k with _|_|_|k <;> simp only[Pk,a_] <;> omega
 have h2:¬r+1<=dw k m e:=by
  rw[lI ht,h];have :=smono (show r<r+1 by omega);rcases k with _|_|_|k <;> simp only[Pk,a_,kX] <;> omega
 omega
theorem nD {t m:Nat}{e:Int}(ht:0<=e+1074+t):fF m e=false↔ ∃r,r<MR/\tt t m e=aw r*2^t:=by
 have hw:=az t;by_cases hm:m=0
 .subst hm
  have h0:tt t 0 e=0:=by unfold tt;simp
  rw[h0];constructor
  .intro _;exact⟨0,by decide,by rw[kv];simp⟩
  .intro _;simp [fF]
 .have f1:=floor_le hm ht
  have f2:=lt_succ hm ht;have f3:=MS hm ht;unfold fF;simp only[nZ,hm,not_false_eq_true,decide_true,zK,wh,jx,Decidable.not_not,ET];constructor
  .rintro⟨a,b⟩;exact⟨_,b,f3.1 a⟩
  .rintro⟨r,h1,h2⟩
   rw[h2]at f1 f2;have g1:=x9.1 (jS f1 hw);have g2:=Nx.1 (mR f2);have :r=r0 m e:=by omega
   subst this;exact⟨f3.2 h2,h1⟩
def tz:Nat->Nat->Nat
 | 0,_=> 0
 |f+1,m=>if m%2=0 then tz f (m/2)+1 else 0
def ctz (m:Nat):Nat:=tz (bl m) m
theorem Pt {m:Nat}(h:m≠0) (h2:m%2=0):bl (m/2)+1=bl m:=by
 have a:=oZ h;have b:=qo m;have c:=nP h;have h1:bl m≠1:=by intro h1;rw[h1]at b;omega
 obtain⟨k,hk⟩:∃k,bl m=k+2:=⟨bl m-2,by omega⟩;rw[hk]at a b;rw[show k+2-1=k+1 by omega,bH]at a;rw[show k+2=(k+1)+1 by omega,bH]at b;rw[hk,Qv (show 2^k<=m/2 by omega) (by omega)]
theorem Mu:∀(f m:Nat),m≠0->bl m<=f->∃q,m=q*2^tz f m/\q%2=1
 | 0,m,h,hf=>by have :=nP h;omega
 |f+1,m,h,hf=>by
  unfold tz;split
  .rename_i h2
   have hb:=Pt h h2;obtain⟨q,h3,h4⟩:=Mu f (m/2) (by omega) (by omega);refine⟨q,?_,h4⟩;rw[bH,<-aF,<-h3];omega
  .exact⟨m,by simp,by omega⟩
theorem oR {m:Nat}(h:m≠0):∃q,m=q*2^ctz m/\q%2=1:=Mu _ m h (Nat.le_refl _)
structure D where
 neg:Bool
 m:Nat
 e:Int
def nz:D:=⟨false,0,0⟩
def norm (neg:Bool) (m:Nat) (e:Int):D:=if m=0 then nz else⟨neg,m/2^ctz m,e+ctz m⟩
def D.Nf (d:D):Prop:=d=nz\/d.m%2=1
def D.sm (d:D):Int:=if d.neg then -(d.m:Int) else d.m
def D.vl (T:Nat) (d:D):Int:=d.sm*2^(d.e+T).toNat
theorem iT (neg:Bool) (m:Nat) (e:Int):(norm neg m e).Nf:=by
 unfold norm;split
 .exact Or.inl rfl
 .rename_i h
  obtain⟨q,h1,h2⟩:=oR h;right
  have :m/2^ctz m=q:=by
   conv=>lhs;lhs;rw[h1]
   exact ua _ (az _)
  simp only[this,h2]
theorem j9 (neg:Bool) (m:Nat) (e:Int) (T:Nat) (hT:0<=e+T):(norm neg m e).vl T=(⟨neg,m,e⟩:D).vl T:=by
 unfold norm;split
 .rename_i h;subst h;unfold D.vl D.sm nz;simp
 .rename_i h
  obtain⟨q,h1,h2⟩:=oR h
  have h3:m/2^ctz m=q:=by
   conv=>lhs;lhs;rw[h1]
   exact ua _ (az _)
  unfold D.vl D.sm;simp only[h3];have h4:(e+ctz m+T).toNat=ctz m+(e+T).toNat:=by omega
  rw[h4,uc,<-rZ];congr 1
  have h5:(m:Int)=q*2^ctz m:=by
   conv=>lhs;rw[h1]
   simp
  rw[h5];cases neg <;> simp [wi]
theorem KF {p q i j:Nat}(hp:p%2=1) (hq:q%2=1) (h:p*2^i=q*2^j):p=q/\i=j:=by
 rcases ju i j with h1|h1|h1
 .obtain⟨k,rfl⟩:∃k,j=i+(k+1):=⟨j-i-1,by omega⟩
  rw[aB,fQ,aW p]at h;have :=ah2 (az i) h;rw[bH]at this;exfalso;rw[<-aF]at this;omega
 .subst h1;exact⟨pD (az i) h,rfl⟩
 .obtain⟨k,rfl⟩:∃k,i=j+(k+1):=⟨i-j-1,by omega⟩
  rw[aB,fQ,aW q]at h;have :=ah2 (az j) h;rw[bH]at this;exfalso;rw[<-aF]at this;omega
theorem Vv (d:D):d.sm.natAbs=d.m:=by unfold D.sm;split <;> simp
theorem nI (d:D) (T:Nat):(d.vl T).natAbs=d.m*2^(d.e+T).toNat:=by
 unfold D.vl;rw[Int.natAbs_mul,Vv,Int.natAbs_pow];rfl
theorem AH {c d:D}(hc:c.Nf) (hd:d.Nf) {T:Nat}(h1:0<=c.e+T) (h2:0<=d.e+T) (h:c.vl T=d.vl T):c=d:=by
 have ha:=congrArg Int.natAbs h;rw[nI,nI]at ha;rcases hc with rfl|hc
 .rcases hd with rfl|hd
  .rfl
  .exfalso
   have :d.m*2^(d.e+T).toNat=0:=by rw[<-ha];simp [nz]
   rcases pB.1 this with h|h
   .omega
   .have :=az (d.e+T).toNat;omega
 .rcases hd with rfl|hd
  .exfalso
   have :c.m*2^(c.e+T).toNat=0:=by rw[ha];simp [nz]
   rcases pB.1 this with h|h
   .omega
   .have :=az (c.e+T).toNat;omega
  .obtain⟨e1,e2⟩:=KF hc hd ha
   have e3:c.e=d.e:=by omega
   have hp:(0:Int)<2^(c.e+T).toNat:=Int.pow_pos (by decide)
   have e4:c.sm=d.sm:=by
    unfold D.vl at h;rw[<-e3]at h;exact Int.eq_of_mul_eq_mul_right (by omega) h
   have e5:c.neg=d.neg:=by
    unfold D.sm at e4;rw[e1]at e4;cases hcn:c.neg <;> cases hdn:d.neg <;> rw[hcn,hdn]at e4 <;> simp at e4 ⊢ <;> omega
   cases c;cases d;simp only at e1 e3 e5;subst e1 e3 e5;rfl
def ofInt (s:Int) (e:Int):D:=norm (decide (s<0)) s.natAbs e
theorem yZ (s e:Int):(ofInt s e).Nf:=iT _ _ _
theorem K' (s e:Int) (T:Nat) (hT:0<=e+T):(ofInt s e).vl T=s*2^(e+T).toNat:=by
 unfold ofInt;rw[j9 _ _ _ _ hT];unfold D.vl D.sm;congr 1;simp only[da];split <;> omega
theorem J3 {neg:Bool}{m:Nat}{e:Int} :(norm neg m e=nz)\/e<=(norm neg m e).e:=by
 unfold norm;split
 .exact Or.inl rfl
 .right;simp only;omega
theorem mZ {neg:Bool}{m:Nat}{e:Int}{T:Nat}(hT:0<=e+T):0<=(norm neg m e).e+T:=by
 rcases @J3 neg m e with h|h
 .rw[h];unfold nz;simp only;omega
 .omega
theorem MF {s e:Int}{T:Nat}(hT:0<=e+T):0<=(ofInt s e).e+T:=mZ hT
def plus (c d:D):D:=ofInt (c.sm*2^(c.e-min c.e d.e).toNat+d.sm*2^(d.e-min c.e d.e).toNat) (min c.e d.e)
def times (c d:D):D:=ofInt (c.sm*d.sm) (c.e+d.e)
def aO (d:D):D:=⟨!d.neg && decide (d.m≠0),d.m,d.e⟩
def sign (d:D):Int:=if d.m=0 then 0 else if d.neg then -1 else 1
def cmp (c d:D):Int:=sign (plus c (aO d))
theorem qt (c d:D) (T:Nat) (h1:0<=c.e+T) (h2:0<=d.e+T):(plus c d).vl T=c.vl T+d.vl T:=by
 unfold plus;rw[K' _ _ _ (by omega),EU,rZ,rZ,<-uc,<-uc];unfold D.vl;congr 3 <;> congr 1 <;> omega
theorem uW {c d:D}{T:Nat}(h1:0<=c.e+T) (h2:0<=d.e+T):0<=(plus c d).e+T:=MF (by omega)
theorem ae8 (c d:D) (T U:Nat) (h1:0<=c.e+T) (h2:0<=d.e+U):(times c d).vl (T+U)=c.vl T*d.vl U:=by
 unfold times;rw[K' _ _ _ (by omega)];unfold D.vl;rw[show(c.e+d.e+((T+U:Nat):Int)).toNat=(c.e+T).toNat+(d.e+U).toNat by omega,uc];rw[rZ,rZ,Int.mul_left_comm d.sm]
theorem IZ (d:D):(aO d).sm= -d.sm:=by
 unfold aO D.sm;by_cases h:d.m=0
 .simp [h]
 .cases d.neg <;> simp [h]
theorem Ev (d:D) (T:Nat):(aO d).vl T= -d.vl T:=by
 unfold D.vl;rw[IZ];unfold aO;simp [wi]
theorem ZS (d:D) (T:Nat):sign d=(d.vl T).sign:=by
 unfold sign D.vl D.sm;have hp:(0:Int)<2^(d.e+T).toNat:=Int.pow_pos (by decide);by_cases h:d.m=0
 .simp [h]
 .rw[ag h,Int.sign_mul,EV hp,Int.mul_one]
  cases d.neg <;> simp only[cQ,ga,e9]
  .rw[EV (by omega)]
  .rw[Ob (by omega)]
theorem La (c d:D) (T:Nat) (h1:0<=c.e+T) (h2:0<=d.e+T):cmp c d=(c.vl T-d.vl T).sign:=by
 unfold cmp;rw[ZS _ T,qt _ _ _ h1 (by unfold aO;exact h2),Ev,Int.sub_eq_add_neg]
end Go.Proofs.YtofdjfdnckmmmaaGreatDoor.Fm
namespace Go.Proofs.YtofdjfdnckmmmaaGreatDoor.Fl
def ay (x:Int):Int:=x%9223372036854775808
def dy (x:Int):Int:=x/4503599627370496%2048
def c8 (x:Int):Int:=x%4503599627370496
def di (x:Int):Bool:=decide (9223372036854775808<=x)
def kg (x:Int):Int:=if 9223372036854775808<=x then x-9223372036854775808 else x+9223372036854775808
def ak (x:Int):Int:=if ay x=0 then 1 else if ay x<4503599627370496 then 2 else if ay x<9218868437227405312 then 3 else if ay x=9218868437227405312 then 4 else 5
def bO (x:Int):Int:=if 9218868437227405312<ay x then 0 else if 9223372036854775808<=x then -ay x else ay x
def fe (x:Int):Int:=if 9218868437227405312<ay x then 4 else 0
def mb (n:Int):Int:=if n<0 then 9223372036854775808-n else n
def qu (x:Int):Int:=if 9218868437227405312<ay x then 9221120237041090560 else if bO x=9218868437227405312 then x else if bO x= -1 then 9223372036854775808 else mb (bO x+1)
def qj (x:Int):Int:=if 9218868437227405312<ay x then 9221120237041090560 else if bO x= -9218868437227405312 then x else mb (bO x-1)
theorem rQ (x:Int):0<=dy x/\dy x<=2047:=by unfold dy;omega
theorem pX (x:Int):0<=c8 x/\c8 x<=4503599627370495:=by unfold c8;omega
theorem gV (x:Int):0<=ay x/\ay x<=9223372036854775807:=by unfold ay;omega
theorem xg (x:Int): -9218868437227405312<=bO x/\bO x<=9218868437227405312:=by have :=gV x;unfold bO;omega
theorem YZ {x:Int}(h0:0<=x) (h1:x<=18446744073709551615):0<=qu x/\qu x<=18446744073709551615:=by
 have :=xg x;unfold qu mb;omega
theorem XT {x:Int}(h0:0<=x) (h1:x<=18446744073709551615):0<=qj x/\qj x<=18446744073709551615:=by
 have :=xg x;unfold qj mb;omega
theorem S_ {x:Int}(h0:0<=x) (h1:x<=18446744073709551615):
  (dy x=0/\c8 x=0/\ak x=1)\/(dy x=0/\0<c8 x/\ak x=2)\/(dy x=2047/\c8 x=0/\ak x=4)\/(dy x=2047/\0<c8 x/\ak x=5)\/(0<dy x/\dy x<2047/\ak x=3):=by
 unfold dy c8 ak ay;omega
theorem Dv (n:Int) (h0:0<=n) (h1:n<2^64):IntKind.u64.wrap n=n:=IntWalk.u64_in n ⟨h0,by omega⟩
theorem ab6 (x:Int) (h0:0<=x) (h1:x<=18446744073709551615):bits .and .u64 x 2047=x%2048:=
 bits_mask .u64 64 (by decide) Dv 11 (by decide) x h0 (by omega)
theorem XY (x:Int) (h0:0<=x) (h1:x<=18446744073709551615):bits .and .u64 x 4503599627370495=x%4503599627370496:=
 bits_mask .u64 64 (by decide) Dv 52 (by decide) x h0 (by omega)
theorem NZ (x:Int) (h0:0<=x) (h1:x<9223372036854775808):bits .or .u64 x 9223372036854775808=x+9223372036854775808:=by
 obtain⟨a,rfl⟩:=gH h0;have ha:a<2^63:=by omega
 have h:=bits_or_u64_nat a 9223372036854775808 (by omega) (by decide);rw[show((9223372036854775808:Nat):Int)=9223372036854775808 from rfl]at h;rw[h,zL];have :=ud ha 1;rw[show(2^63*1:Nat)=9223372036854775808 by decide]at this;rw[<-this];omega
theorem ZO (x:Int) (h0:0<=x) (h1:x<=18446744073709551615):bits .xor .u64 x 9223372036854775808=kg x:=by
 obtain⟨a,rfl⟩:=gH h0;have h:=u64_xor_nat a 9223372036854775808 (by omega) (by decide);rw[show((9223372036854775808:Nat):Int)=9223372036854775808 from rfl]at h;rw[h];unfold kg;by_cases hs:a<2^63
 .have h2:a^^^9223372036854775808=9223372036854775808+a:=by
   have h3:=ud hs 1;rw[show(2^63*1:Nat)=9223372036854775808 by decide]at h3;rw[h3];apply EW;intro i;rw[EY,Nat.testBit_or,show(9223372036854775808:Nat)=2^63 by decide,zM];by_cases hi:63=i
   .subst hi;rw[Od hs];simp
   .simp [hi]
  rw[h2];omega
 .have h2:a^^^9223372036854775808=a-9223372036854775808:=by
   obtain⟨b,hb,rfl⟩:∃b,b<2^63/\a=9223372036854775808+b:=⟨a-9223372036854775808,by omega,by omega⟩;have h3:=ud hb 1;rw[show(2^63*1:Nat)=9223372036854775808 by decide]at h3;rw[E5]
   conv=>lhs;rw[h3]
   apply EW;intro i;rw[EY,Nat.testBit_or,show(9223372036854775808:Nat)=2^63 by decide,zM];by_cases hi:63=i
   .subst hi;rw[Od hb];simp
   .simp [hi]
  rw[h2];omega
theorem Yl (x:Int) (h0:0<=x) (h1:x<=18446744073709551615):bits .andNot .u64 x 9223372036854775808=ay x:=by
 obtain⟨a,rfl⟩:=gH h0;have h:=u64_andNot_nat a 9223372036854775808 (by omega) (by decide);rw[show((9223372036854775808:Nat):Int)=9223372036854775808 from rfl]at h;rw[h,show(18446744073709551615-9223372036854775808:Nat)=2^63-1 by decide,zN];unfold ay;omega
end Go.Proofs.YtofdjfdnckmmmaaGreatDoor.Fl
namespace Go.Proofs.YtofdjfdnckmmmaaGreatDoor.Fm
theorem vh {x c d:D}{T:Nat}(hx:x.Nf) (h1:0<=c.e+T) (h2:0<=d.e+T) (h3:0<=x.e+T) (hv:x.vl T=c.vl T+d.vl T):x=plus c d:=
 AH hx (yZ _ _) h3 (uW h1 h2) (by rw[hv,qt _ _ _ h1 h2])
theorem af6 {x c d:D}{T U:Nat}(hx:x.Nf) (h1:0<=c.e+T) (h2:0<=d.e+U) (h3:0<=x.e+((T+U:Nat):Int)) (hv:x.vl (T+U)=c.vl T*d.vl U):x=times c d:=
 AH hx (yZ _ _) h3 (MF (by omega)) (by rw[hv,ae8 _ _ _ _ h1 h2])
theorem yu {d:D}(h:d.m=0) (T:Nat):d.vl T=0:=by unfold D.vl D.sm;rw[h];simp
theorem ly (x y:Int):∃T:Nat,0<=x+T/\0<=y+T:=⟨((-x).toNat+(-y).toNat),by omega,by omega⟩
theorem T7 {c d:D}(hc:c.m=0):norm d.neg d.m d.e=plus c d:=by
 obtain⟨T,h1,h2⟩:=ly c.e d.e;exact vh (iT _ _ _) h1 h2 (mZ h2) (by rw[j9 _ _ _ _ h2,yu hc,Int.zero_add])
theorem SL {c d:D}(hd:d.m=0):norm c.neg c.m c.e=plus c d:=by
 obtain⟨T,h1,h2⟩:=ly c.e d.e;exact vh (iT _ _ _) h1 h2 (mZ h1) (by rw[j9 _ _ _ _ h1,yu hd,Int.add_zero])
theorem sM {d:D}{x:Int}{T:Nat}(hx:x<=d.e) (hT:0<=x+T):d.vl T=(if d.neg then -((d.m*2^(d.e-x).toNat:Nat):Int) else((d.m*2^(d.e-x).toNat:Nat):Int))*2^(x+T).toNat:=by
 unfold D.vl D.sm;rw[show(d.e+(T:Int)).toNat=(d.e-x).toNat+(x+T).toNat by omega,uc,<-rZ];congr 1;cases d.neg <;> simp [wi]
theorem Ta {c d:D}{a b:Nat}{x:Int}(hx:x=min c.e d.e) (ha:a=c.m*2^(c.e-x).toNat) (hb:b=d.m*2^(d.e-x).toNat) (h:c.neg=d.neg):norm c.neg (a+b) x=plus c d:=by
 obtain⟨T,h1,h2⟩:=ly c.e d.e;have h3:0<=x+T:=by omega
 refine vh (iT _ _ _) h1 h2 (mZ h3) ?_;rw[j9 _ _ _ _ h3,sM (d:=c) (x:=x) (by omega) h3,sM (d:=d) (x:=x) (by omega) h3,<-ha,<-hb,<-EU,<-h];unfold D.vl D.sm;congr 1;cases c.neg <;> simp <;> omega
theorem O9 {c d:D}{a b:Nat}{x:Int}(hx:x=min c.e d.e) (ha:a=c.m*2^(c.e-x).toNat) (hb:b=d.m*2^(d.e-x).toNat) (h:c.neg≠d.neg) (hle:b<=a):norm c.neg (a-b) x=plus c d:=by
 obtain⟨T,h1,h2⟩:=ly c.e d.e;have h3:0<=x+T:=by omega
 refine vh (iT _ _ _) h1 h2 (mZ h3) ?_;rw[j9 _ _ _ _ h3,sM (d:=c) (x:=x) (by omega) h3,sM (d:=d) (x:=x) (by omega) h3,<-ha,<-hb,<-EU];unfold D.vl D.sm;congr 1;cases hc:c.neg <;> cases hd:d.neg <;> simp [hc,hd]at h ⊢ <;> omega
theorem O7 {c d:D}{a b:Nat}{x:Int}(hx:x=min c.e d.e) (ha:a=c.m*2^(c.e-x).toNat) (hb:b=d.m*2^(d.e-x).toNat) (h:c.neg≠d.neg) (hle:a<=b):norm d.neg (b-a) x=plus c d:=by
 obtain⟨T,h1,h2⟩:=ly c.e d.e;have h3:0<=x+T:=by omega
 refine vh (iT _ _ _) h1 h2 (mZ h3) ?_;rw[j9 _ _ _ _ h3,sM (d:=c) (x:=x) (by omega) h3,sM (d:=d) (x:=x) (by omega) h3,<-ha,<-hb,<-EU];unfold D.vl D.sm;congr 1;cases hc:c.neg <;> cases hd:d.neg <;> simp [hc,hd]at h ⊢ <;> omega
theorem JH (c d:D):norm (c.neg !=d.neg) (c.m*d.m) (c.e+d.e)=times c d:=by
 have h1:0<=c.e+(((-c.e).toNat:Nat):Int):=by omega
 have h2:0<=d.e+(((-d.e).toNat:Nat):Int):=by omega
 generalize (-c.e).toNat=T at *;generalize (-d.e).toNat=U at *;refine af6 (iT _ _ _) h1 h2 (mZ (by omega)) ?_;rw[j9 _ _ _ _ (by omega)];unfold D.vl D.sm;simp only;rw[show(c.e+d.e+((T+U:Nat):Int)).toNat=(c.e+T).toNat+(d.e+U).toNat by omega,uc];cases c.neg <;> cases d.neg <;> simp [wi,Int.mul_neg,rZ,Int.mul_left_comm]
theorem tU (neg:Bool) (m:Nat) (e:Int):(norm neg m e).m<=m:=by
 unfold norm;split
 .exact d_ _
 .exact iG _ _
theorem ag5 {m k:Nat}(h:m≠0) (hk:m<2^k):ctz m<k:=by
 obtain⟨q,h1,h2⟩:=oR h
 have h3:2^ctz m<=m:=by
  have :1*2^ctz m<=q*2^ctz m:=bR _ (by omega);omega
 exact(lW (by decide:1<2)).1 (de h3 hk)
theorem aa9 (neg:Bool) {m k:Nat}{e:Int}(h:m<2^k):(norm neg m e=nz)\/(e<=(norm neg m e).e/\(norm neg m e).e<=e+k):=by
 unfold norm;split
 .exact Or.inl rfl
 .rename_i h0
  have :=ag5 h0 h;right;simp only;omega
structure gj (le lt:Nat->Prop):Prop where
 down:∀M N,M<=N->le N->le M
 less:∀M N,M<N->le N->lt M
 weak:∀M,lt M->le M
theorem gj.ltdown {le lt:Nat->Prop}(c:gj le lt) {M N:Nat}(h:M<=N) (hl:lt N):lt M:=by
 rcases eJ M N with h1|h1
 .exact c.less M N h1 (c.weak _ hl)
 .rw[show M=N by omega];exact hl
def j' (k w:Nat) (le lt:Nat->Prop) (n:Nat):Prop:=
 match k with
 | 0=>n<=MR-1/\le (2*(aw n*w))
 | 1=>n<=MR/\(n=0\/lt (2*(aw (n-1)*w)))
 | 2=>n<=MR/\(n=0\/lt ((aw (n-1)+aw n)*w)\/(le ((aw (n-1)+aw n)*w)/\n%2=0))
 |_=>n<=MR/\(n=0\/le ((aw (n-1)+aw n)*w))
theorem Mo {le lt le' lt':Nat->Prop}{w r:Nat}(hw:0<w) (c:gj le lt) (c':gj le' lt') (hr':le' (2*(aw r*w)))
  (hn:¬le (2*(aw (r+1)*w)))
  (h1:lt (2*(aw r*w))->lt' (2*(aw r*w))) (h2:lt ((aw r+aw (r+1))*w)->lt' ((aw r+aw (r+1))*w)) (h3:le ((aw r+aw (r+1))*w)->le' ((aw r+aw (r+1))*w))
  (k n:Nat) (h:j' k w le lt n):j' k w le' lt' n:=by
 have mono:∀ {x y:Nat},x<=y->aw x*w<=aw y*w:=fun h=>bR _ (k_ h)
 have smono:∀ {x y:Nat},x<y->aw x*w<aw y*w:=fun h=>cS (nN h) hw
 rcases ju n (r+1) with hlt|heq|hgt
 .have a1:=mono (show n<=r by omega)
  have a2:n≠0->aw (n-1)*w<aw n*w:=fun h=>smono (by omega)
  have a3:n≠0->lt' ((aw (n-1)+aw n)*w):=fun h0=>c'.less _ _ (by rw[a_];have :=a2 h0;omega) hr'
  rcases k with _|_|_|k
  .exact⟨h.1,c'.down _ _ (by omega) hr'⟩
  .refine⟨h.1,?_⟩
   by_cases h0:n=0
   .exact Or.inl h0
   .exact Or.inr (c'.less _ _ (by have :=a2 h0;omega) hr')
  .refine⟨h.1,?_⟩
   by_cases h0:n=0
   .exact Or.inl h0
   .exact Or.inr (Or.inl (a3 h0))
  .refine⟨h.1,?_⟩
   by_cases h0:n=0
   .exact Or.inl h0
   .exact Or.inr (c'.weak _ (a3 h0))
 .subst heq
  have e:r+1-1=r:=by omega
  rcases k with _|_|_|k
  .exact absurd h.2 hn
  .refine⟨h.1,Or.inr ?_⟩
   have :=h.2;rw[e]at this ⊢;rcases this with h0|h0
   .omega
   .exact h1 h0
  .refine⟨h.1,Or.inr ?_⟩
   have :=h.2;rw[e]at this ⊢;rcases this with h0|h0|⟨h0,h4⟩
   .omega
   .exact Or.inl (h2 h0)
   .exact Or.inr ⟨h3 h0,h4⟩
  .refine⟨h.1,Or.inr ?_⟩
   have :=h.2;rw[e]at this ⊢;rcases this with h0|h0
   .omega
   .exact h3 h0
 .exfalso
  have b1:=mono (show r+1<=n-1 by omega);have b2:=smono (show n-1<n by omega);have b3:¬le ((aw (n-1)+aw n)*w):=fun hc=>hn (c.down _ _ (by rw[a_];omega) hc)
  rcases k with _|_|_|k
  .exact hn (c.down _ _ (by omega) h.2)
  .rcases h.2 with h0|h0
   .omega
   .exact hn (c.down _ _ (by omega) (c.weak _ h0))
  .rcases h.2 with h0|h0|⟨h0,h4⟩
   .omega
   .exact b3 (c.weak _ h0)
   .exact b3 h0
  .rcases h.2 with h0|h0
   .omega
   .exact b3 h0
theorem Wb (T:Nat):gj (fun M=>M<=2*T) (fun M=>M<2*T):=
 ⟨fun M N h1 h2=>ct h1 h2,fun M N h1 h2=>aX h1 h2,fun M h=>gn h⟩
theorem I_ (k t T n:Nat):j' k (2^t) (fun M=>M<=2*T) (fun M=>M<2*T) n↔Pk k t T n:=by
 rcases k with _|_|_|k <;> simp only[j',Pk] <;> omega
theorem Vo {q s:Nat}(hs:s<=1) (hq:2^60<=q) {E:Int}{t:Nat}(ht:0<=E-2+1074+t) {le lt:Nat->Prop}(c:gj le lt) (U:Nat) (hU:U=2^(E+1074+t).toNat)
  (h1:∀I,le (2*(I*U))↔I<=q) (h2:∀I,lt (2*(I*U))↔4*I<4*q+s) (k n:Nat):
  (n<=dw k (4*q+s) (E-2)↔j' k (2^t) le lt n)/\(fF (4*q+s) (E-2)=false↔ ∃r,r<MR/\le (2*(aw r*2^t))/\¬lt (2*(aw r*2^t))):=by
 have hm:4*q+s≠0:=by have :=az 60;omega
 have f1:=floor_le hm ht;have f2:=lt_succ hm ht;have hw:=az t;obtain⟨V,hV⟩:∃V,V=2^(E-2+1074+t).toNat:=⟨_,rfl⟩
 have hUV:U=4*V:=by
  rw[hU,hV,show(E+1074+(t:Int)).toNat=(E-2+1074+t).toNat+2 by omega,aB];omega
 have hVp:0<V:=by rw[hV];exact az _
 have hT:tt t (4*q+s) (E-2)=(4*q+s)*V:=by unfold tt;rw[hV]
 have hbl:62<=bl (4*q+s):=by
  have a:=qo (4*q+s)
  have :2^61<2^bl (4*q+s):=by
   have e:(2:Nat)^61=2*2^60:=by decide
   omega
  exact(lW (by decide:1<2)).1 this
 have hss:9<=ss (4*q+s) (E-2):=by unfold ss kk;omega
 have hj:=uN (4*q+s) (E-2);have hse:ss (4*q+s) (E-2)=kk (4*q+s) (E-2)-(E-2):=rfl;obtain⟨z,hz⟩:∃z:Nat,ss (4*q+s) (E-2)=z+3:=⟨(ss (4*q+s) (E-2)-3).toNat,by omega⟩;have hjt:jj (4*q+s) (E-2)+t=z+1+(E+1074+(t:Int)).toNat:=by omega
 have g0:aw (r0 (4*q+s) (E-2))*2^t=(qq (4*q+s) (E-2)*(2*2^z))*U:=by
  rw[wG hm,aF,<-aB,hjt,aB,<-hU,bH,aW (2^z) 2];simp only[aF]
 have g1:aw (r0 (4*q+s) (E-2)+1)*2^t=((qq (4*q+s) (E-2)+1)*(2*2^z))*U:=by
  rw[Cv hm,aF,<-aB,hjt,aB,<-hU,bH,aW (2^z) 2];simp only[aF]
 have g2:(aw (r0 (4*q+s) (E-2))+aw (r0 (4*q+s) (E-2)+1))*2^t=2*(((2*qq (4*q+s) (E-2)+1)*2^z)*U):=by
  rw[a_,g0,g1,<-a_,<-a_,show qq (4*q+s) (E-2)+(qq (4*q+s) (E-2)+1)=2*qq (4*q+s) (E-2)+1 by omega,fQ _ 2,aF 2]
 rw[hT]at f1 f2
 have key:∀I,(2*(I*U)<=2*((4*q+s)*V)↔I<=q)/\(2*(I*U)<2*((4*q+s)*V)↔4*I<4*q+s):=by
  intro I;have e:I*U=(4*I)*V:=by rw[hUV,fQ,aF]
  rw[e];constructor
  .constructor
   .intro h
    have :=jS (show(4*I)*V<=(4*q+s)*V by omega) hVp;omega
   .intro h
    have :=bR V (show 4*I<=4*q+s by omega);omega
  .constructor
   .intro h
    exact mR (a:=V) (by omega)
   .intro h
    have :=cS h hVp;omega
 have cT:=Wb ((4*q+s)*V)
 have a1:le (2*(aw (r0 (4*q+s) (E-2))*2^t)):=by
  rw[g0,h1,<-(key _).1,<-g0];omega
 have a2:¬le (2*(aw (r0 (4*q+s) (E-2)+1)*2^t)):=by
  rw[g1,h1,<-(key _).1,<-g1];omega
 have b1:lt (2*(aw (r0 (4*q+s) (E-2))*2^t))↔2*(aw (r0 (4*q+s) (E-2))*2^t)<2*((4*q+s)*V):=by
  rw[g0,h2,(key _).2]
 have b2:lt ((aw (r0 (4*q+s) (E-2))+aw (r0 (4*q+s) (E-2)+1))*2^t)↔(aw (r0 (4*q+s) (E-2))+aw (r0 (4*q+s) (E-2)+1))*2^t<2*((4*q+s)*V):=by
  rw[g2,h2,(key _).2]
 have b3:le ((aw (r0 (4*q+s) (E-2))+aw (r0 (4*q+s) (E-2)+1))*2^t)↔(aw (r0 (4*q+s) (E-2))+aw (r0 (4*q+s) (E-2)+1))*2^t<=2*((4*q+s)*V):=by
  rw[g2,h1,(key _).1]
 constructor
 .rw[lI ht,hT,<-I_]
  exact⟨Mo hw cT c a1 (by omega) b1.2 b2.2 b3.2 k n,Mo hw c cT (by omega) a2 b1.1 b2.1 b3.1 k n⟩
 .rw[nD ht,hT]
  constructor
  .rintro⟨r,hr,he⟩
   have e:r=r0 (4*q+s) (E-2):=by
    have x1:aw (r0 (4*q+s) (E-2))<=aw r:=jS (show aw (r0 (4*q+s) (E-2))*2^t<=aw r*2^t by omega) hw;have x2:aw r<aw (r0 (4*q+s) (E-2)+1):=mR (a:=2^t) (by omega);have :=x9.1 x1;have :=Nx.1 x2;omega
   subst e;exact⟨_,hr,a1,fun hc=>by have :=b1.1 hc;omega⟩
  .rintro⟨r,hr,x1,x2⟩
   have e:r=r0 (4*q+s) (E-2):=by
    rcases ju r (r0 (4*q+s) (E-2)) with h|h|h
    .exact absurd (c.less _ _ (by have :=cS (nN h) hw;omega) a1) x2
    .exact h
    .exact absurd (c.down _ _ (by have :=bR (2^t) (k_ (show r0 (4*q+s) (E-2)+1<=r by omega));omega) x1) a2
   subst e;refine⟨_,hr,?_⟩;have :¬2*(aw (r0 (4*q+s) (E-2))*2^t)<2*((4*q+s)*V):=fun hc=>x2 (b1.2 hc)
   omega
def qk (c d:Nat):Nat:=80+bl d-bl c
def mark (r:Nat):Nat:=if r=0 then 0 else 1
theorem Bn (r:Nat):mark r<=1:=by unfold mark;split <;> omega
def d' (neg:Bool) (c d:Nat) (E:Int):D:=⟨neg,4*(c*2^qk c d/d)+mark (c*2^qk c d%d),E-qk c d-2⟩
theorem Ew {c d:Nat}(hc:c≠0) (hd:d≠0):2^60<=c*2^qk c d/d:=by
 have a:=oZ hc;have b:=qo d;have e:=nP hc;rw[qF (by omega)];have h1:2^60*d<=2^60*2^bl d:=cZ _ (gn b);have h2:2^(bl c-1)*2^qk c d<=c*2^qk c d:=bR _ a;rw[<-aB]at h1 h2;have h3:2^(60+bl d)<=2^(bl c-1+qk c d):=aG (by decide) (by unfold qk;omega);omega
theorem Sh (A:Nat) {d:Nat}(hd:0<d):gj (fun M=>M*d<=2*A) (fun M=>M*d<2*A):=
 ⟨fun M N h1 h2=>ct (bR _ h1) h2,fun M N h1 h2=>aX (cS h1 hd) h2,fun M h=>gn h⟩
theorem wM {c d:Nat}(hc:c≠0) (hd:d≠0) {E:Int}{t:Nat}(ht:0<=E-qk c d-2+1074+t) (neg:Bool) (k n:Nat):
  (n<=dw k (d' neg c d E).m (d' neg c d E).e↔j' k (2^t) (fun M=>M*d<=2*(c*2^(E+1074+t).toNat)) (fun M=>M*d<2*(c*2^(E+1074+t).toNat)) n)/\
  (fF (d' neg c d E).m (d' neg c d E).e=false↔ ∃r,r<MR/\aw r*2^t*d=c*2^(E+1074+t).toNat):=by
 have hd0:0<d:=by omega
 obtain⟨U,hU⟩:∃U,U=2^(E-qk c d+1074+t).toNat:=⟨_,rfl⟩;have hUp:0<U:=by rw[hU];exact az _
 have hX:c*2^(E+1074+(t:Int)).toNat=(c*2^qk c d)*U:=by
  rw[hU,aF,<-aB];congr 2;omega
 have hq:=Ew hc hd;have hdm:=kt (c*2^qk c d) d;have hml:=ew (c*2^qk c d) hd0;have e0:(d' neg c d E).m=4*(c*2^qk c d/d)+mark (c*2^qk c d%d):=rfl;have e1:(d' neg c d E).e=E-qk c d-2:=rfl;rw[e0,e1,hX];generalize c*2^qk c d=C at *
 obtain⟨k1,k2⟩:=Vo (Bn (C%d)) hq ht (Sh (C*U) hd0) U hU
  (fun I=>by
   have e:2*(I*U)*d=2*((I*d)*U):=by rw[aF,aF,aW U d,aF]
   show 2*(I*U)*d<=2*(C*U)↔_
   rw[e,qF hd0];constructor
   .intro h;exact jS (show I*d*U<=C*U by omega) hUp
   .intro h;have :=bR U h;omega)
  (fun I=>by
   have e:2*(I*U)*d=2*((I*d)*U):=by rw[aF,aF,aW U d,aF]
   show 2*(I*U)*d<2*(C*U)↔_
   have h0:I*d<C↔4*I<4*(C/d)+mark (C%d):=by
    have hlt:I<C/d->I*d<C:=fun h=>by
     have :=bR d (show I+1<=C/d by omega);rw[aW (C/d) d]at this;rw[a_]at this;omega
    have hgt:C/d<I->C<I*d:=fun h=>by
     have :=bR d (show C/d+1<=I by omega);rw[a_,aW (C/d) d]at this;omega
    have heq:I=C/d->I*d=C-C%d:=fun h=>by rw[h,aW];omega
    unfold mark;split
    .rename_i h;constructor
     .intro h2;rcases ju I (C/d) with h3|h3|h3
      .omega
      .have :=heq h3;omega
      .have :=hgt h3;omega
     .intro h2;exact hlt (by omega)
    .rename_i h;constructor
     .intro h2;rcases ju I (C/d) with h3|h3|h3
      .omega
      .omega
      .have :=hgt h3;omega
     .intro h2;rcases ju I (C/d) with h3|h3|h3
      .exact hlt h3
      .have :=heq h3;omega
      .omega
   rw[e,<-h0];constructor
   .intro h;exact mR (a:=U) (by omega)
   .intro h;have :=cS h hUp;omega) k n
 refine⟨k1,k2.trans ?_⟩;constructor
 .rintro⟨r,h1,h2,h3⟩
  refine⟨r,h1,?_⟩;have a:2*(aw r*2^t)*d=2*(aw r*2^t*d):=aF _ _ _;rw[a]at h2 h3;omega
 .rintro⟨r,h1,h2⟩
  have a:2*(aw r*2^t)*d=2*(aw r*2^t*d):=aF _ _ _;refine⟨r,h1,?_,?_⟩
  .show 2*(aw r*2^t)*d<=_
   rw[a,h2];exact ae _
  .show ¬2*(aw r*2^t)*d<_
   rw[a,h2];omega
def GS (m r:Nat):Prop:=r*r<=m/\m<(r+1)*(r+1)
def OP (r m:Nat) (E:Int):D:=⟨false,4*r+mark (m-r*r),E-2⟩
theorem Yn {k w:Nat}{le lt le' lt':Nat->Prop}(h1:∀M,le M->le' M) (h2:∀M,lt M->lt' M) {n:Nat}(h:j' k w le lt n):j' k w le' lt' n:=by
 rcases k with _|_|_|k
 .exact⟨h.1,h1 _ h.2⟩
 .exact⟨h.1,h.2.imp id (h2 _)⟩
 .exact⟨h.1,h.2.imp id (fun h=>h.imp (h2 _) (fun h=>⟨h1 _ h.1,h.2⟩))⟩
 .exact⟨h.1,h.2.imp id (h1 _)⟩
def rk (e:Int):Nat:=if(e-160)%2=0 then 160 else 161
def w_ (r c:Nat) (e:Int):D:=OP r (c*2^rk e) ((e-rk e)/2)
theorem UX {r c:Nat}{e:Int}(hc:c≠0) (h:GS (c*2^rk e) r):2^60<=r:=by
 rcases eJ r (2^60) with h1|h1
 .exfalso
  have h2:=h.2;have h3:(r+1)*(r+1)<=2^60*2^60:=eI h1 h1;have h4:1*2^rk e<=c*2^rk e:=bR _ (by omega);have h5:2^120<=2^rk e:=aG (by decide) (by unfold rk;split <;> omega);rw[<-aB]at h3;omega
 .exact h1
theorem mw (c d:D):(plus c d).Nf:=yZ _ _
theorem SW (c d:D):(times c d).Nf:=yZ _ _
theorem Ti (x y z:Int):∃T:Nat,0<=x+T/\0<=y+T/\0<=z+T:=⟨((-x).toNat+(-y).toNat+(-z).toNat),by omega,by omega,by omega⟩
theorem I6 {a b:D}{T:Nat}(h1:0<=a.e+T) (h2:0<=b.e+T):cmp a b<=0↔a.vl T<=b.vl T:=by
 rw[La _ _ T h1 h2];constructor
 .intro h
  have :¬0<a.vl T-b.vl T:=fun h3=>by rw[EV h3]at h;omega
  omega
 .intro h
  rcases jQ (a.vl T-b.vl T) 0 with h3|h3
  .rw[Ob h3];omega
  .have :a.vl T-b.vl T=0:=by omega
   rw[this];simp
end Go.Proofs.YtofdjfdnckmmmaaGreatDoor.Fm
namespace Go.Proofs.YtofdjfdnckmmmaaGreatDoor.Fl
def sX (a b:Int):Int:=if a<b then -1 else if b<a then 1 else 0
def oJ (x:Int):Int:=if 9223372036854775808<=x then 18446744073709551615-x else x+9223372036854775808
def mL (x y:Int):Int:=sX (oJ x) (oJ y)
def ra (x y:Int):Bool:=fe x==0 && fe y==0
def o' (x y:Int):Int:=if ra x y then sX (bO x) (bO y) else 0
def Bb (x y:Int):Bool:=ak x==5 || ak y==5
def rW (x y s:Int):Int:=if Bb x y then 9221120237041090560 else if mL x y*s<=0 then x else y
theorem KJ (a b:Int): -1<=sX a b/\sX a b<=1:=by unfold sX;omega
theorem Mt {x y s:Int}(h0:0<=x) (h1:x<=18446744073709551615) (y0:0<=y) (y1:y<=18446744073709551615):0<=rW x y s/\rW x y s<=18446744073709551615:=by
 unfold rW;omega
end Go.Proofs.YtofdjfdnckmmmaaGreatDoor.Fl
namespace Go.Proofs.YtofdjfdnckmmmaaGreatDoor.Fm
theorem K6 (r:Nat):aw r<9007199254740992*jK r:=by
 unfold aw jK;split
 .rename_i h
  have :=az (r/4503599627370496-1);omega
 .exact cS (by omega) (az _)
