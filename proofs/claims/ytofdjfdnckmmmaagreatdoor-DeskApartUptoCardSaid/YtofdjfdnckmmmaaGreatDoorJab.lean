import Derived.Lib.FieldsP
import Derived.Lib.SplitLaws
import Derived.Test.YtofdjfdnckmmmaaGreatDoorDk
set_option linter.all false
namespace Go.Proofs.YtofdjfdnckmmmaaGreatDoor
open Go.Lib
def kN (c:Nat):Bool:=c==32 || c==9
def cB:List UInt8->List UInt8->List (List UInt8)
 |cur,[]=>if cur=[] then [] else [cur]
 |cur,b::t=>if b=32\/b=9 then(if cur=[] then [] else [cur])++cB [] t else cB (cur++[b]) t
def aR (c:UInt8):List UInt8->List (List UInt8)
 | []=>[[]]
 |b::t=>if b=c then []::aR c t else match aR c t with
  |x::xs=>(b::x)::xs
  | []=>[[b]]
def Nb (l:List UInt8):Prop:= ∀b∈l,b≠32/\b≠9
theorem vP:∀(m:List UInt8) (cur t:List UInt8),Nb m->cB cur (m++t)=cB (cur++m) t
 | [],cur,t,_=>by simp
 |b::m,cur,t,h=>by
  have hb:=h b (by simp);rw[i',cB,ag (by rintro(e|e) <;> simp [e]at hb),vP m _ t (fun x hx=>h x (by simp [hx]))];simp
theorem YP (s:ByteArray) (pos:Nat) (h:(s.get! pos).toNat<128):Utf8.decode s pos=((s.get! pos).toNat,1):=by
 rw[decode_at];unfold decodeN;rw[aj h]
theorem SO (n b0 b1 b2 b3:Nat) (hb:b0<256) (h:128<=b0) (hn:1<=n):
  128<=(decodeN n b0 b1 b2 b3).1/\1<=(decodeN n b0 b1 b2 b3).2/\(decodeN n b0 b1 b2 b3).2<=n/\(decodeN n b0 b1 b2 b3).2<=4/\(1<(decodeN n b0 b1 b2 b3).2->128<=b1)/\(2<(decodeN n b0 b1 b2 b3).2->128<=b2)/\(3<(decodeN n b0 b1 b2 b3).2->128<=b3):=by
 unfold decodeN;rw[ag (by omega)];repeat' split
 all_goals (simp only;omega)
theorem JM (s:ByteArray) (i:Nat) (h:i<s.size):s.data.toList[i]?=some (s.get! i):=by
 obtain⟨d⟩:=s;have h':i<d.size:=h
 show d.toList[i]?=some (d[i]!)
 rw[ai4,Om d i h',ai2 h']
theorem P' (s:ByteArray) (pos k:Nat) (h:∀j,pos<=j->j<pos+k->128<=(s.get! j).toNat) (hk:pos+k<=s.size):Nb ((s.data.toList.drop pos).take k):=by
 intro b hb;obtain⟨j,hj⟩:=Oq.1 hb;rw[zO]at hj;split at hj
 .rename_i hjk
  rw[List.getElem?_drop,JM s _ (by omega)]at hj;cases hj
  have :=h (pos+j) (by omega) (by omega);constructor <;> (intro e;rw[e]at this;revert this;decide)
 .cases hj
theorem Lc (s:ByteArray) (pos:Nat) (h:pos<s.size):s.data.toList.drop pos=s.get! pos::s.data.toList.drop (pos+1):=by
 have hl:pos<s.data.toList.length:=by rw[<-size_eq];exact h
 rw[t_ hl];congr 1;have :=JM s pos h;rw[fO hl]at this;exact od this
def kD (l:List UInt8) (x:Nat × Nat):List UInt8:=(l.drop x.1).take (x.2-x.1)
def oo (l:List UInt8) (st:Option Nat) (pos:Nat):List UInt8:=match st with
 |some a=>kD l (a,pos)
 |none=>[]
theorem Ku (s:ByteArray) (a pos:Nat) (h:a<pos) (hp:pos<=s.size):kD s.data.toList (a,pos)≠[]:=by
 intro e;have :=congrArg List.length e;have hz:=size_eq s;simp [kD,dj,mS]at this;simp at hz;omega
theorem Lq (l:List UInt8) (a pos k:Nat) (h:a<=pos):kD l (a,pos)++(l.drop pos).take k=kD l (a,pos+k):=by
 unfold kD;simp only;rw[show pos+k-a=(pos-a)+k by omega,List.take_add,qE,show a+(pos-a)=pos by omega]
theorem Tz (s:ByteArray):∀(f pos:Nat) (st:Option Nat) (acc:List (Nat × Nat)),s.size<=pos+f->pos<=s.size->(∀a,st=some a->a<pos)->
  (closeSpans s (spansFromP kN s f pos st acc)).map (kD s.data.toList)=acc.map (kD s.data.toList)++cB (oo s.data.toList st pos) (s.data.toList.drop pos):=by
 have fin:∀(st:Option Nat) (acc:List (Nat × Nat)),(∀a,st=some a->a<s.size)->
   (closeSpans s (acc,st)).map (kD s.data.toList)=acc.map (kD s.data.toList)++cB (oo s.data.toList st s.size) (s.data.toList.drop s.size):=by
  intro st acc hst;have hd:s.data.toList.drop s.size=[]:=ai5 (by rw[<-size_eq];exact ae _);rw[hd];cases st with
  |none=>simp [closeSpans,oo,cB]
  |some a=>simp [closeSpans,oo,cB,Ku s a s.size (hst a rfl) (Nat.le_refl _)]
 intro f
 induction f with
 |zero=>
  intro pos st acc h hp hst;obtain rfl:pos=s.size:=by omega
  exact fin st acc hst
 |succ f ih=>
  intro pos st acc h hp hst;by_cases hlt:pos<s.size
  .by_cases hb:(s.get! pos).toNat<128
   .have hd:=YP s pos hb
    unfold spansFromP;rw[aj hlt,hd,Lc s pos hlt];simp only;by_cases hbl:s.get! pos=32\/s.get! pos=9
    .have e:kN (s.get! pos).toNat=true:=by rcases hbl with e|e <;> (rw[e];rfl)
     rw[aj e,cB,aj hbl];cases st with
     |none=>
      simp only;rw[ih _ none acc (by omega) (by omega) (fun a h=>by cases h)];simp [oo]
     |some a=>
      simp only;rw[ih _ none _ (by omega) (by omega) (fun a h=>by cases h)];have hn:=Ku s a pos (hst a rfl) hp;simp [oo,hn]
    .have e:kN (s.get! pos).toNat=false:=by
      unfold kN;rw[wh,aH,aH];exact⟨fun e=>hbl (.inl (uo.1 e)),fun e=>hbl (.inr (uo.1 e))⟩
     have ht:[s.get! pos]=(s.data.toList.drop pos).take 1:=by rw[Lc s pos hlt];rfl
     rw[e,ag (by simp),cB,ag hbl];cases st with
     |none=>
      simp only;rw[ih _ (some pos) acc (by omega) (by omega) (fun a h=>by cases h;omega)];congr 2;rw[ht];simp [oo,kD]
     |some a=>
      simp only;rw[ih _ (some a) acc (by omega) (by omega) (fun b h=>by cases h;have :=hst a rfl;omega)];congr 2;rw[ht];exact(Lq _ _ _ _ (gn (hst a rfl))).symm
   .obtain⟨r,k,hrk⟩:∃r k,Utf8.decode s pos=(r,k):=⟨_,_,rfl⟩
    have hh:=SO (s.size-pos) (s.get! pos).toNat (s.get! (pos+1)).toNat (s.get! (pos+2)).toNat (s.get! (pos+3)).toNat (UInt8.toNat_lt _) (by omega) (by omega);rw[<-decode_at,hrk]at hh;obtain⟨h1,h2,h3,h4,h5,h6,h7⟩:=hh;simp only at h1 h2 h3 h4 h5 h6 h7
    have hnb:Nb ((s.data.toList.drop pos).take k):=P' s pos k (fun j j0 j1=>by
     have :j=pos\/j=pos+1\/j=pos+2\/j=pos+3:=by omega
     rcases this with e|e|e|e <;> subst e
     .omega
     .exact h5 (by omega)
     .exact h6 (by omega)
     .exact h7 (by omega)) (by omega)
    have e:kN r=false:=by
     unfold kN;rw[wh,aH,aH];omega
    have hsp:s.data.toList.drop pos=(s.data.toList.drop pos).take k++s.data.toList.drop (pos+k):=by
     rw[<-qE,nX]
    unfold spansFromP;rw[aj hlt,hrk];simp only;rw[e,ag (by simp)];cases st with
    |none=>
     simp only;rw[ih _ (some pos) acc (by omega) (by omega) (fun a h=>by cases h;omega)]
     conv=>rhs;rw[hsp,vP _ _ _ hnb]
     congr 2;simp [oo,kD]
    |some a=>
     simp only;rw[ih _ (some a) acc (by omega) (by omega) (fun b h=>by cases h;have :=hst a rfl;omega)]
     conv=>rhs;rw[hsp,vP _ _ _ hnb]
     congr 2;exact(Lq _ _ _ _ (gn (hst a rfl))).symm
  .obtain rfl:pos=s.size:=by omega
   rw[spansFromP_end kN s _ _ _ _ hlt];exact fin st acc hst
theorem O_ (s:ByteArray):(goFieldsP kN s).map (·.data.toList)=cB [] s.data.toList:=by
 have h:=Tz s s.size 0 none [] (by omega) (d_ _) (fun a h=>by cases h);simp only[List.map_nil,ku,oo,Oi]at h;unfold goFieldsP spansOfP;rw[<-h,Ff];congr 1;funext x;simp [kD,extract_data]
theorem vw (c:UInt8):∀l:List UInt8,(index l [c]= -1/\c ∉ l)\/∃m t,l=m++c::t/\c ∉ m/\index l [c]=(m.length:Int)
 | []=> .inl ⟨rfl,by simp⟩
 |b::l=>by
  unfold index;by_cases hb:b=c
  .subst hb
   exact .inr ⟨[],l,rfl,by simp,by simp⟩
  .have hp:[c].isPrefixOf (b::l)=false:=by simp [List.isPrefixOf,aH];exact fun e=>hb e.symm
   rw[hp];rcases vw c l with⟨h1,h2⟩|⟨m,t,h1,h2,h3⟩
   .exact .inl ⟨by simp [h1],by simp [h2];exact fun e=>hb e.symm⟩
   .refine .inr ⟨b::m,t,by rw[h1];rfl,by simp [h2];exact fun e=>hb e.symm,?_⟩
    rw[h3];have :((m.length:Int)== -1)=false:=by rw[aH];omega
    simp [this]
theorem It (c:UInt8):∀l:List UInt8,c ∉ l->aR c l=[l]
 | [],_=>rfl
 |b::l,h=>by
  simp at h;rw[aR,ag (fun e=>h.1 e.symm),It c l h.2]
theorem zy (c:UInt8):∀m t:List UInt8,c ∉ m->aR c (m++c::t)=m::aR c t
 | [],t,_=>by simp [aR]
 |b::m,t,h=>by
  simp at h;rw[i',aR,ag (fun e=>h.1 e.symm),zy c m t h.2]
theorem LH (c:UInt8):∀(n:Nat) (l:List UInt8),l.length<=n->splitK [c] 0 (Lib.count l [c]) l=aR c l
 |n,l,hn=>by
  rcases vw c l with⟨h1,h2⟩|⟨m,t,h1,h2,h3⟩
  .rw[count_miss h1,It c l h2];rfl
  .rw[count_hit (by simp) h3,r_,splitK,ag (by rw[h3,dV];omega),h3]
   have e1:l.take ((m.length:Int).toNat+0)=m:=by rw[h1];simp
   have e2:l.drop (m.length+[c].length)=t:=by rw[h1];simp
   rw[e1];have e3:l.drop ((m.length:Int).toNat+[c].length)=t:=by simpa using e2
   rw[e3,e2];cases n with
   |zero=>rw[h1]at hn;simp at hn
   |succ n=>
    rw[LH c n t (by rw[h1]at hn;simp at hn;omega),h1,zy c m t h2]
theorem af3 (c:UInt8) (s:ByteArray):(splitB ⟨#[c]⟩ 0 (countB s ⟨#[c]⟩) s).map (·.data.toList)=aR c s.data.toList:=by
 rw[splitB_data];exact LH c _ _ (Nat.le_refl _)
theorem Av {c:UInt8} :∀ {l:List UInt8},c ∉ l->l.takeWhile (· !=c)=l
 | [],_=>rfl
 |b::l,h=>by
  simp at h;rw[wj (by simp;exact fun e=>h.1 e.symm),Av h.2]
theorem ZD (c:UInt8) (l:List UInt8):(cut l [c]).1=l.takeWhile (· !=c):=by
 unfold cut;rcases vw c l with⟨h1,h2⟩|⟨m,t,h1,h2,h3⟩
 .rw[ag (by rw[h1];decide)]
  exact(Av h2).symm
 .rw[aj (by rw[h3];omega),h3]
  simp only[gf];rw[h1,List.take_left' rfl,Aa (by intro b hb;simp;exact fun e=>h2 (e ▸ hb))];simp
theorem vZ (c:UInt8):∀l:List UInt8,(aR c l).length<=l.length+1
 | []=>by simp [aR]
 |b::t=>by
  have h:=vZ c t;rw[aR];split
  .simp;omega
  .split
   .rename_i x xs e;rw[e]at h;simp at h ⊢;omega
   .simp
def qC (d:Nat):UInt8:=if d<10 then UInt8.ofNat (48+d) else UInt8.ofNat (87+d)
def cV (x:Nat):Nat->List UInt8
 | 0=>[]
 |n+1=>cV (x/16) n++[qC (x%16)]
theorem sJ:∀(n x:Nat),(cV x n).length=n
 | 0,_=>rfl
 |n+1,x=>by simp [cV,sJ n]
theorem Ll (d:Nat) (h:d<16):fY (qC d)/\iM (qC d)=d:=by
 have :d=0\/d=1\/d=2\/d=3\/d=4\/d=5\/d=6\/d=7\/d=8\/d=9\/d=10\/d=11\/d=12\/d=13\/d=14\/d=15:=by omega
 rcases this with h|h|h|h|h|h|h|h|h|h|h|h|h|h|h|h <;> subst h <;> exact⟨by unfold fY;decide,by decide⟩
theorem JG:∀(n x:Nat),∀c∈cV x n,fY c
 | 0,_,c,h=>by simp [cV]at h
 |n+1,x,c,h=>by
  simp [cV]at h;rcases h with h|h
  .exact JG n _ c h
  .subst h;exact(Ll _ (ew _ (by omega))).1
theorem af7:∀(n x:Nat),x<16^n->bD 0 (cV x n)=x
 | 0,x,h=>by simp at h;subst h;rfl
 |n+1,x,h=>by
  rw[cV,tA,af7 n (x/16) (by rw[bH]at h;omega)];simp only[bD];rw[(Ll _ (ew _ (by omega))).2];omega
theorem CR:∀n,cV 0 n=List.replicate n 48
 | 0=>rfl
 |n+1=>by rw[cV,CR n,N0];rfl
theorem KS (m:Nat):∀(n x:Nat),x<16^n->cV x (m+n)=List.replicate m 48++cV x n
 | 0,x,h=>by simp at h;subst h;rw[CR,CR];simp
 |n+1,x,h=>by
  rw[<-qG,cV,KS m n (x/16) (by rw[bH]at h;omega),cV,px]
def lK (x:Int):List UInt8:=35::cV x.toNat 16
def Wd (l:List UInt8):Prop:=l≠[]/\∀b∈l,b≠10/\b≠59/\b≠32/\b≠9
theorem Wd.nb {l:List UInt8}(h:Wd l):Nb l:=fun b hb=>⟨(h.2 b hb).2.2.1,(h.2 b hb).2.2.2⟩
theorem Wd.n10 {l:List UInt8}(h:Wd l):(10:UInt8) ∉ l:=fun hb=>(h.2 10 hb).1 rfl
theorem Wd.n59 {l:List UInt8}(h:Wd l):(59:UInt8) ∉ l:=fun hb=>(h.2 59 hb).2.1 rfl
theorem GN (x:Int):Wd (lK x):=by
 refine⟨by simp [lK],fun b hb=>?_⟩;simp [lK]at hb;rcases hb with rfl|hb
 .decide
 .have :=JG 16 _ b hb
  unfold fY at this;refine⟨?_,?_,?_,?_⟩ <;> (intro e;subst e;revert this;decide)
