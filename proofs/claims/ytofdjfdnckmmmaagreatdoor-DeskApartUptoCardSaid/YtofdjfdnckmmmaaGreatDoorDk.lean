import Derived.Test.YtofdjfdnckmmmaaGreatDoorDe
import Derived.Test.YtofdjfdnckmmmaaGreatDoorBh
import Derived.Lib.ConvBytes
set_option linter.all false
set_option maxHeartbeats 32000000
set_option maxRecDepth 100000
open Go.Proofs.Tryz
open Go.Lib (hid decDigits)
namespace Go.Proofs.YtofdjfdnckmmmaaGreatDoor
open Nt Fm
def rq (neg:Bool) (N D:Nat) (mode:Int):Nat:=
 if N%D=0 then N/D else if dY neg (decide (N/D%2=1)) (aK ((N%D*2:Nat):Int) (D:Int)) mode=true then N/D+1 else N/D
def rc (N D:Nat):Bool:=decide (N%D≠0)
theorem Ym (neg:Bool) (N D:Nat) (mode:Int):N/D<=rq neg N D mode:=by unfold rq;split <;> (try split) <;> omega
theorem Nl (neg:Bool) (N D:Nat) (mode:Int):rq neg N D mode<=N/D+1:=by unfold rq;split <;> (try split) <;> omega
def pt (s:List UInt8) (p:Nat):List UInt8:=
 if p=0 then s else(List.replicate (p+1-s.length) 48++s).take ((List.replicate (p+1-s.length) 48++s).length-p)++46::(List.replicate (p+1-s.length) 48++s).drop ((List.replicate (p+1-s.length) 48++s).length-p)
theorem ae5 (q p:Nat):pt (decDigits q) p=if p=0 then decDigits q else(gJ (p+1) q).take ((gJ (p+1) q).length-p)++46::(gJ (p+1) q).drop ((gJ (p+1) q).length-p):=rfl
theorem WV (k q:Nat):(gJ k q).length=max k (decDigits q).length:=by unfold gJ;simp;omega
theorem WX (q p:Nat):(pt (decDigits q) p).length=if p=0 then(decDigits q).length else max (p+1) (decDigits q).length+1:=by
 rw[ae5];split
 .rfl
 .have :=WV (p+1) q
  simp only[ck,ez,dj,mS];omega
def cF (c:UInt8):Prop:=48<=c.toNat/\c.toNat<=57
theorem oW:∀u,∀c∈decDigits u,cF c:=by
 intro u
 induction u using Nat.strongRecOn with
 |_ u ih=>
  by_cases h:u<10
  .rw[m_ h]
   intro c hc;simp at hc;subst hc;unfold cF;simp [Fa];omega
  .rw[oC h]
   intro c hc;rw[gF]at hc;rcases hc with hc|hc
   .exact ih (u/10) (by omega) c hc
   .simp at hc;subst hc
    unfold cF;simp [Fa];omega
def num (a:Nat):List UInt8->Nat
 | []=>a
 |c::l=>if c=46 then num a l else num (a*10+(c.toNat-48)) l
theorem ad4 (a:Nat) (l m:List UInt8):num a (l++m)=num (num a l) m:=by
 induction l generalizing a with
 |nil=>rfl
 |cons c l ih=>simp only[i',num];split <;> exact ih _
theorem Xh:∀u,num 0 (decDigits u)=u:=by
 intro u
 induction u using Nat.strongRecOn with
 |_ u ih=>
  have key:∀a d,d<10->num a [UInt8.ofNat (48+d)]=a*10+d:=by
   intro a d hd;have e:(UInt8.ofNat (48+d)).toNat=48+d:=by simp [Fa];omega
   unfold num;rw[ag (by intro h;have :=congrArg UInt8.toNat h;rw[e]at this;simp at this;omega),e];unfold num;omega
  by_cases h:u<10
  .rw[m_ h,key 0 u h];omega
  .rw[oC h,ad4,ih (u/10) (by omega),key _ _ (ew _ (by omega))];omega
theorem qR {u v:Nat}(h:u<=v):(decDigits u).length<=(decDigits v).length:=by
 have h1:v<10^(decDigits v).length:=by rw[Lib.decDigits_length];exact Lib.lt_pow_nDigits v
 exact nt _ u (uT v) (de h h1)
open Nt Fm Fl
def dN (d:D) (t:Int):Nat:=d.m*10^t.toNat*2^d.e.toNat
def dD (d:D) (t:Int):Nat:=10^(-t).toNat*2^(-d.e).toNat
theorem qb (d:D) (t:Int):0<dD d t:=fm (fN (by omega)) (az _)
def dQ (d:D) (t mode:Int):Nat:=rq d.neg (dN d t) (dD d t) mode
def dC (d:D) (t:Int):Bool:=rc (dN d t) (dD d t)
def gW (x:Int):List UInt8:=if 9223372036854775808<=x then [45] else []
def pP (x places mode:Int):Int:=if dG x=true then(if(0<=mode/\mode<=4)/\0<=places/\places<=1100 then 0 else 1) else 4
def o8 (x places mode:Int):List UInt8:=if pP x places mode=0 then gW x++pt (decDigits (dQ (ai x) places mode)) places.toNat else []
def K9 (x places mode:Int):Bool:=decide (pP x places mode=0) && dC (ai x) places
theorem Nh (x places mode:Int):(dG x=false/\pP x places mode=4)\/(dG x=true/\¬((0<=mode/\mode<=4)/\0<=places/\places<=1100)/\pP x places mode=1)\/(dG x=true/\((0<=mode/\mode<=4)/\0<=places/\places<=1100)/\pP x places mode=0):=by
 unfold pP;cases dG x
 .left;simp
 .right
  by_cases h:(0<=mode/\mode<=4)/\0<=places/\places<=1100
  .right;exact⟨rfl,h,by rw[aj rfl,aj h]⟩
  .left;exact⟨rfl,h,by rw[aj rfl,ag h]⟩
def kK (v:Nat):UInt8:=if v<10 then UInt8.ofNat (48+v) else UInt8.ofNat (87+v)
def ef (M:Nat):Nat->List UInt8
 | 0=>[]
 |k+1=>kK (M/16^k%16)::ef M k
theorem wK (M:Nat):∀k,(ef M k).length=k
 | 0=>rfl
 |k+1=>by rw[ef,ez,wK M k]
def fq (x:Int):List UInt8:=if 9223372036854775808<=x then [45,48,120] else [48,120]
def il (p:Int):List UInt8:=(if 0<=p then [112,43] else [112])++Lib.itoa p
def cO (d:D):Int:=aC d.m+d.e-1
def fG (x:Int) (d:D) (places:Nat):List UInt8:=
 fq x++(if d.m=0 then [48]++(if 0<places then [46]++List.replicate places 48 else [])++[112,43,48]
  else [49]++(if 0<places then [46] else [])++ef (d.m*2^(4*places-(aC d.m-1))) places++il (cO d))
theorem J9 {l:List Nat}(hl:aI l) (k:Nat):val l/16^k%16=(l.getD (k/8) 0)/2^(4*(k%8))%16:=by
 have e16:(16:Nat)^k=2^(32*(k/8))*2^(4*(k%8)):=by
  rw[<-aB,show(16:Nat)=2^4 by decide,<-jU];congr 1;omega
 rw[e16,<-zU];have hs:4*(k%8)<=28:=by omega
 generalize 4*(k%8)=s at *;generalize k/8=j at *
 have h1:val l/2^(32*j)=val (l.drop j):=by
  have :=pj l j;by_cases hj:j<=l.length
  .have h2:=pj l j hj
   have h3:=fV (fun d hd=>hl d (kU hd):aI (l.take j));rw[dj,i_ hj]at h3;rw[h2,r_,zC (az _),nY h3,kW]
  .have h3:=fV hl
   rw[ue (by omega)];exact nY (aX h3 (aG (by omega) (by omega)))
 rw[h1];cases hd:l.drop j with
 |nil=>
  have :l.getD j 0=0:=by
   have :l.length<=j:=by
    exact List.drop_eq_nil_iff.1 hd
   simp [List.getD,kV this]
  rw[this];simp [val]
 |cons d r=>
  have hj:j<l.length:=by
   rcases eJ j l.length with h|h
   .exact h
   .rw[ue h]at hd;simp at hd
  have hdd:l.getD j 0=d:=by
   rw[t_ hj]at hd;simp only[Fb]at hd;simp [List.getD,hj,hd.1]
  rw[hdd];simp only[val]
  have e32:(4294967296:Nat)=2^s*(2^(28-s)*16):=by
   rw[<-aF,<-aB,show s+(28-s)=28 by omega]
  rw[e32,aF,r_ d,zC (az _),aF,fQ (2^(28-s)),EI]
open Go.RowKit
def fY (c:UInt8):Prop:=(48<=c.toNat/\c.toNat<=57)\/(97<=c.toNat/\c.toNat<=102)
def iM (c:UInt8):Nat:=if c.toNat<=57 then c.toNat-48 else c.toNat-87
theorem GQ {c:UInt8}(h:fY c):iM c<16:=by
 unfold fY at h;unfold iM;split <;> omega
def bD (a:Nat):List UInt8->Nat
 | []=>a
 |c::l=>bD (a*16+iM c) l
theorem tA (a:Nat):∀(l m:List UInt8),bD a (l++m)=bD (bD a l) m
 | [],_=>rfl
 |c::l,m=>by rw[i',bD,bD,tA]
theorem wF:∀(l:List UInt8) (a:Nat),(∀c∈l,fY c)->bD a l<(a+1)*16^l.length
 | [],a,_=>by simp [bD]
 |c::l,a,h=>by
  have h1:=wF l (a*16+iM c) (fun d hd=>h d (by simp [hd]));have h2:=GQ (h c (by simp));rw[bD,ez,bH];have h3:(a*16+iM c+1)*16^l.length<=((a+1)*16)*16^l.length:=bR _ (by omega);have h4:(a+1)*(16^l.length*16)=((a+1)*16)*16^l.length:=by rw[aW (16^l.length),aF]
  omega
theorem Ye (c:UInt8) (h:97<=c.toNat/\c.toNat<=102):bits .or .u8 ((c.toNat:Nat):Int) 32=(c.toNat:Int):=by
 have :c.toNat=97\/c.toNat=98\/c.toNat=99\/c.toNat=100\/c.toNat=101\/c.toNat=102:=by omega
 rcases this with h|h|h|h|h|h <;> (rw[h];decide)
theorem vH (w:World) (e:TypeId) (s:ByteArray):Below w.heap.size w (Lib.bytesWorld w e s):=by
 unfold Lib.bytesWorld;have h1:Below w.heap.size w (w.drew.alloc (.cells (Lib.bytesCells w e s) e)):=((Below.refl _ w).drew).alloc (by simp) _;refine⟨h1.os,h1.tape,h1.output,?_,?_⟩
 .simp [World.freeze]
 .intro b hb
  rw[<-h1.block b hb];unfold World.freeze;simp [zY];intro h;omega
theorem Ic (c:Nat) (w:World):Calls prog 185 #[.int .u8 (c:Int)] w fun e w'=>e=.returned (.int .u8 (bits .or .u8 (c:Int) 32))/\w=w':=by
 go_enter func185,ntmps185;go_wp2;go_ret;exact⟨rfl,rfl⟩
theorem Xw (bs:List UInt8) (t:ByteArray) (ht:t=⟨bs.toArray⟩) (h:∀c∈bs,fY c) (h1:1<=bs.length) (h8:bs.length<=16) (w:World):
  Calls prog 140 #[.string t,.int .i64 16,.int .i64 64] w fun e w'=>e=.returned (.tuple #[.int .u64 ((bD 0 bs:Nat):Int),.nilIface])/\w'=Lib.bytesWorld w 5 t:=by
 have hz:t.size=bs.length:=by rw[ht];rfl
 have hne:t.size≠0:=by omega
 have hemp:t.toList.isEmpty=false:=by
  rw[<-decide_eq_emptyBytes];exact e_ (fun h=>hne (by rw[h];rfl))
 have hcv:=Lib.run_convert_string_bytes (P:=prog) w 9 37 5 t (u:= .string) underlying9 underlying37 underlying5;have hB:∀j,j<t.size->(Lib.bytesWorld w 5 t).cell? ⟨w.heap.size,j,none⟩=some (.int .u8 (t.data.toList.getD j 0).toNat):=fun j hj=>Lib.bytesWorld_cell w 5 t j hj
 obtain⟨W1,hW1⟩:∃W1,W1=Lib.bytesWorld w 5 t:=⟨_,rfl⟩;rw[<-hW1]at hcv hB ⊢;clear hW1;have hd:t.data.toList=bs:=by rw[ht]
 rw[hd]at hB;obtain⟨R,hR⟩:∃R:Int,R=((bD 0 bs:Nat):Int):=⟨_,rfl⟩;rw[<-hR];have HR:=hid hR;have HH:=hid h
 have hmv:IntKind.u64.wrap (IntKind.u64.wrap 18446744073709551616-1)=18446744073709551615:=by
  rw[IntKind.wrap_u64,IntKind.wrap_u64];decide
 have h8':=h8;have HB:=hid hB;clear hR h ht hd hB;go_enter func140,ntmps140;go_wp2
 go_loop [12,13,101] (fun vu vn vi=>∃(k:Nat) (a:Int),vu=.bool false/\vn=.int .u64 a/\vi=.int .i64 k/\k<=t.size/\0<=a/\a<18446744073709551616/\Hid (a=((bD 0 (bs.take k):Nat):Int)/\True))
  (fun _ _ vi=>t.size-(intOf vi).toNat)
 case atStart=>exact⟨0,0,rfl,rfl,rfl,by omega,by omega,by omega,hid ⟨rfl,trivial⟩⟩
 case round=>
  obtain⟨k,a,rfl,rfl,rfl,hk,a0,a1,ha⟩:=hrel;by_cases hkn:k<t.size
  .have hc:=HB.out k hkn
   obtain⟨c,hcc⟩:∃c,c=bs.getD k 0:=⟨_,rfl⟩;rw[<-hcc]at hc;have hkb:k<bs.length:=by omega
   have hce:bs[k]=c:=by rw[hcc];simp [List.getD,hkb]
   have hx:fY c:=HH.out c (by rw[<-hce];exact zG hkb)
   have htk:bD 0 (bs.take (k+1))=bD 0 (bs.take k)*16+iM c:=by
    rw[pA hkb,tA,hce];rfl
   have hlt0:=wF (bs.take k) 0 (fun d hd=>HH.out d (kU hd));have hle:(16:Nat)^(bs.take k).length<=16^15:=aG (by omega) (by rw[dj];omega);have e168:(16:Nat)^15=1152921504606846976:=by decide
   have hlt:a<1152921504606846976:=by rw[ha.out.1];omega
   have hv:=GQ hx;have HN:Hid (a*16+((iM c:Nat):Int)=((bD 0 (bs.take (k+1)):Nat):Int)/\True):=hid ⟨by rw[htk,ha.out.1];omega,trivial⟩;have hlt2:a*16+((iM c:Nat):Int)<18446744073709551616:=by omega
   clear hlt0 hle htk e168 ha HB hce;rcases hx with hx|hx
   .obtain⟨d0,d1⟩:=hx
    have hvd:((iM c:Nat):Int)=(c.toNat:Int)-48:=by unfold iM;rw[aj d1];omega
    rw[hvd]at HN hlt2;clear hvd hv hcc;go_wp2;refine⟨⟨k+1,a*16+((c.toNat:Int)-48),rfl,(by first|rfl|(congr 1;omega)),(by first|rfl|(congr 1;omega)),by omega,by omega,hlt2,HN⟩,by simp [intOf];omega⟩
   .obtain⟨d0,d1⟩:=hx
    have hlw:=Ye c ⟨d0,d1⟩;have hvd:((iM c:Nat):Int)=(c.toNat:Int)-87:=by unfold iM;rw[ag (by omega)];omega
    rw[hvd]at HN hlt2;clear hvd hv hcc;go_wp2_with (go_at_call 185;refine(Ic _ _).mono ?_;rintro e w' ⟨rfl,rfl⟩;rw[hlw])
    refine⟨⟨k+1,a*16+((c.toNat:Int)-87),rfl,(by first|rfl|(congr 1;omega)),(by first|rfl|(congr 1;omega)),by omega,by omega,hlt2,HN⟩,by simp [intOf];omega⟩
  .obtain rfl:k=t.size:=by omega
   have ht2:bs.take t.size=bs:=by rw[hz,lX]
   have he:a=R:=by rw[ha.out.1,HR.out,ht2]
   subst he;clear ha ht2;go_wp2;go_ret2;exact⟨rfl,rfl⟩
theorem G7 (bs:List UInt8) (t:ByteArray) (ht:t=⟨bs.toArray⟩) (h:∀c∈bs,fY c) (h1:1<=bs.length) (h8:bs.length<=16) (w:World):
  Calls prog 106 #[.string t,.int .i64 16,.int .i64 64] w fun e w'=>e=.returned (.tuple #[.int .u64 ((bD 0 bs:Nat):Int),.nilIface])/\Below w.heap.size w w':=by
 have IP:=hid (fun w'=>Xw bs t ht h h1 h8 w');have HB:=hid (vH w 5 t);clear h ht;go_enter func106,ntmps106;go_wp2_with (go_at_call 140;refine(IP.out _).mono ?_;rintro e w1 ⟨rfl,rfl⟩)
 go_ret2;exact⟨rfl,HB.out⟩
