import Derived.Test.YtofdjfdnckmmmaaGreatDoorAx
import Derived.Lib.ItoaNum
import Derived.Lib.Join
import Derived.Lib.Repeat
set_option linter.all false
open Go.Lib (decDigits)
namespace Go.Proofs.YtofdjfdnckmmmaaGreatDoor
def tW (n:Nat):List UInt8:=if n=0 then [] else decDigits n
def gJ (k r:Nat):List UInt8:=List.replicate (k-(decDigits r).length) 48++decDigits r
theorem m_ {r:Nat}(h:r<10):decDigits r=[UInt8.ofNat (48+r)]:=by rw[decDigits,dif_pos h]
theorem oC {r:Nat}(h:¬r<10):decDigits r=decDigits (r/10)++[UInt8.ofNat (48+r%10)]:=by
 conv=>lhs;rw[decDigits,dif_neg h]
theorem uT (r:Nat):1<=(decDigits r).length:=by
 by_cases h:r<10
 .rw[m_ h];simp
 .rw[oC h];simp
theorem nt:∀(k r:Nat),1<=k->r<10^k->(decDigits r).length<=k
 | 0,r,h,_=>by omega
 | 1,r,_,h=>by rw[m_ (by simpa using h)];simp
 |k+2,r,_,h=>by
  by_cases hr:r<10
  .rw[m_ hr];simp
  .rw[oC hr]
   have :=nt (k+1) (r/10) (by omega) (by rw[lU (by omega),<-bH];exact h);simp;omega
theorem Tr:∀k,1<=k->gJ k 0=List.replicate k 48
 |k+1,_=>by
  unfold gJ;rw[m_ (by omega)];simp [N0]
theorem ae1 (k r:Nat) (hk:1<=k) (hr:r<10^(k+1)):gJ (k+1) r=gJ k (r/10)++[UInt8.ofNat (48+r%10)]:=by
 by_cases h:r<10
 .rw[nY h,Tr k hk]
  unfold gJ;rw[m_ h,lV h];simp
 .unfold gJ
  rw[oC h];rw[ck,EH,<-px];rw[show k+1-((decDigits (r/10)).length+1)=k-(decDigits (r/10)).length by omega]
theorem KO:∀(k q r:Nat),1<=k->0<q->r<10^k->decDigits (q*10^k+r)=decDigits q++gJ k r
 | 0,q,r,h,_,_=>by omega
 | 1,q,r,_,hq,hr=>by
  have hr':r<10:=by simpa using hr
  rw[oC (by omega)];rw[show(q*10^1+r)/10=q by omega,show(q*10^1+r)%10=r by omega];unfold gJ;rw[m_ hr'];simp
 |k+2,q,r,_,hq,hr=>by
  have h10:0<10^(k+1):=fN (by omega);have e:10^(k+2)=10^(k+1)*10:=bH ..;have hr2:r/10<10^(k+1):=by rw[lU (by omega),<-e];exact hr
  have big:10<=q*10^(k+2):=by
   rw[e];have :1*(1*10)<=q*(10^(k+1)*10):=eI hq (eI h10 (Nat.le_refl _));omega
  rw[oC (by omega)]
  have e1:(q*10^(k+2)+r)/10=q*10^(k+1)+r/10:=by
   rw[e,<-aF,aW _ 10,zC (by omega)]
  have e2:(q*10^(k+2)+r)%10=r%10:=by
   rw[e,<-aF,aW _ 10,EI]
  rw[e1,e2,KO (k+1) q (r/10) (by omega) hq hr2,ae1 (k+1) r (by omega) hr,px]
def sE (n:Nat):List UInt8:=if n/1000000000=0 then decDigits (n%1000000000) else gJ 9 (n%1000000000)
theorem OY (n:Nat):(sE n).length<=9:=by
 have h:=nt 9 (n%1000000000) (by omega) (by have :=ew n (show 1000000000>0 by omega);simpa using this);unfold sE;split
 .exact h
 .unfold gJ;simp;omega
theorem Y7 (n:Nat) (hn:n≠0):tW n=tW (n/1000000000)++sE n:=by
 unfold tW sE;rw[ag hn];have hdm:=kt n 1000000000;have hr:=ew n (show 1000000000>0 by omega);by_cases h:n/1000000000=0
 .rw[aj h,aj h,ku]
  rw[h]at hdm;rw[show n%1000000000=n by omega]
 .rw[ag h,ag h]
  rw[<-KO 9 _ _ (by omega) (by omega) (by simpa using hr)];congr 1;rw[show(10:Nat)^9=1000000000 by decide];omega
theorem A3:∀l:List (List UInt8),Lib.join l []=l.flatten
 | []=>rfl
 | [x]=>by simp [Lib.join,List.intercalate]
 |x::y::l=>by
  have :=A3 (y::l);rw[Lib.join_cons];unfold Lib.joinTail;simp
theorem FQ (k:Nat):Lib.repeatL [48] k=List.replicate k 48:=by
 have :=Lib.repeatL_replicate 48 1 k
 simpa using this
theorem Gy (ps:List (List UInt8)) (h:∀p∈ps,p.length<=9):ps.flatten.length<=9*ps.length:=by
 induction ps with
 |nil=>simp
 |cons p ps ih=>
  have h1:=h p (by simp);have h2:=ih (fun q hq=>h q (by simp [hq]));simp only[List.flatten_cons,ck,ez];omega
