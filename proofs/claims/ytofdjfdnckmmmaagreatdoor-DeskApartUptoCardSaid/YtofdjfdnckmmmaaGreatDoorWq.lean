import Derived.Test.YtofdjfdnckmmmaaGreatDoorWfd
set_option linter.all false
set_option maxHeartbeats 8000000
set_option maxRecDepth 100000
open Go.Proofs.Tryz
open Go.Lib (hid trimPrefix indexByte)
namespace Go.Proofs.YtofdjfdnckmmmaaGreatDoor
open Go.RowKit Go.MapKept Go.ChangeMaps Nt Fm Fl
theorem vk {P:Program}{w:World}{t k e:TypeId}{b:Nat}{es:Array MapEntry}{clock:Nat}(ht:P.underlying t=some (.map k e)) (hk:P.underlying k=some (.int .u8)) (hb:w.heap[b]?=some (.map es clock)) (c:Int) (val:Value)
  (h1:Instr.findNow (.int .u8) (.int .u8 c) es.toList 0=some none):
  (Instr.mapUpdate t (.map (some b)) (.int .u8 c) val).run P w=.ok () (setBlock w b (.map (es.push ⟨.int .u8 c,val,clock⟩) (clock+1))):=by
 have hkey:IsKey (.int .u8) (.int .u8 c):=by simp [IsKey]
 simp [Instr.mapUpdate,run_underlying ht,MapKept.run_getObj_map hb,run_checkKey hk hkey,run_findKey hk h1,MapKept.run_setObj_map _ hb,Result.andThen,setBlock]
theorem tX {P:Program}{w:World}{t k e:TypeId}{b:Nat}{es:Array MapEntry}{clock:Nat}(ht:P.underlying t=some (.map k e)) (hk:P.underlying k=some (.int .u8)) (hb:w.heap[b]?=some (.map es clock)) (c:Int) (z:Value) (hz:(zeroValue e).run P w=.ok z w)
  {a:Option (Nat × Value)}(h1:Instr.findNow (.int .u8) (.int .u8 c) es.toList 0=some a):
  (Instr.lookup t (.map (some b)) (.int .u8 c) false).run P w=.ok (match a with|some (_,v)=>v|none=>z) w:=by
 have hkey:IsKey (.int .u8) (.int .u8 c):=by simp [IsKey]
 cases a with
 |none=>simp [Instr.lookup,run_underlying ht,MapKept.run_getObj_map hb,run_checkKey hk hkey,run_findKey hk h1,Result.andThen,hz]
 |some p=>obtain⟨i,v⟩:=p;simp [Instr.lookup,run_underlying ht,MapKept.run_getObj_map hb,run_checkKey hk hkey,run_findKey hk h1,Result.andThen]
def rf (n:Nat):List UInt8->Nat
 | []=>n
 |c::l=>rf (min (10*n+(c.toNat-48)) 100000) l
def rm (s:List UInt8):List UInt8:=s.takeWhile (fun c=>decide (48<=c.toNat/\c.toNat<=57))
def kG (s:List UInt8):List UInt8:=s.dropWhile (fun c=>decide (48<=c.toNat/\c.toNat<=57))
def rM (s:List UInt8):Nat:=rf 0 (rm s)
theorem KX (s:List UInt8):(kG s).length<=s.length:=(Fc _).length_le
theorem JR:∀(l:List UInt8) (n:Nat),n<=100000->rf n l<=100000
 | [],n,h=>h
 |c::l,n,h=>JR l _ (by omega)
theorem J' (c:UInt8) (l:List UInt8) (n:Nat) (hn:n=l.length+1):(⟨(c::l).toArray⟩:ByteArray).extract 1 n=⟨l.toArray⟩:=by
 subst hn;apply eK;simp [ir]
def G':Value->Nat
 | .string s=>s.size
 |_=> 0
theorem Iz (s:List UInt8) (S:ByteArray) (hS:S=⟨s.toArray⟩) (hl:s.length<=1000000000000000) (w:World):
  Calls prog 46 #[.string S] w fun e w'=>e=.returned (.tuple #[.int .i64 (rM s:Int),.string ⟨(kG s).toArray⟩])/\Below w.heap.size w w':=by
 have hz0:Hid (rf 0 (rm s)=rM s/\kG s=kG s):=hid ⟨rfl,rfl⟩;generalize rM s=N at *;generalize hR:kG s=R at *;have hz1:Hid (rf 0 (rm s)=N/\kG s=R):=hid ⟨hz0.out.1,hR⟩;clear hz0 hR;have B0:Hid (Below w.heap.size w w):=hid br0;go_enter func46,ntmps46;go_wp2;go_loopw [0,4] (fun u n wr=>∃(l:List UInt8) (T:ByteArray) (m:Nat),u=.string T/\Hid (T=⟨l.toArray⟩/\True)/\n=.int .i64 (m:Int)/\m<=100000/\l.length<=1000000000000000/\Hid (rf m (rm l)=N/\kG l=R)/\Hid (Below w.heap.size w wr)) (fun u _ _=>G' u)
 case atStart=>exact⟨s,S,0,rfl,hid ⟨hS,trivial⟩,rfl,by omega,hl,hz1,B0⟩
 case round=>
  obtain⟨l,T,m,rfl,hT,rfl,hm,hl,HR,B⟩:=hrel;have zT:T.size=l.length:=by rw[hT.out.1];rfl
  cases l with
  |nil=>
   have hE:T.toList.isEmpty=true:=by rw[ByteArray.toList_eq,hT.out.1];rfl
   have hT2:T=⟨#[]⟩:=hT.out.1;have h1:m=N:=by have :=HR.out.1;exact this
   have h2:R=[]:=by have :=HR.out.2;exact this.symm
   subst h1 h2 hT2;go_wp2;go_ret2;exact⟨rfl,B.out⟩
  |cons c l=>
   obtain⟨k,hk⟩:∃k,k=l.length:=⟨_,rfl⟩;rw[ez,<-hk]at zT;have hE:T.toList.isEmpty=false:=by rw[ByteArray.toList_eq,hT.out.1];rfl
   have hT0:0<T.size:=by omega
   have h0:((T[0]'hT0).toNat:Int)=(c.toNat:Int):=by
    have :∀(D:ByteArray) (h:0<D.size),D=⟨(c::l).toArray⟩->D[0]'h=c:=by
     intro D h e;subst e;rfl
    rw[this T hT0 hT.out.1]
   have hx:T.extract 1 (k+1)=⟨l.toArray⟩:=by rw[hT.out.1];exact J' c l _ (by omega)
   have hcb:=c.toNat_lt;obtain⟨T2,hT2⟩:∃T2:ByteArray,T2=⟨l.toArray⟩:=⟨_,rfl⟩;rw[<-hT2]at hx;have zT2:T2.size=k:=by rw[hT2,hk];rfl
   by_cases hd:48<=c.toNat/\c.toNat<=57
   .have e1:rf (min (10*m+(c.toNat-48)) 100000) (rm l)=N/\kG l=R:=by
     have :=HR.out;unfold rm kG at this;rw[wj (by simpa using hd),sj (by simpa using hd)]at this;exact this
    have H1:=hid e1;have HT2:=hid (⟨hT2,trivial⟩:T2=⟨l.toArray⟩/\True);have hlk:l.length<=1000000000000000:=by rw[ez]at hl;omega
    have hkk:k<=1000000000000000:=by omega
    obtain⟨d,hdd⟩:∃d,d=c.toNat:=⟨_,rfl⟩;rw[<-hdd]at h0 hd H1 hcb;obtain⟨hd1,hd2⟩:=hd;have g1:(48:Int)<=(d:Int):=by omega
    have g2:(d:Int)<=57:=by omega
    have hmn:Hid (min (10*(m:Int)+((d:Int)-48)) 100000=((min (10*m+(d-48)) 100000:Nat):Int)/\min (10*m+(d-48)) 100000<=100000):=hid (by omega);clear e1 HR hT hT2 hdd hl hk;go_wp2;go_roundw
    case rel=>exact⟨l,T2,min (10*m+(d-48)) 100000,rfl,HT2,by rw[<-hmn.out.1],hmn.out.2,hlk,H1,B⟩
    case measure=>
     show T2.size<T.size
     omega
   .have e1:m=N/\c::l=R:=by
     have :=HR.out;unfold rm kG at this;rw[uk (by simpa using hd),qJ (by simpa using hd)]at this;exact this
    obtain⟨rfl,rfl⟩:=e1;obtain⟨d,hdd⟩:∃d,d=c.toNat:=⟨_,rfl⟩;rw[<-hdd]at h0 hd hcb;have HT1:=hT;clear HR hT hT2 hdd hl hk hx zT2;by_cases hd1:48<=d
    .have g1:(48:Int)<=(d:Int):=by omega
     have g2:¬(d:Int)<=57:=by omega
     go_wp2;go_ret2;exact⟨by rw[HT1.out.1];rfl,B.out⟩
    .have g1:¬(48:Int)<=(d:Int):=by omega
     go_wp2;go_ret2;exact⟨by rw[HT1.out.1];rfl,B.out⟩
abbrev Fg:=Bool × Bool × Bool × Bool × Bool
def ij:Fg->List UInt8->Fg × List UInt8
 |st,[]=>(st,[])
 |(mi,pl,bl,ze,al),c::l=>
  if c=45 then ij (true,pl,bl,ze,al) l else if c=43 then ij (mi,true,bl,ze,al) l else if c=32 then ij (mi,pl,true,ze,al) l
  else if c=48 then ij (mi,pl,bl,true,al) l else if c=35 then ij (mi,pl,bl,ze,true) l else((mi,pl,bl,ze,al),c::l)
def jE (t:List UInt8):Fg × List UInt8:=ij (false,false,false,false,false) t
def wb (t:List UInt8):Nat:=rM (jE t).2
def lR (t:List UInt8):List UInt8:=kG (jE t).2
def zj (t:List UInt8):Bool:=Lib.hasPrefix (lR t) [46]
def sF (t:List UInt8):Int:=if zj t=true then(rM (trimPrefix (lR t) [46]):Int) else -1
def je (t:List UInt8):List UInt8:=if zj t=true then kG (trimPrefix (lR t) [46]) else lR t
def qm:List UInt8->Bool
 | [c]=>c==101 || c==102 || c==103 || c==97
 |_=>false
def UQ:List UInt8->Int
 |c::_=>(c.toNat:Int)
 | []=> 0
def lS (s:List UInt8):Int:=
 if Lib.hasPrefix s [37]=true then
  (if qm (je (trimPrefix s [37]))=true then(if 200<wb (trimPrefix s [37])\/100<sF (trimPrefix s [37]) then 1 else 0) else 5)
 else 5
def qD:kH:=⟨0,false,false,false,false,false,0,0⟩
def Ed (t:List UInt8):kH:=⟨UQ (je t),(jE t).1.1,(jE t).1.2.1,(jE t).1.2.2.1,(jE t).1.2.2.2.1,(jE t).1.2.2.2.2,wb t,sF t⟩
def p9 (s:List UInt8):kH:=if lS s=0 then Ed (trimPrefix s [37]) else qD
def tR (b:Nat):Array MapEntry:=
 #[⟨.int .u8 45,.pointer (some ⟨b,1,none⟩),0⟩,⟨.int .u8 43,.pointer (some ⟨b,2,none⟩),1⟩,⟨.int .u8 32,.pointer (some ⟨b,3,none⟩),2⟩,⟨.int .u8 48,.pointer (some ⟨b,4,none⟩),3⟩,⟨.int .u8 35,.pointer (some ⟨b,5,none⟩),4⟩]
theorem Xv (b:Nat) (c:Int):Instr.findNow (.int .u8) (.int .u8 c) (tR b).toList 0=
  if c=45 then some (some (0,.pointer (some ⟨b,1,none⟩))) else if c=43 then some (some (1,.pointer (some ⟨b,2,none⟩))) else if c=32 then some (some (2,.pointer (some ⟨b,3,none⟩)))
  else if c=48 then some (some (3,.pointer (some ⟨b,4,none⟩))) else if c=35 then some (some (4,.pointer (some ⟨b,5,none⟩))) else some none:=by
 unfold tR;simp only[Instr.findNow,Instr.sameNow];by_cases h1:c=45
 .simp [h1]
 by_cases h2:c=43
 .simp [h2]
 by_cases h3:c=32
 .simp [h3]
 by_cases h4:c=48
 .simp [h4]
 by_cases h5:c=35
 .simp [h5]
 rw[ag h1,ag h2,ag h3,ag h4,ag h5];have e1:(c==45)=false:=by simp [h1]
 have e2:(c==43)=false:=by simp [h2]
 have e3:(c==32)=false:=by simp [h3]
 have e4:(c==48)=false:=by simp [h4]
 have e5:(c==35)=false:=by simp [h5]
 simp [e1,e2,e3,e4,e5]
theorem uD {B:Nat}{w w':World}{b:Nat}{o:Obj}(h:Below B w w') (hb:B<=b):Below B w (setBlock w' b o):=by
 refine⟨h.os,h.tape,h.output,?_,fun k hk=>?_⟩
 .have :=h.size;simpa [setBlock] using this
 .rw[<-h.block k hk]
  unfold setBlock;simp [show b≠k by omega]
theorem a8.setBlock {w:World}{b:Nat}{T:TypeId}{v:Int}{mi pl bl ze al:Bool}{wd pr:Int}(h:a8 w b T v mi pl bl ze al wd pr) {b':Nat}(hb:b'≠b) (o:Obj):a8 (setBlock w b' o) b T v mi pl bl ze al wd pr:=by
 unfold a8 ChangeMaps.setBlock at *;simp [hb];exact h
theorem Se (w:World) (b b6:Nat) (hb:b≠b6) (hm:w.heap[b6]?=some (.map #[] 0)) (B0:Nat) (hB0:B0<=b6):
  ∃V1 V2 V3 V4 V5,(Instr.mapUpdate 85 (.map (some b6)) (.int .u8 45) (.pointer (some ⟨b,1,none⟩))).run prog w=.ok () V1/\
   (Instr.mapUpdate 85 (.map (some b6)) (.int .u8 43) (.pointer (some ⟨b,2,none⟩))).run prog V1=.ok () V2/\
   (Instr.mapUpdate 85 (.map (some b6)) (.int .u8 32) (.pointer (some ⟨b,3,none⟩))).run prog V2=.ok () V3/\
   (Instr.mapUpdate 85 (.map (some b6)) (.int .u8 48) (.pointer (some ⟨b,4,none⟩))).run prog V3=.ok () V4/\
   (Instr.mapUpdate 85 (.map (some b6)) (.int .u8 35) (.pointer (some ⟨b,5,none⟩))).run prog V4=.ok () V5/\
   V5.heap[b6]?=some (.map (tR b) 5)/\(∀k,k≠b6->V5.heap[k]?=w.heap[k]?)/\Below B0 w V5:=by
 have ht:=underlying85;have hk:=underlying5;have m1:=heap_setBlock_same hm (.map (#[].push ⟨.int .u8 45,.pointer (some ⟨b,1,none⟩),0⟩) (0+1));have r1:=vk ht hk hm 45 (.pointer (some ⟨b,1,none⟩)) rfl;have m2:=heap_setBlock_same m1 (.map ((#[].push ⟨.int .u8 45,.pointer (some ⟨b,1,none⟩),0⟩).push ⟨.int .u8 43,.pointer (some ⟨b,2,none⟩),0+1⟩) (0+1+1));have r2:=vk ht hk m1 43 (.pointer (some ⟨b,2,none⟩)) rfl;have m3:=heap_setBlock_same m2 (.map (((#[].push ⟨.int .u8 45,.pointer (some ⟨b,1,none⟩),0⟩).push ⟨.int .u8 43,.pointer (some ⟨b,2,none⟩),0+1⟩).push ⟨.int .u8 32,.pointer (some ⟨b,3,none⟩),0+1+1⟩) (0+1+1+1));have r3:=vk ht hk m2 32 (.pointer (some ⟨b,3,none⟩)) rfl;have m4:=heap_setBlock_same m3 (.map ((((#[].push ⟨.int .u8 45,.pointer (some ⟨b,1,none⟩),0⟩).push ⟨.int .u8 43,.pointer (some ⟨b,2,none⟩),0+1⟩).push ⟨.int .u8 32,.pointer (some ⟨b,3,none⟩),0+1+1⟩).push ⟨.int .u8 48,.pointer (some ⟨b,4,none⟩),0+1+1+1⟩) (0+1+1+1+1));have r4:=vk ht hk m3 48 (.pointer (some ⟨b,4,none⟩)) rfl;have m5:=heap_setBlock_same m4 (.map (tR b) 5);have r5:=vk ht hk m4 35 (.pointer (some ⟨b,5,none⟩)) rfl;refine⟨_,_,_,_,_,r1,r2,r3,r4,r5,m5,?_,?_⟩
 .intro k hk
  unfold ChangeMaps.setBlock;simp [gX hk]
 .exact uD (uD (uD (uD (uD br0 hB0) hB0) hB0) hB0) hB0
theorem Mr (w:World) (b b6:Nat) (hm:w.heap[b6]?=some (.map (tR b) 5)) (c:Int):
  (Instr.lookup 85 (.map (some b6)) (.int .u8 c) false).run prog w=
   .ok (if c=45 then .pointer (some ⟨b,1,none⟩) else if c=43 then .pointer (some ⟨b,2,none⟩) else if c=32 then .pointer (some ⟨b,3,none⟩) else if c=48 then .pointer (some ⟨b,4,none⟩) else if c=35 then .pointer (some ⟨b,5,none⟩) else .pointer none) w:=by
 have ht:=underlying85;have hk:=underlying5;have hz:(zeroValue 84).run prog w=.ok (.pointer none) w:=by first|exact zeroValue84 w|simp [go_sem]|kernel_rfl
 have hf:=Xv b c;split at hf
 .rename_i h;rw[tX ht hk hm c _ hz hf,aj h]
 rename_i g1;split at hf
 .rename_i h;rw[tX ht hk hm c _ hz hf,ag g1,aj h]
 rename_i g2;split at hf
 .rename_i h;rw[tX ht hk hm c _ hz hf,ag g1,ag g2,aj h]
 rename_i g3;split at hf
 .rename_i h;rw[tX ht hk hm c _ hz hf,ag g1,ag g2,ag g3,aj h]
 rename_i g4;split at hf
 .rename_i h;rw[tX ht hk hm c _ hz hf,ag g1,ag g2,ag g3,ag g4,aj h]
 rename_i g5;rw[tX ht hk hm c _ hz hf,ag g1,ag g2,ag g3,ag g4,ag g5]
theorem a8.put0 {w:World}{b:Nat}{T:TypeId}{v:Int}{mi pl bl ze al:Bool}{wd pr:Int}(h:a8 w b T v mi pl bl ze al wd pr) (x:Int):a8 (w.setCell ⟨b,0,none⟩ (.int .i64 x)) b T x mi pl bl ze al wd pr:=heap_set h
theorem a8.put1 {w:World}{b:Nat}{T:TypeId}{v:Int}{mi pl bl ze al:Bool}{wd pr:Int}(h:a8 w b T v mi pl bl ze al wd pr) (x:Bool):a8 (w.setCell ⟨b,1,none⟩ (.bool x)) b T v x pl bl ze al wd pr:=heap_set h
theorem a8.put2 {w:World}{b:Nat}{T:TypeId}{v:Int}{mi pl bl ze al:Bool}{wd pr:Int}(h:a8 w b T v mi pl bl ze al wd pr) (x:Bool):a8 (w.setCell ⟨b,2,none⟩ (.bool x)) b T v mi x bl ze al wd pr:=heap_set h
theorem a8.put3 {w:World}{b:Nat}{T:TypeId}{v:Int}{mi pl bl ze al:Bool}{wd pr:Int}(h:a8 w b T v mi pl bl ze al wd pr) (x:Bool):a8 (w.setCell ⟨b,3,none⟩ (.bool x)) b T v mi pl x ze al wd pr:=heap_set h
theorem a8.put4 {w:World}{b:Nat}{T:TypeId}{v:Int}{mi pl bl ze al:Bool}{wd pr:Int}(h:a8 w b T v mi pl bl ze al wd pr) (x:Bool):a8 (w.setCell ⟨b,4,none⟩ (.bool x)) b T v mi pl bl x al wd pr:=heap_set h
theorem a8.put5 {w:World}{b:Nat}{T:TypeId}{v:Int}{mi pl bl ze al:Bool}{wd pr:Int}(h:a8 w b T v mi pl bl ze al wd pr) (x:Bool):a8 (w.setCell ⟨b,5,none⟩ (.bool x)) b T v mi pl bl ze x wd pr:=heap_set h
theorem a8.put6 {w:World}{b:Nat}{T:TypeId}{v:Int}{mi pl bl ze al:Bool}{wd pr:Int}(h:a8 w b T v mi pl bl ze al wd pr) (x:Int):a8 (w.setCell ⟨b,6,none⟩ (.int .i64 x)) b T v mi pl bl ze al x pr:=heap_set h
theorem a8.put7 {w:World}{b:Nat}{T:TypeId}{v:Int}{mi pl bl ze al:Bool}{wd pr:Int}(h:a8 w b T v mi pl bl ze al wd pr) (x:Int):a8 (w.setCell ⟨b,7,none⟩ (.int .i64 x)) b T v mi pl bl ze al wd x:=heap_set h
theorem a8.other {w:World}{b:Nat}{T:TypeId}{v:Int}{mi pl bl ze al:Bool}{wd pr:Int}(h:a8 w b T v mi pl bl ze al wd pr) {b':Nat}(hb:b≠b') (i:Nat) (u:Value):a8 (w.setCell ⟨b',i,none⟩ u) b T v mi pl bl ze al wd pr:=(Below.heap_setCell _ _ _ _ hb).trans h
theorem a8.fr {w:World}{b:Nat}{T:TypeId}{v:Int}{mi pl bl ze al:Bool}{wd pr:Int}(h:a8 w b T v mi pl bl ze al wd pr) (i:Nat):w.frozen? ⟨b,i,none⟩=false:=by unfold a8 at h;simp [World.frozen?,h]
theorem vf {w:World}{b b' i:Nat}{u:Value}{o:Obj}(h:w.heap[b]?=some o) (hb:b≠b'):(w.setCell ⟨b',i,none⟩ u).heap[b]?=some o:=(Below.heap_setCell _ _ _ _ hb).trans h
theorem ZN {F:Fg}{L:List UInt8}{st:Fg}{l:List UInt8}(h:ij st l=(F,L)) (hl:∀c m,l=c::m->c≠45/\c≠43/\c≠32/\c≠48/\c≠35):F=st/\L=l:=by
 obtain⟨a,b,c,d,e⟩:=st;cases l with
 |nil=>simp only[ij]at h;exact⟨(Fx h).1.symm,(Fx h).2.symm⟩
 |cons x m=>
  obtain⟨h1,h2,h3,h4,h5⟩:=hl x m rfl;simp only[ij,ag h1,ag h2,ag h3,ag h4,ag h5]at h;exact⟨(Fx h).1.symm,(Fx h).2.symm⟩
theorem a8.frs {w:World}{b:Nat}{T:TypeId}{v:Int}{mi pl bl ze al:Bool}{wd pr:Int}(h:a8 w b T v mi pl bl ze al wd pr):w.frozen? ⟨b,0,none⟩=false/\w.frozen? ⟨b,1,none⟩=false/\w.frozen? ⟨b,2,none⟩=false/\w.frozen? ⟨b,3,none⟩=false/\w.frozen? ⟨b,4,none⟩=false/\w.frozen? ⟨b,5,none⟩=false/\w.frozen? ⟨b,6,none⟩=false/\w.frozen? ⟨b,7,none⟩=false:=⟨h.fr 0,h.fr 1,h.fr 2,h.fr 3,h.fr 4,h.fr 5,h.fr 6,h.fr 7⟩
theorem ae0 (S:ByteArray) (t:List UInt8) (T:ByteArray) (hT:Hid (T=⟨t.toArray⟩/\True)) (ht:t.length<=1000000000000000) (w:World) (mI pL bL zE aL:Bool) (L:List UInt8) (hF:Hid (ij (false,false,false,false,false) t=((mI,pL,bL,zE,aL),L)/\True))
  (n1 n2 n4 c4:Nat) (q1:n1<=100000) (q2:n2<=100000) (qc:c4<256) (R1 T3 R2 R4:ByteArray) (d:Bool) (p ix:Int) (z4:R4.size=n4) (b4:n4<=1000000000000000)
  (hd:(d=true/\R4=R2/\p=(n2:Int))\/(d=false/\R4=R1/\p= -1)) (h4:∀h:0<R4.size,((R4[0]'h).toNat:Int)=(c4:Int))
  (CP:Hid (∀w':World,Calls prog 45 #[.string S,.string ⟨#[37]⟩] w' fun e w2=>e=.returned (.tuple #[.string T,.bool true])/\w'=w2))
  (NU:Hid (∀(TL:ByteArray) (w':World),TL=⟨L.toArray⟩->Calls prog 46 #[.string TL] w' fun e w2=>e=.returned (.tuple #[.int .i64 (n1:Int),.string R1])/\Below w'.heap.size w' w2))
  (CQ:Hid (∀w':World,Calls prog 45 #[.string R1,.string ⟨#[46]⟩] w' fun e w2=>e=.returned (.tuple #[.string T3,.bool d])/\w'=w2))
  (NV:Hid (∀w':World,Calls prog 46 #[.string T3] w' fun e w2=>e=.returned (.tuple #[.int .i64 (n2:Int),.string R2])/\Below w'.heap.size w' w2))
  (IB:Hid (∀w':World,Calls prog 47 #[.string ⟨#[101,102,103,97]⟩,.int .u8 (c4:Int)] w' fun e w2=>e=.returned (.int .i64 ix)/\w'=w2))
  (V:Value) (E:Int) (hV:(n4≠1/\V=qD.v/\E=5)\/(n4=1/\ix<0/\V=qD.v/\E=5)\/(n4=1/\0<=ix/\200<n1/\V=qD.v/\E=1)\/(n4=1/\0<=ix/\100<p/\V=qD.v/\E=1)\/(n4=1/\0<=ix/\n1<=200/\p<=100/\V=.agg #[.int .i64 (c4:Int),.bool mI,.bool pL,.bool bL,.bool zE,.bool aL,.int .i64 (n1:Int),.int .i64 p]/\E=0)):
  Calls prog 20 #[.string S] w fun e w'=>e=.returned (.tuple #[V,.int .i64 E])/\Below w.heap.size w w':=by
 obtain⟨w1,hw1⟩:∃w1,w1=(w.alloc (.cells #[.int .i64 0,.bool false,.bool false,.bool false,.bool false,.bool false,.int .i64 0,.int .i64 0] 23)).alloc (.cells #[.int .i64 0,.bool false,.bool false,.bool false,.bool false,.bool false,.int .i64 0,.int .i64 (-1)] 23):=⟨_,rfl⟩;have hmm:= @run_makeMap prog;have hz:w1.heap.size=w.heap.size+1+1:=by rw[hw1,size_alloc,size_alloc]
 have hm:(w1.alloc (.map #[] 0)).heap[w.heap.size+1+1]?=some (.map #[] 0):=by rw[<-hz];exact heap_alloc_new w1 _
 obtain⟨V1,V2,V3,V4,V5,r1,r2,r3,r4,r5,m5,ks,B0⟩:=Se (w1.alloc (.map #[] 0)) (w.heap.size+1) (w.heap.size+1+1) (by omega) hm w.heap.size (by omega)
 have X5:Hid (a8 V5 (w.heap.size+1) 23 0 false false false false false 0 (-1)):=hid (by
  unfold a8;rw[ks _ (by omega),heap_alloc_old _ _ (by omega),hw1];have :=heap_alloc_new (w.alloc (.cells #[.int .i64 0,.bool false,.bool false,.bool false,.bool false,.bool false,.int .i64 0,.int .i64 0] 23)) (.cells #[.int .i64 0,.bool false,.bool false,.bool false,.bool false,.bool false,.int .i64 0,.int .i64 (-1)] 23);rw[show(w.alloc (.cells #[.int .i64 0,.bool false,.bool false,.bool false,.bool false,.bool false,.int .i64 0,.int .i64 0] 23)).heap.size=w.heap.size+1 from size_alloc _ _]at this;exact this)
 have X2:Hid (a8 V5 w.heap.size 23 0 false false false false false 0 0):=hid (by
  unfold a8;rw[ks _ (by omega),heap_alloc_old _ _ (by omega),hw1,heap_alloc_old _ _ (by rw[size_alloc];omega)];exact heap_alloc_new w _)
 have BB:Hid (Below w.heap.size w V5):=hid (by
  rw[hw1]at B0;have b1:=(Below.refl w.heap.size w).alloc le0 (.cells #[.int .i64 0,.bool false,.bool false,.bool false,.bool false,.bool false,.int .i64 0,.int .i64 0] 23);have b2:=b1.alloc (by rw[size_alloc];omega) (.cells #[.int .i64 0,.bool false,.bool false,.bool false,.bool false,.bool false,.int .i64 0,.int .i64 (-1)] 23);have b3:=b2.alloc (by rw[size_alloc,size_alloc];omega) (.map #[] 0);exact b3.trans B0)
 have M5:=hid m5;rw[hw1]at r1;clear ks B0 m5 hm hz hw1;have HF:=hid hF.out;clear hF;have HT:=hT;have HV:=hid hV;have HD:=hid hd;have H4:=hid h4;clear hT hV hd h4;go_enter func20,ntmps20;go_wp2_with (go_at_call 45;refine(CP.out _).mono ?_;rintro e w1 ⟨rfl,rfl⟩)
 clear r1 r2 r3 r4 r5 hmm;go_loopw [0] (fun u wr=>∃(l:List UInt8) (T:ByteArray) (mi pl bl ze al:Bool),u=.string T/\Hid (T=⟨l.toArray⟩/\True)/\l.length<=1000000000000000/\Hid (ij (mi,pl,bl,ze,al) l=((mI,pL,bL,zE,aL),L)/\True)/\Hid (a8 wr (w.heap.size+1) 23 0 mi pl bl ze al 0 (-1))/\Hid (a8 wr w.heap.size 23 0 false false false false false 0 0)/\Hid (wr.heap[w.heap.size+1+1]?=some (.map (tR (w.heap.size+1)) 5))/\Hid (Below w.heap.size w wr)) (fun u _=>G' u)
 case atStart=>exact⟨t,T,false,false,false,false,false,rfl,HT,ht,HF,X5,X2,M5,BB⟩
 case round=>
  clear X5 X2 M5 BB HF HT;obtain⟨l,T,mi,pl,bl,ze,al,rfl,hT,hl,HF,X5,X2,M5,B⟩:=hrel;have zT:T.size=l.length:=by rw[hT.out.1];rfl
  have zTb:T.size<=1000000000000000:=by omega
  obtain⟨c0,c1,c2,c3,c4',c5,c6,c7⟩:=X5.out.cells;by_cases hfl:∃c m,l=c::m/\(c=45\/c=43\/c=32\/c=48\/c=35)
  .obtain⟨c,m,rfl,hc⟩:=hfl
   obtain⟨k,hk⟩:∃k,k=m.length:=⟨_,rfl⟩;rw[ez,<-hk]at zT;have hE:T.toList.isEmpty=false:=by rw[ByteArray.toList_eq,hT.out.1];rfl
   have hT0:0<T.size:=by omega
   have h0:((T[0]'hT0).toNat:Int)=(c.toNat:Int):=by
    have :∀(D:ByteArray) (h:0<D.size),D=⟨(c::m).toArray⟩->D[0]'h=c:=by
     intro D h e;subst e;rfl
    rw[this T hT0 hT.out.1]
   have hx:T.extract 1 (k+1)=⟨m.toArray⟩:=by rw[hT.out.1];exact J' c m _ (by omega)
   have hlk:=Mr wr (w.heap.size+1) (w.heap.size+1+1) M5.out (c.toNat:Int);obtain⟨T2,hT2⟩:∃T2:ByteArray,T2=⟨m.toArray⟩:=⟨_,rfl⟩;rw[<-hT2]at hx;have zT2:T2.size=k:=by rw[hT2,hk];rfl
   have HF1:=HF.out.1;have HT2:=hid (⟨hT2,trivial⟩:T2=⟨m.toArray⟩/\True);have hll:m.length<=1000000000000000:=by rw[ez]at hl;omega
   have hkk:k<=1000000000000000:=by omega
   clear HF hl hT hT2 hk;rcases hc with rfl|rfl|rfl|rfl|rfl
   .have HF:=hid (⟨HF1,trivial⟩:ij (true,pl,bl,ze,al) m=((mI,pL,bL,zE,aL),L)/\True)
    replace hlk:Sem.run prog (Instr.lookup 85 (.map (some (w.heap.size+1+1))) (.int .u8 45) false) wr=.ok (.pointer (some ⟨w.heap.size+1,1,none⟩)) wr:=hlk;replace h0:((T[0]'hT0).toNat:Int)=45:=h0;clear HF1;have f:=X5.out.fr 1;go_wp2;go_roundw
    case rel=>exact⟨m,T2,true,pl,bl,ze,al,rfl,HT2,hll,HF,hid (X5.out.put1 true),hid (X2.out.other (by omega) _ _),hid (vf M5.out (by omega)),hid (B.out.setCell (by simp) _)⟩
    case measure=>show T2.size<T.size;omega
   .have HF:=hid (⟨HF1,trivial⟩:ij (mi,true,bl,ze,al) m=((mI,pL,bL,zE,aL),L)/\True)
    replace hlk:Sem.run prog (Instr.lookup 85 (.map (some (w.heap.size+1+1))) (.int .u8 43) false) wr=.ok (.pointer (some ⟨w.heap.size+1,2,none⟩)) wr:=hlk;replace h0:((T[0]'hT0).toNat:Int)=43:=h0;clear HF1;have f:=X5.out.fr 2;go_wp2;go_roundw
    case rel=>exact⟨m,T2,mi,true,bl,ze,al,rfl,HT2,hll,HF,hid (X5.out.put2 true),hid (X2.out.other (by omega) _ _),hid (vf M5.out (by omega)),hid (B.out.setCell (by simp) _)⟩
    case measure=>show T2.size<T.size;omega
   .have HF:=hid (⟨HF1,trivial⟩:ij (mi,pl,true,ze,al) m=((mI,pL,bL,zE,aL),L)/\True)
    replace hlk:Sem.run prog (Instr.lookup 85 (.map (some (w.heap.size+1+1))) (.int .u8 32) false) wr=.ok (.pointer (some ⟨w.heap.size+1,3,none⟩)) wr:=hlk;replace h0:((T[0]'hT0).toNat:Int)=32:=h0;clear HF1;have f:=X5.out.fr 3;go_wp2;go_roundw
    case rel=>exact⟨m,T2,mi,pl,true,ze,al,rfl,HT2,hll,HF,hid (X5.out.put3 true),hid (X2.out.other (by omega) _ _),hid (vf M5.out (by omega)),hid (B.out.setCell (by simp) _)⟩
    case measure=>show T2.size<T.size;omega
   .have HF:=hid (⟨HF1,trivial⟩:ij (mi,pl,bl,true,al) m=((mI,pL,bL,zE,aL),L)/\True)
    replace hlk:Sem.run prog (Instr.lookup 85 (.map (some (w.heap.size+1+1))) (.int .u8 48) false) wr=.ok (.pointer (some ⟨w.heap.size+1,4,none⟩)) wr:=hlk;replace h0:((T[0]'hT0).toNat:Int)=48:=h0;clear HF1;have f:=X5.out.fr 4;go_wp2;go_roundw
    case rel=>exact⟨m,T2,mi,pl,bl,true,al,rfl,HT2,hll,HF,hid (X5.out.put4 true),hid (X2.out.other (by omega) _ _),hid (vf M5.out (by omega)),hid (B.out.setCell (by simp) _)⟩
    case measure=>show T2.size<T.size;omega
   .have HF:=hid (⟨HF1,trivial⟩:ij (mi,pl,bl,ze,true) m=((mI,pL,bL,zE,aL),L)/\True)
    replace hlk:Sem.run prog (Instr.lookup 85 (.map (some (w.heap.size+1+1))) (.int .u8 35) false) wr=.ok (.pointer (some ⟨w.heap.size+1,5,none⟩)) wr:=hlk;replace h0:((T[0]'hT0).toNat:Int)=35:=h0;clear HF1;have f:=X5.out.fr 5;go_wp2;go_roundw
    case rel=>exact⟨m,T2,mi,pl,bl,ze,true,rfl,HT2,hll,HF,hid (X5.out.put5 true),hid (X2.out.other (by omega) _ _),hid (vf M5.out (by omega)),hid (B.out.setCell (by simp) _)⟩
    case measure=>show T2.size<T.size;omega
  .have hst:=ZN HF.out.1 (fun c m e=>by
    refine⟨?_,?_,?_,?_,?_⟩ <;> (intro g;exact hfl ⟨c,m,e,by simp [g]⟩))
   obtain⟨hst1,hst2⟩:=hst;injection hst1 with e1 hst1
   injection hst1 with e2 hst1
   injection hst1 with e3 hst1
   injection hst1 with e4 e5
   subst e1 e2 e3 e4 e5;have HL:=hid (⟨by rw[hst2];exact hT.out.1,trivial⟩:T=⟨L.toArray⟩/\True);clear hst2 HF;have HV2:=hid HV.out
   have hl2:l=[]\/∃c m,l=c::m:=by cases l with
    |nil=>exact Or.inl rfl
    |cons c m=>exact Or.inr ⟨c,m,rfl⟩
   rcases HD.out with⟨rfl,rfl,rfl⟩|⟨rfl,rfl,rfl⟩
   all_goals
    rcases HV2.out with⟨k4n,rfl,rfl⟩|⟨k4n,kx,rfl,rfl⟩|⟨k4n,kx,k1n,rfl,rfl⟩|⟨k4n,kx,kp,rfl,rfl⟩|⟨k4n,kx,k1n,kp,rfl,rfl⟩
    all_goals
     try have h40:=H4.out (by omega)
     rcases hl2 with rfl|⟨c,m,rfl⟩
     all_goals
      first
       |have hE:T.toList.isEmpty=true:=by rw[ByteArray.toList_eq,hT.out.1];rfl
       |(have hE:T.toList.isEmpty=false:=by rw[ByteArray.toList_eq,hT.out.1];rfl
         have hT0:0<T.size:=by rw[zT];simp
         have h0:((T[0]'hT0).toNat:Int)=(c.toNat:Int):=by
          have :∀(D:ByteArray) (h:0<D.size),D=⟨(c::m).toArray⟩->D[0]'h=c:=by
           intro D h e;subst e;rfl
          rw[this T hT0 hT.out.1]
         have hlk:=Mr wr (w.heap.size+1) (w.heap.size+1+1) M5.out (c.toNat:Int)
         have hn:∀k:UInt8,(k=45\/k=43\/k=32\/k=48\/k=35)->¬((c.toNat:Int)=(k.toNat:Int)):=by
          intro k hk e;refine hfl ⟨c,m,rfl,?_⟩;rw[uo.1 (Int.ofNat_inj.1 e)];exact hk
         rw[ag (show ¬(c.toNat:Int)=45 from hn 45 (by simp)),ag (show ¬(c.toNat:Int)=43 from hn 43 (by simp)),ag (show ¬(c.toNat:Int)=32 from hn 32 (by simp)),ag (show ¬(c.toNat:Int)=48 from hn 48 (by simp)),ag (show ¬(c.toNat:Int)=35 from hn 35 (by simp))]at hlk;clear hn;have hcb:=c.toNat_lt;generalize c.toNat=cc at h0 hlk hcb)
      clear hfl;go_wp2_with fail
      refine(NU.out _ _ HL.out.1).mono ?_;rintro e w3 ⟨rfl,hb⟩;replace X5:=hid (X5.out.below hb);replace X2:=hid (X2.out.below hb);replace B:=bt0 B hb;clear hb c0 c1 c2 c3 c4' c5 c6 c7 M5;obtain⟨c0,c1,c2,c3,c4',c5,c6,c7⟩:=X5.out.cells;have f6:=X5.out.fr 6;have f0:=X5.out.fr 0;obtain⟨k0,k1,k2,k3,k4,k5,k6,k7⟩:=X2.out.frs;obtain⟨g0,g1,g2,g3,g4,g5,g6,g7⟩:=X2.out.cells
      go_wp2_with (first
       |(go_at_call 45;refine(CQ.out _).mono ?_;rintro e w9 ⟨rfl,rfl⟩)
       |(go_at_call 47;refine(IB.out _).mono ?_;rintro e w9 ⟨rfl,rfl⟩))
      try
       refine(NV.out _).mono ?_;rintro e w4 ⟨rfl,hb⟩;replace X5:=hid ((X5.out.put6 _).below hb);replace X2:=hid ((X2.out.other (by omega) _ _).below hb);replace B:=hid (af (B.out.setCell (by simp) _) le0 hb);clear hb c0 c1 c2 c3 c4' c5 c6 c7 f6 f0 k0 k1 k2 k3 k4 k5 k6 k7 g0 g1 g2 g3 g4 g5 g6 g7;obtain⟨c0,c1,c2,c3,c4',c5,c6,c7⟩:=X5.out.cells;have f7:=X5.out.fr 7;have f0:=X5.out.fr 0;obtain⟨k0,k1,k2,k3,k4,k5,k6,k7⟩:=X2.out.frs;obtain⟨g0,g1,g2,g3,g4,g5,g6,g7⟩:=X2.out.cells;go_wp2_with (go_at_call 47;refine(IB.out _).mono ?_;rintro e w9 ⟨rfl,rfl⟩)
      all_goals first
       |(obtain⟨y0,y1,y2,y3,y4,y5,y6,y7⟩:=(((((((((X2.out.other (b':=w.heap.size+1) (by omega) 6 (.int .i64 (n1:Int))).put0 0).put1 false).put2 false).put3 false).put4 false).put5 false).put6 0).put7 0).cells
         refine bodyPost_ret (v:= .tuple #[.agg #[.int .i64 0,.bool false,.bool false,.bool false,.bool false,.bool false,.int .i64 0,.int .i64 0],.int .i64 5]) ?_ rfl ⟨rfl,?_⟩
         .simp [results,Tryz.results20,go_sem,y0,y1,y2,y3,y4,y5,y6,y7];done
         repeat (refine Below.setCell ?_ (by simp) _)
         exact B.out)
       |(obtain⟨y0,y1,y2,y3,y4,y5,y6,y7⟩:=((((((((((X2.out.other (b':=w.heap.size+1) (by omega) 6 (.int .i64 (n1:Int))).other (b':=w.heap.size+1) (by omega) 0 (.int .i64 (c4:Int))).put0 0).put1 false).put2 false).put3 false).put4 false).put5 false).put6 0).put7 0).cells
         refine bodyPost_ret (v:= .tuple #[.agg #[.int .i64 0,.bool false,.bool false,.bool false,.bool false,.bool false,.int .i64 0,.int .i64 0],.int .i64 1]) ?_ rfl ⟨rfl,?_⟩
         .simp [results,Tryz.results20,go_sem,y0,y1,y2,y3,y4,y5,y6,y7];done
         repeat (refine Below.setCell ?_ (by simp) _)
         exact B.out)
       |(obtain⟨y0,y1,y2,y3,y4,y5,y6,y7⟩:=((((((((((X2.out.other (b':=w.heap.size+1) (by omega) 6 (.int .i64 (n1:Int))).other (b':=w.heap.size+1) (by omega) 0 (.int .i64 (c4:Int))).put0 (c4:Int)).put1 mI).put2 pL).put3 bL).put4 zE).put5 aL).put6 (n1:Int)).put7 (-1)).cells
         refine bodyPost_ret (v:= .tuple #[.agg #[.int .i64 (c4:Int),.bool mI,.bool pL,.bool bL,.bool zE,.bool aL,.int .i64 (n1:Int),.int .i64 (-1)],.int .i64 0]) ?_ rfl ⟨rfl,?_⟩
         .simp [results,Tryz.results20,go_sem,y0,y1,y2,y3,y4,y5,y6,y7];done
         repeat (refine Below.setCell ?_ (by simp) _)
         exact B.out)
       |(obtain⟨y0,y1,y2,y3,y4,y5,y6,y7⟩:=(((((((((X2.out.other (b':=w.heap.size+1) (by omega) 7 (.int .i64 (n2:Int))).put0 0).put1 false).put2 false).put3 false).put4 false).put5 false).put6 0).put7 0).cells
         refine bodyPost_ret (v:= .tuple #[.agg #[.int .i64 0,.bool false,.bool false,.bool false,.bool false,.bool false,.int .i64 0,.int .i64 0],.int .i64 5]) ?_ rfl ⟨rfl,?_⟩
         .simp [results,Tryz.results20,go_sem,y0,y1,y2,y3,y4,y5,y6,y7];done
         repeat (refine Below.setCell ?_ (by simp) _)
         exact B.out)
       |(obtain⟨y0,y1,y2,y3,y4,y5,y6,y7⟩:=((((((((((X2.out.other (b':=w.heap.size+1) (by omega) 7 (.int .i64 (n2:Int))).other (b':=w.heap.size+1) (by omega) 0 (.int .i64 (c4:Int))).put0 0).put1 false).put2 false).put3 false).put4 false).put5 false).put6 0).put7 0).cells
         refine bodyPost_ret (v:= .tuple #[.agg #[.int .i64 0,.bool false,.bool false,.bool false,.bool false,.bool false,.int .i64 0,.int .i64 0],.int .i64 1]) ?_ rfl ⟨rfl,?_⟩
         .simp [results,Tryz.results20,go_sem,y0,y1,y2,y3,y4,y5,y6,y7];done
         repeat (refine Below.setCell ?_ (by simp) _)
         exact B.out)
       |(obtain⟨y0,y1,y2,y3,y4,y5,y6,y7⟩:=((((((((((X2.out.other (b':=w.heap.size+1) (by omega) 7 (.int .i64 (n2:Int))).other (b':=w.heap.size+1) (by omega) 0 (.int .i64 (c4:Int))).put0 (c4:Int)).put1 mI).put2 pL).put3 bL).put4 zE).put5 aL).put6 (n1:Int)).put7 (n2:Int)).cells
         refine bodyPost_ret (v:= .tuple #[.agg #[.int .i64 (c4:Int),.bool mI,.bool pL,.bool bL,.bool zE,.bool aL,.int .i64 (n1:Int),.int .i64 (n2:Int)],.int .i64 0]) ?_ rfl ⟨rfl,?_⟩
         .simp [results,Tryz.results20,go_sem,y0,y1,y2,y3,y4,y5,y6,y7];done
         repeat (refine Below.setCell ?_ (by simp) _)
         exact B.out)
       |(exfalso;omega)
theorem Nd (s:List UInt8):rM s<=100000:=JR _ _ (by omega)
theorem Jc:∀(st:Fg) (l:List UInt8),(ij st l).2.length<=l.length
 |st,[]=>by obtain⟨a,b,c,d,e⟩:=st;simp [ij]
 |(mi,pl,bl,ze,al),c::l=>by
  simp only[ij];have h:=fun st=>Jc st l
  repeat' split
  all_goals first
   |(refine ct (h _) ?_;simp)
   |exact ae _
theorem KI (s p:List UInt8):(trimPrefix s p).length<=s.length:=by
 unfold trimPrefix;split
 .simp
 .exact ae _
theorem Vp (S T:ByteArray) (w:World)
  (CP:Hid (∀w':World,Calls prog 45 #[.string S,.string ⟨#[37]⟩] w' fun e w2=>e=.returned (.tuple #[.string T,.bool false])/\w'=w2)):
  Calls prog 20 #[.string S] w fun e w'=>e=.returned (.tuple #[qD.v,.int .i64 5])/\Below w.heap.size w w':=by
 go_enter func20,ntmps20;go_wp2_with (go_at_call 45;refine(CP.out _).mono ?_;rintro e w1 ⟨rfl,rfl⟩)
 first
  |(go_ret2;exact⟨rfl,by go_grown⟩;done)
  |(refine bodyPost_ret (v:= .tuple #[.agg #[.int .i64 0,.bool false,.bool false,.bool false,.bool false,.bool false,.int .i64 0,.int .i64 0],.int .i64 5]) (by simp [results,Tryz.results20,go_sem]) rfl ?_
    exact⟨rfl,by go_grown⟩)
theorem QJ (l:List UInt8):(qm l=true/\∃c,l=[c]/\0<=indexByte [101,102,103,97] c)\/(qm l=false/\(l.length≠1\/∃c,l=[c]/\indexByte [101,102,103,97] c<0)):=by
 have key:∀c:UInt8,(qm [c]=true/\0<=indexByte [101,102,103,97] c)\/(qm [c]=false/\indexByte [101,102,103,97] c<0):=by
  intro c;have h:=TO c [101,102,103,97];by_cases g:c∈[101,102,103,97]
  .rw[fR g]at h
   refine Or.inl ⟨?_,gY h⟩;simp only[qm];simp at g;rcases g with rfl|rfl|rfl|rfl <;> rfl
  .rw[e_ g]at h
   have :=Ft h;refine Or.inr ⟨?_,by omega⟩;simp only[qm];simp at g;simp [g]
 match l with
 | []=>exact Or.inr ⟨rfl,Or.inl (by simp)⟩
 | [c]=>rcases key c with⟨h1,h2⟩|⟨h1,h2⟩
        .exact Or.inl ⟨h1,c,rfl,h2⟩
        .exact Or.inr ⟨h1,Or.inr ⟨c,rfl,h2⟩⟩
 |_::_::_=>exact Or.inr ⟨rfl,Or.inl (by simp)⟩
theorem Sc (s:List UInt8) (S:ByteArray) (hS:S=⟨s.toArray⟩) (hl:s.length<=1000000000000000) (w:World):
  Calls prog 20 #[.string S] w fun e w'=>e=.returned (.tuple #[(p9 s).v,.int .i64 (lS s)])/\Below w.heap.size w w':=by
 have CP:=fun w'=>qB s [37] S hS w'
 cases hp:Lib.hasPrefix s [37] with
 |false=>
  rw[hp]at CP;have h:=Vp S _ w (hid CP);unfold p9 lS;rw[hp];exact h
 |true=>
  rw[hp]at CP;obtain⟨t,ht⟩:∃t,t=trimPrefix s [37]:=⟨_,rfl⟩;rw[<-ht]at CP;have htl:t.length<=1000000000000000:=by have :=KI s [37];rw[ht];omega
  have l1:(jE t).2.length<=t.length:=Jc _ _;have l2:(lR t).length<=t.length:=ct (KX _) l1;have l3:(trimPrefix (lR t) [46]).length<=t.length:=ct (KI _ _) l2
  have l4:(je t).length<=t.length:=by unfold je;split;·exact ct (KX _) l3
                                      .exact l2
  have HF:=ae0 S t ⟨t.toArray⟩ (hid ⟨rfl,trivial⟩) htl w (jE t).1.1 (jE t).1.2.1 (jE t).1.2.2.1 (jE t).1.2.2.2.1 (jE t).1.2.2.2.2 (jE t).2 (hid ⟨rfl,trivial⟩)
   (wb t) (rM (trimPrefix (lR t) [46])) (je t).length ((je t).headD 0).toNat (Nd _) (Nd _) (UInt8.toNat_lt _) ⟨(lR t).toArray⟩ ⟨(trimPrefix (lR t) [46]).toArray⟩ ⟨(kG (trimPrefix (lR t) [46])).toArray⟩ ⟨(je t).toArray⟩ (zj t) (sF t) (indexByte [101,102,103,97] ((je t).headD 0)) rfl (by omega)
   (by
    unfold je sF;cases hd:zj t with
    |true=>exact Or.inl ⟨rfl,rfl,rfl⟩
    |false=>exact Or.inr ⟨rfl,rfl,rfl⟩)
   (by
    intro h
    have :∀(l:List UInt8) (h:0<(⟨l.toArray⟩:ByteArray).size),(⟨l.toArray⟩:ByteArray)[0]'h=l.headD 0:=by
     intro l h;cases l with
     |nil=>exact absurd h (by decide)
     |cons c m=>rfl
    rw[this])
   (hid CP)
   (hid (fun TL w' hTL=>Iz (jE t).2 TL hTL (by omega) w'))
   (hid (fun w'=>qB (lR t) [46] _ rfl w'))
   (hid (fun w'=>Iz (trimPrefix (lR t) [46]) _ rfl (by omega) w'))
   (hid (fun w'=>by
    have h:=Az ⟨#[101,102,103,97]⟩ (((je t).headD 0).toNat:Int) w';rw[gf,show((je t).headD 0).toNat.toUInt8=(je t).headD 0 from UInt8.ofNat_toNat]at h;exact h.mono fun e w2 k=>⟨k.1,k.2.symm⟩))
   (p9 s).v (lS s) (by
    have hE:lS s=if qm (je t)=true then(if 200<wb t\/100<sF t then 1 else 0) else 5:=by
     unfold lS;rw[aj hp,<-ht]
    have hFF:p9 s=if lS s=0 then Ed t else qD:=by unfold p9;rw[<-ht]
    rcases QJ (je t) with⟨v1,c,v2,v3⟩|⟨v1,v2⟩
    .rw[v1,aj rfl]at hE
     have hl1:(je t).length=1:=by rw[v2];rfl
     have hc:(je t).headD 0=c:=by rw[v2];rfl
     rw[<-hc]at v3;right;right
     by_cases h1:200<wb t
     .rw[aj (Or.inl h1)]at hE
      exact Or.inl ⟨hl1,v3,h1,by rw[hFF,hE];rfl,hE⟩
     by_cases h2:100<sF t
     .rw[aj (Or.inr h2)]at hE
      exact Or.inr (Or.inl ⟨hl1,v3,h2,by rw[hFF,hE];rfl,hE⟩)
     rw[ag (by omega)]at hE;refine Or.inr (Or.inr ⟨hl1,v3,by omega,by omega,?_,hE⟩);rw[hFF,hE,aj rfl];unfold Ed kH.v;rw[v2];rfl
    .rw[v1,ag (by simp)]at hE
     have h5:(p9 s).v=qD.v:=by rw[hFF,hE];rfl
     rcases v2 with v2|⟨c,v2,v3⟩
     .exact Or.inl ⟨v2,h5,hE⟩
     .exact Or.inr (Or.inl ⟨by rw[v2];rfl,by rw[v2];exact v3,h5,hE⟩))
  exact HF
