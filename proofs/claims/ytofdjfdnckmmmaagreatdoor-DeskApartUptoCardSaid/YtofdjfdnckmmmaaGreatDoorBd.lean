import Derived.Test.YtofdjfdnckmmmaaGreatDoorNa
import Derived.Shelf.Spec.TrailingZeros
set_option linter.all false
set_option maxHeartbeats 2000000
open Go.Proofs.Tryz
open Go.Lib (hid)
namespace Go.Proofs.YtofdjfdnckmmmaaGreatDoor
open Go.RowKit Nt Fm
def DV (w:World) (v:Value) (d:D):Prop:= ∃s,v=.agg #[.bool d.neg,s,.int .i64 d.e]/\NV w s d.m
theorem DV.below {w w':World}{v:Value}{d:D}(h:DV w v d) (hb:Below w.heap.size w w'):DV w' v d:=by
 obtain⟨s,h1,h2⟩:=h;exact⟨s,h1,h2.below hb⟩
theorem DV.zero (w:World):DV w (.agg #[.bool false,.slice none 0 0,.int .i64 0]) nz:=⟨_,rfl,NV.nil w⟩
def iR (w:World) (d:D) (e:Ending) (w':World):Prop:= ∃v,e=.returned v/\DV w' v d/\Below w.heap.size w w'
theorem tK {w w1:World}{x y z:Value}{T:TypeId}(hb:Below (w.alloc (.cells #[x,y,z] T)).heap.size (w.alloc (.cells #[x,y,z] T)) w1):
  w1.cell? ⟨w.heap.size,0,none⟩=some x/\w1.cell? ⟨w.heap.size,1,none⟩=some y/\w1.cell? ⟨w.heap.size,2,none⟩=some z/\
  w1.frozen? ⟨w.heap.size,0,none⟩=false/\w1.frozen? ⟨w.heap.size,1,none⟩=false/\w1.frozen? ⟨w.heap.size,2,none⟩=false:=by
 obtain⟨hc,hf⟩:=L8 hb;refine⟨?_,?_,?_,?_,?_,?_⟩
 .rw[hc _ _ (by simp)];simp [go_sem]
 .rw[hc _ _ (by simp)];simp [go_sem]
 .rw[hc _ _ (by simp)];simp [go_sem]
 .rw[hf _ _ (by simp)];simp [go_sem]
 .rw[hf _ _ (by simp)];simp [go_sem]
 .rw[hf _ _ (by simp)];simp [go_sem]
def dZ (v:Value):Prop:= ∀n,v≠ .int .u32 n
theorem NV.other {w1 w2:World}{B:Nat}(hB:∀o,match w1.cell? ⟨B,o,none⟩ with|some v=>dZ v|none=>True) (hs:w1.heap.size<=w2.heap.size) (ho:∀b,b≠B->w2.heap[b]?=w1.heap[b]?) {v:Value}{n:Nat}(h:NV w1 v n):NV w2 v n:=by
 obtain⟨l,h1,h2,h3,ao,cap,h4,h5,h6,h7⟩:=h;refine⟨l,h1,h2,h3,ao,cap,h4,h5,h6,?_⟩;rcases h7 with h7|⟨b,off,h7,h8,h9⟩
 .exact Or.inl h7
 .by_cases hl:l.length<=0
  .exact Or.inl hl
  .refine Or.inr ⟨b,off,h7,aX h8 hs,fun i hi=>?_⟩
   have hne:b≠B:=by
    intro e;subst e;have a:=h9 0 (by omega);have b2:=hB (off+0);rw[a]at b2;exact b2 _ rfl
   rw[<-h9 i hi];exact World.cell?_of_block (w:=w1) (ho b hne)
theorem Qk {w w1:World}{x y z:Value}{T:TypeId}(hb:Below (w.alloc (.cells #[x,y,z] T)).heap.size (w.alloc (.cells #[x,y,z] T)) w1) (hx:dZ x) (hy:dZ y) (hz:dZ z) (o:Nat):
  match w1.cell? ⟨w.heap.size,o,none⟩ with|some v=>dZ v|none=>True:=by
 obtain⟨hc,hf⟩:=L8 hb;rw[hc _ _ (by simp)];have hg:(w.alloc (.cells #[x,y,z] T)).heap[w.heap.size]?=some (.cells #[x,y,z] T (0,0)):=heap_alloc_new w _;rw[cell_of_row _ _ _ _ _ _ hg]
 match o with
 | 0=>simpa using hx
 | 1=>simpa using hy
 | 2=>simpa using hz
 |o+3=>simp
theorem NV.store3 {w w1:World}{x y z:Value}{T:TypeId}(hb:Below (w.alloc (.cells #[x,y,z] T)).heap.size (w.alloc (.cells #[x,y,z] T)) w1) (hx:dZ x) (hy:dZ y) (hz:dZ z) (x' y' z':Value)
  {v:Value}{n:Nat}(h:NV w1 v n):NV (((w1.setCell ⟨w.heap.size,0,none⟩ x').setCell ⟨w.heap.size,1,none⟩ y').setCell ⟨w.heap.size,2,none⟩ z') v n:=by
 refine h.other (Qk hb hx hy hz) (by simp [World.setCell]) (fun b hne=>?_);rw[Below.heap_setCell _ _ _ _ hne,Below.heap_setCell _ _ _ _ hne,Below.heap_setCell _ _ _ _ hne]
theorem Below.store3 {w w1:World}{x y z:Value}{T:TypeId}(hb:Below (w.alloc (.cells #[x,y,z] T)).heap.size (w.alloc (.cells #[x,y,z] T)) w1) (x' y' z':Value):
  Below w.heap.size w (((w1.setCell ⟨w.heap.size,0,none⟩ x').setCell ⟨w.heap.size,1,none⟩ y').setCell ⟨w.heap.size,2,none⟩ z'):=
 ((((br0.alloc le0 _).trans (hb.mono (by simp))).setCell le0 _).setCell le0 _).setCell le0 _
theorem ml (b:Bool):dZ (.bool b):=by intro n h;cases h
theorem dO (ao:Option Addr) (n c:Nat):dZ (.slice ao n c):=by intro m h;cases h
theorem kq (e:Int):dZ (.int .i64 e):=by intro m h;simp at h
def aQ (w:World):Prop:= ∀j,j<32->w.cell? ⟨1,j,none⟩=some (.int .u8 ((Lib.deBruijn32tab.getD j 0:Nat):Int))
theorem aQ.size {w:World}(h:aQ w):1<w.heap.size:=World.block_lt_of_cell? w ⟨1,0,none⟩ (h 0 (by decide))
theorem aQ.below {w w':World}(h:aQ w) (hb:Below w.heap.size w w'):aQ w':=fun j hj=>(hb.cell (p:=⟨1,j,none⟩) h.size).trans (h j hj)
theorem aQ.alloc {w:World}(h:aQ w) (o:Obj):aQ (w.alloc o):=h.below (br0.alloc le0 o)
theorem aQ.drew {w:World}(h:aQ w):aQ w.drew:=h.below br0.drew
theorem RH (x k idx:Nat) (w:World) (hx0:((x:Int)==0)=false)
  (key:bits BinOp.and IntKind.u32 (x:Int) (-(x:Int)%4294967296)*125613361%4294967296/134217728=(idx:Int))
  (hi:idx<32) (hk:k<32) (hcell:w.cell? ⟨1,idx,none⟩=some (.int .u8 (k:Int))):
  Calls prog 105 #[.int .u32 x] w fun e w'=>e=.returned (.int .i64 k)/\w'=w:=by
 go_enter func105,ntmps105;go_wp2_with (simp only[key])
 go_ret;exact⟨rfl,rfl⟩
theorem Z' (x:Nat) (hx0:x≠0) (hx:x<4294967296) (w:World) (hT:aQ w):
  Calls prog 105 #[.int .u32 x] w fun e w'=>e=.returned (.int .i64 ((Lib.ctz 32 x:Nat):Int))/\w'=w:=by
 obtain⟨hlow,hk⟩:=Lib.lowest_bit 32 x hx0 hx;obtain⟨hi,htab⟩:=Lib.deBruijn32_at _ hk;have hcell:=hT _ hi;rw[htab]at hcell;exact RH x _ _ w (by simp;omega) (tz32_key x _ hx hx0 hlow) hi hk hcell
theorem af4 {l:List Nat}{j d:Nat}(hj:j<l.length) (hd:d=l.getD j 0) (hd0:d≠0) (hd1:d<4294967296) (h0:val (l.take j)=0):
  ctz (val l)=32*j+Lib.ctz 32 d/\val l≠0:=by
 have e1:l[j]=d:=by rw[hd];simp [List.getD,hj]
 have hv:=pj l j (by omega);rw[h0,jw,qU l j hj,e1]at hv;obtain⟨m,hm,hlt⟩:=Lib.ctzFrom_spec 32 d (by omega) hd1;have hc:Lib.ctz 32 d=Lib.ctzFrom 32 d:=by unfold Lib.ctz;rw[ag hd0]
 rw[<-hc]at hm hlt;generalize Lib.ctz 32 d=t at *
 have e2:d+4294967296*val (l.drop (j+1))=2^t*(2*(m+2^(31-t)*val (l.drop (j+1)))+1):=by
  have :(4294967296:Nat)=2^t*(2*2^(31-t)):=by
   rw[<-zX,<-aB,show t+(31-t).succ=32 by omega]
  rw[hm,this,cP 2,aF (2^t),<-cP];congr 1;rw[aF];omega
 have h1:val l≠0:=by
  rw[hv];intro h;rcases pB.1 h with h|h
  .have :=az (32*j);omega
  .omega
 refine⟨?_,h1⟩;obtain⟨q,h3,h4⟩:=oR h1;rw[e2,<-aF,<-aB]at hv;have h5:q*2^ctz (val l)=(2*(m+2^(31-t)*val (l.drop (j+1)))+1)*2^(32*j+t):=by rw[<-h3,hv,aW]
 exact(KF h4 (by omega) h5).2
theorem MG {l:List Nat}{j:Nat}(hj:j<l.length) (h:val (l.take j)=0) (h0:l.getD j 0=0):val (l.take (j+1))=0:=by
 have e1:l[j]=l.getD j 0:=by simp [List.getD,hj]
 rw[iX l j hj,h,e1,h0];simp
theorem ad2 {l:List Nat}(hl:dA l) (h:val (l.take l.length)=0):l.length=0:=by
 rw[lX]at h;rw[val_eq_zero hl h];rfl
theorem Zf {neg:Bool}{a k:Nat}{e:Int}(h:a≠0) (hk:ctz a=k):norm neg a e=⟨neg,a/2^k,e+k⟩:=by
 unfold norm;rw[ag h,hk]
theorem iU (neg:Bool) (va:Value) (a k0:Nat) (x:Int) (w:World) (hT:aQ w) (ha:NV w va a) (hka:a<2^k0) (hk0:k0<=120000000000000) (h0: -4000000000000000000<=x) (h1:x<=4000000000000000000):
  Calls prog 62 #[.bool neg,va,.int .i64 x] w (iR w (norm neg a x)):=by
 have haw:=ha;obtain⟨l,hl,el,⟨-,aa,ca,rfl,hca,hma,hA⟩,hll⟩:=ha.len hka;unfold maxLen at hma;have EL:=hid el;have HKA:=hid hka;clear el hka;have hll2:l.length<=4000000000000:=by omega
 by_cases hl0:l.length<=0
 .have e0:norm neg a x=nz:=by
   have :a=0:=by rw[<-EL.out,gp.1 (by omega:l.length=0)];rfl
   rw[this];rfl
  rw[e0];clear e0 hA haw;go_enter func62,ntmps62;go_wp2
  go_returns
  exact⟨_,rfl,DV.zero _,by go_grown⟩
 .rcases hA with hP|⟨bp,op,rfl,hbp,hcP⟩
  .exact absurd hP hl0
  have hl1:0<l.length:=by omega
  clear hl0;have HAW:=hid haw;have HTT:=hid hT;clear haw hT;go_enter func62,ntmps62;go_wp2
  go_loop [7] (fun k=>∃j:Nat,j<l.length/\k=.int .i64 ((32*j:Nat):Int)/\val (l.take j)=0) (fun k=> 32*l.length-(intOf k).toNat)
  case atStart=>exact⟨0,hl1,rfl,rfl⟩
  case round=>
   obtain⟨j,hj,rfl,hv⟩:=hrel;have HV:=hid hv;obtain⟨d,hd⟩:∃d,d=l.getD j 0:=⟨_,rfl⟩;have hd1:d<4294967296:=by rw[hd];exact hl.1.getD j
   have hck:=hcP j hj;rw[<-hd]at hck;have HD:=hid hd;have HCP:=hid hcP;clear hv hd hcP;have ej:(((32*j:Nat):Int)/32)=(j:Int):=by omega
   by_cases hz:d=0
   .subst hz
    have hj1:j+1<l.length:=by
     rcases eJ (j+1) l.length with h|h
     .exact h
     .exfalso
      have :=MG hj HV.out HD.out.symm;rw[show j+1=l.length by omega]at this;have :=ad2 hl this;omega
    go_wp2
    go_round
    case rel=>exact⟨j+1,hj1,by simp;omega,MG hj HV.out HD.out.symm⟩
    case measure=>simp [intOf];omega
   .have hz2:((d:Int)==0)=false:=by rw[aH];omega
    obtain⟨c1,c2⟩:=af4 hj HD.out hz hd1 HV.out;rw[EL.out]at c1 c2
    have hc32:Lib.ctz 32 d<32:=by
     have :=(Lib.lowest_bit 32 d hz (by omega)).2;exact this
    have en:= @Zf neg a _ x c2 c1;have htz:=fun w hT=>Z' d hz hd1 w hT
    generalize Lib.ctz 32 d=t at *;have EN:=hid en;have HTZ:=hid htz;clear c1 c2 en htz;go_wp2_with (go_at_call 105;refine(HTZ.out _ (HTT.out.alloc _)).mono ?_;rintro e w' ⟨rfl,rfl⟩)
    refine(rp _ a (32*j+t) k0 _ _ (HAW.out.alloc _) (by simp) HKA.out hk0 (by omega)).mono ?_;rintro e w1 ⟨v,rfl,hv,hb⟩;obtain⟨q0,q1,q2,f0,f1,f2⟩:=tK hb;obtain⟨ao1,n1,cc1,rfl⟩:=hv.shape;have HV1:=hid hv;clear hv;go_wp2;refine bodyPost_ret (v:= .agg #[.bool neg,.slice ao1 n1 cc1,.int .i64 (x+(32*(j:Int)+(t:Int)))]) (by simp [results,Tryz.results62,go_sem,q0,q1,q2]) rfl ?_;refine⟨_,rfl,⟨.slice ao1 n1 cc1,?_,?_⟩,Below.store3 hb _ _ _⟩
    .rw[EN.out];simp
    .rw[EN.out]
     exact HV1.out.store3 hb (ml _) (dO _ _ _) (kq _) _ _ _
theorem fD {w:World}{v:Value}{m:Nat}(h:NV w v m):∃(ao:Option Addr) (n c:Nat),v=.slice ao n c/\n<=c/\c<=9223372036854775807/\((m=0/\n=0)\/(m≠0/\1<=n)):=by
 obtain⟨l,hn,hv,hl,ao,c,rfl,h1,h2,h3⟩:=h;unfold maxLen at h2;refine⟨ao,l.length,c,rfl,h1,by omega,?_⟩;by_cases hz:m=0
 .left;rw[val_eq_zero hn (hv.trans hz)];exact⟨hz,rfl⟩
 .right;refine⟨hz,?_⟩
  rcases fl l.length with h0|h0
  .rw[gp.1 h0]at hv;exact absurd hv.symm hz
  .exact h0
def ax (w:World) (b:Nat) (T:TypeId) (x y z:Value):Prop:=w.heap[b]?=some (.cells #[x,y,z] T (0,0))
theorem ax.new (w:World) (x y z:Value) (T:TypeId):ax (w.alloc (.cells #[x,y,z] T)) w.heap.size T x y z:=heap_alloc_new w _
theorem ax.new2 (w:World) (o:Obj) (x y z:Value) (T:TypeId):ax ((w.alloc o).alloc (.cells #[x,y,z] T)) (w.heap.size+1) T x y z:=by
 have h:=ax.new (w.alloc o) x y z T;rw[show(w.alloc o).heap.size=w.heap.size+1 from by simp]at h;exact h
theorem ax.new3 (w:World) (o p:Obj) (x y z:Value) (T:TypeId):ax (((w.alloc o).alloc p).alloc (.cells #[x,y,z] T)) (w.heap.size+1+1) T x y z:=by
 have h:=ax.new ((w.alloc o).alloc p) x y z T;rw[show((w.alloc o).alloc p).heap.size=w.heap.size+1+1 from by simp]at h;exact h
theorem ax.lt {w:World}{b:Nat}{T:TypeId}{x y z:Value}(h:ax w b T x y z):b<w.heap.size:=(mQ.1 h).1
theorem ax.below {w w':World}{b:Nat}{T:TypeId}{x y z:Value}(h:ax w b T x y z) (hb:Below w.heap.size w w'):ax w' b T x y z:=(hb.block b h.lt).trans h
theorem ax.alloc {w:World}{b:Nat}{T:TypeId}{x y z:Value}(h:ax w b T x y z) (o:Obj):ax (w.alloc o) b T x y z:=h.below (br0.alloc le0 o)
theorem ax.drew {w:World}{b:Nat}{T:TypeId}{x y z:Value}(h:ax w b T x y z):ax w.drew b T x y z:=h
theorem ax.drewN {w:World}{b:Nat}{T:TypeId}{x y z:Value}(h:ax w b T x y z) (n:Nat):ax (w.drewN n) b T x y z:=h
theorem ax.cells {w:World}{b:Nat}{T:TypeId}{x y z:Value}(h:ax w b T x y z):
  w.cell? ⟨b,0,none⟩=some x/\w.cell? ⟨b,1,none⟩=some y/\w.cell? ⟨b,2,none⟩=some z/\
  w.frozen? ⟨b,0,none⟩=false/\w.frozen? ⟨b,1,none⟩=false/\w.frozen? ⟨b,2,none⟩=false:=by
 unfold ax at h;refine⟨?_,?_,?_,?_,?_,?_⟩ <;> simp [World.cell?,World.frozen?,h]
theorem heap_set {w:World}{b o:Nat}{v:Value}{c:Array Value}{T:TypeId}{f:Nat × Nat}(h:w.heap[b]?=some (.cells c T f)):(w.setCell ⟨b,o,none⟩ v).heap[b]?=some (.cells (c.setIfInBounds o v) T f):=by
 unfold World.setCell;simp [zY,h]
theorem ax.set0 {w:World}{b:Nat}{T:TypeId}{x y z:Value}(h:ax w b T x y z) (v:Value):ax (w.setCell ⟨b,0,none⟩ v) b T v y z:=heap_set h
theorem ax.set1 {w:World}{b:Nat}{T:TypeId}{x y z:Value}(h:ax w b T x y z) (v:Value):ax (w.setCell ⟨b,1,none⟩ v) b T x v z:=heap_set h
theorem ax.set2 {w:World}{b:Nat}{T:TypeId}{x y z:Value}(h:ax w b T x y z) (v:Value):ax (w.setCell ⟨b,2,none⟩ v) b T x y v:=heap_set h
theorem ax.set3 {w:World}{b:Nat}{T:TypeId}{x y z:Value}(h:ax w b T x y z) (x' y' z':Value):ax (((w.setCell ⟨b,0,none⟩ x').setCell ⟨b,1,none⟩ y').setCell ⟨b,2,none⟩ z') b T x' y' z':=((h.set0 x').set1 y').set2 z'
theorem ax.set {w:World}{b b' o:Nat}{T:TypeId}{x y z:Value}(h:ax w b T x y z) (hb:b≠b') (v:Value):ax (w.setCell ⟨b',o,none⟩ v) b T x y z:=(Below.heap_setCell _ _ _ _ hb).trans h
theorem NV.setBox {w:World}{b:Nat}{T:TypeId}{x y z:Value}{v:Value}{n:Nat}(h:NV w v n) (hb:ax w b T x y z) (hx:dZ x) (hy:dZ y) (hz:dZ z) (o:Nat) (u:Value):NV (w.setCell ⟨b,o,none⟩ u) v n:=by
 refine h.other (B:=b) ?_ (by simp [World.setCell]) (fun k hk=>Below.heap_setCell _ _ _ _ hk);intro o;unfold ax at hb;simp only[World.cell?,hb]
 match o with
 | 0=>simpa using hx
 | 1=>simpa using hy
 | 2=>simpa using hz
 |o+3=>simp
theorem NV.set3 {w:World}{b:Nat}{T:TypeId}{x y z x' y' z':Value}{v:Value}{n:Nat}(h:NV w v n) (hb:ax w b T x y z) (hx:dZ x) (hy:dZ y) (hz:dZ z) (hx':dZ x') (hy':dZ y'):
  NV (((w.setCell ⟨b,0,none⟩ x').setCell ⟨b,1,none⟩ y').setCell ⟨b,2,none⟩ z') v n:=
 ((h.setBox hb hx hy hz 0 x').setBox (hb.set0 x') hx' hy hz 1 y').setBox ((hb.set0 x').set1 y') hx' hy' hz 2 z'
theorem NV.setD {w:World}{b:Nat}{T:TypeId}{g g':Bool}{ao ao':Option Addr}{n n' c c':Nat}{e e':Int}{v:Value}{m:Nat}(h:NV w v m) (hb:ax w b T (.bool g) (.slice ao n c) (.int .i64 e)):
  NV (((w.setCell ⟨b,0,none⟩ (.bool g')).setCell ⟨b,1,none⟩ (.slice ao' n' c')).setCell ⟨b,2,none⟩ (.int .i64 e')) v m:=
 h.set3 hb (ml _) (dO _ _ _) (kq _) (ml _) (dO _ _ _)
theorem cJ {B b:Nat}{w w1:World}(h:Below B w w1) (hb:B<=b) (x y z:Value):Below B w (((w1.setCell ⟨b,0,none⟩ x).setCell ⟨b,1,none⟩ y).setCell ⟨b,2,none⟩ z):=((h.setCell hb _).setCell hb _).setCell hb _
theorem gL (w:World) (o p:Obj):Below w.heap.size w ((w.alloc o).alloc p):=(br0.alloc le0 _).alloc (by simp) _
theorem ff (w:World) (o p q:Obj):Below w.heap.size w (((w.alloc o).alloc p).alloc q):=(gL w o p).alloc (by simp;omega) _
theorem size_alloc (w:World) (o:Obj):(w.alloc o).heap.size=w.heap.size+1:=by simp
theorem af {B:Nat}{w w1 w2:World}(h:Below B w w1) (hB:B<=w.heap.size) (h2:Below w1.heap.size w1 w2):Below B w w2:=h.trans (h2.mono (ct hB h.size))
theorem bt0 {w w1 w2:World}(h:Hid (Below w.heap.size w w1)) (h2:Below w1.heap.size w1 w2):Hid (Below w.heap.size w w2):=hid (af h.out le0 h2)
theorem Ks (v:Value) (m k0:Nat) (w:World) (hv:NV w v m) (hm:m<2^k0) (hk0:k0<=120000000000000):
  Calls prog 141 #[v] w (kn w m):=by
 obtain⟨l,hn,el,⟨hl,ao,cap,rfl,hcap,hmx,hc⟩,hlen⟩:=hv.len hm;have hmx':=hmx;unfold maxLen at hmx';have EL:=hid el;have HMX:=hid hmx;clear el hm hmx hv;have q22:∀(w:World) (a:Option Addr) (n c n' c':Nat),(binOp .eql 66 (.slice a n c) (.slice none n' c')).run prog w=.ok (.bool a.isNone) w:=fun w a n c n' c'=>Lib.run_eql_slice_nil w _ _ a n c n' c' underlying66
 have hnone:ao=none->l.length<=0:=by
  rintro rfl;rcases hc with h|⟨b,off,h,_⟩
  .exact h
  .cases h
 cases ao with
 |none=>
  have h0:m=0:=by rw[<-EL.out,gp.1 (by have :=hnone rfl;omega:l.length=0)];rfl
  subst h0;clear hc hnone;go_enter func141,ntmps141;go_wp2;go_ret;exact⟨_,rfl,NV.nil _,Below.refl _ _⟩
 |some p=>
  have hA:∃(b off:Nat) (spot:_),p=⟨b,off,spot⟩:=⟨_,_,_,rfl⟩;obtain⟨b,off,spot,rfl⟩:=hA
  have hcc:∀j u,(lc l)[j]?=some u->w.cell? ((⟨b,off,spot⟩:Addr).add j)=some u:=by
   intro j u hj;rcases hc with h|⟨b',off',h,h2,h3⟩
   .have :l=[]:=gp.1 (by omega)
    subst this;simp [lc]at hj
   .cases h
    have hj2:j<l.length:=by
     have :=(iH.1 hj).1;rw[oO]at this;exact this
    rw[show(⟨b,off,none⟩:Addr).add j=⟨b,off+j,none⟩ from by unfold Addr.add;split <;> simp_all,h3 j hj2,<-hj];simp [lc,List.getD,hj2]
  have A:=hid hcc;clear hc hcc hnone;obtain⟨i0,hi,hz0,hz1,hz2⟩:=info_parts wZ;have HI:=hid hi;have HZ0:=hid hz0;have HZ1:=hid hz1;have HZ2:=hid hz2;clear hi hz0 hz1 hz2;go_enter func141,ntmps141;go_wp2_with (at_builtin;refine wpList_append_own _ rfl _ _ 66 rfl w.heap.size 102 i0 (.int .u32 0) 1 4 underlying66 HI.out HZ0.out HZ1.out HZ2.out rfl (by decide) _ _ _ rfl (World.ownsRow_made w #[] 0 le0 (d_ _) (by simp)) ⟨b,off,spot⟩ l.length cap (lc l) rfl ?qc1 ?qc2 ?qc3 ?qc4 ?qc5 ?qc6 ?_)
  case qc1=>rw[oO];omega
  case qc2=>
   intro j u hj;have :=A.out j u hj;exact Lib.cell?_alloc_some _ this
  case qc3=>intro u hu;simp [lc]at hu;obtain⟨x,_,rfl⟩:=hu;rfl
  case qc4=>rw[jw];unfold maxLen;omega
  case qc5=>rw[jw];omega
  case qc6=>simp
  intro v' w1 hown hgrow hnil;go_wp2;go_ret;refine⟨v',rfl,?_,?_⟩
  .have h2:w1.ownsRow w.heap.size 102 1 v' l.length (lc l):=by simpa using hown
   rw[<-EL.out];exact(sT h2 hl).nrm hn
  .exact((Below.refl _ w).alloc le0 _).grown hgrow (by simp) (by intro k hk;simp [Value.ownBlock]at hk;omega)
