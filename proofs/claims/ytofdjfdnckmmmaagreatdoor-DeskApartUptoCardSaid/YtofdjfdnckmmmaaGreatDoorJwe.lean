import Derived.Test.YtofdjfdnckmmmaaGreatDoorYfg
import Derived.Test.YtofdjfdnckmmmaaGreatDoorJcd
import Derived.Test.YtofdjfdnckmmmaaGreatDoorWfd
set_option linter.all false
set_option maxHeartbeats 64000000
set_option maxRecDepth 100000
open Go.Proofs.Tryz
open Go.Lib (hid trimRightB indexByte)
namespace Go.Proofs.YtofdjfdnckmmmaaGreatDoor
open Go.Lib Nt Fm Fl
def gG (c:UInt8):Bool:=decide (42<c.toNat) && decide (c.toNat<128) && decide (c.toNat≠59)
def gS (c:UInt8):Bool:=gG c && decide (c.toNat≠120)
theorem rS {l:List UInt8}(h:l.all gS=true):l.all gG=true:=by
 rw[n_]at *;intro c hc;have :=h c hc;unfold gS at this;rw[lT]at this;exact this.1
theorem Aw {l:List UInt8}(h:∀c∈l,cF c):l.all gS=true:=by
 rw[n_];intro c hc;have :=h c hc;unfold cF at this;simp only[gS,gG,lT,da];omega
theorem zd {l:List UInt8}(k:Nat) (h:l.all gS=true):(l.take k).all gS=true:=by
 rw[n_]at *;exact fun c hc=>h c (kU hc)
theorem AP {l:List UInt8}(k:Nat) (h:l.all gS=true):(l.drop k).all gS=true:=by
 rw[n_]at *;exact fun c hc=>h c (zF hc)
theorem qO (n:Nat):(Lib.decDigits n).all gS=true:=Aw (oW n)
theorem uC (n:Nat):(List.replicate n (48:UInt8)).all gS=true:=Aw (fun c hc=>by rw[uf hc];exact⟨by decide,by decide⟩)
theorem AM (x:Int):(gW x).all gS=true:=by unfold gW;split <;> decide
theorem FH (p:Int):(fh p).all gS=true:=by
 unfold fh;rw[pq,g_,qO];split <;> split <;> decide
theorem Pz {d:List UInt8}(h:d.all gS=true) (k:Int):(oD d k).all gS=true:=by
 unfold oD;have hp:∀l:List UInt8,l.all gS=true->(46::l).all gS=true:=fun l hl=>by rw[pq,hl];decide
 have he:∀l:List UInt8,l.all gS=true->(101::l).all gS=true:=fun l hl=>by rw[pq,hl];decide
 split
 .rw[g_,g_,zd 1 h,he _ (FH _)]
  split
  .rw[hp _ (AP 1 h)];rfl
  .rfl
 .split
  .rw[g_,h,uC];rfl
  .split
   .rw[g_,zd _ h,hp _ (AP _ h)];rfl
   .rw[pq,pq,g_,h,uC];decide
theorem FX {x:Int}(x0:0<=x) (x1:x<=18446744073709551615):(jo x).all gS=true:=by
 unfold jo;split
 .decide
 .rw[g_,AM,zK]
  split
  .decide
  .rename_i h5 h4
   split
   .decide
   .rename_i h1
    have hx:1<=ay x:=by
     have hab:=gV x;unfold ak at h1;split at h1
     .exact absurd rfl h1
     .omega
    exact Pz (Aw (xP x0 x1 hx).1) _
theorem PY (d:Nat):gG (kK (d%16))=true:=by
 have hd:=ew d (show 0<16 by omega);generalize d%16=e at *;have :e=0\/e=1\/e=2\/e=3\/e=4\/e=5\/e=6\/e=7\/e=8\/e=9\/e=10\/e=11\/e=12\/e=13\/e=14\/e=15:=by omega
 rcases this with h|h|h|h|h|h|h|h|h|h|h|h|h|h|h|h <;> subst h <;> decide
theorem NS (M:Nat):∀k,(ef M k).all gG=true
 | 0=>rfl
 |k+1=>by rw[ef,pq,PY,NS M k];rfl
theorem QL (p:Int):(Lib.itoa p).all gG=true:=by
 unfold Lib.itoa;split
 .rw[pq,rS (qO _)];decide
 .exact rS (qO _)
theorem Hc (x:Int) (d:D) (p:Nat):(fG x d p).all gG=true:=by
 unfold fG;rw[g_];have h1:(fq x).all gG=true:=by unfold fq;split <;> decide
 rw[h1,zK];split
 .rw[g_,g_]
  split
  .rw[g_,rS (uC p)];decide
  .decide
 .rw[g_,g_,g_,NS]
  have h2:(il (cO d)).all gG=true:=by
   unfold il;rw[g_,QL];split <;> decide
  rw[h2];split <;> decide
theorem Jd (x:Int):(nS x).all gG=true:=by
 unfold nS;split
 .decide
 .split
  .split <;> decide
  .exact Hc _ _ _
theorem xx {x:Int}(x0:0<=x) (x1:x<=18446744073709551615):(jo x).length<=1000:=by
 by_cases h5:ak x=5
 .unfold jo;rw[aj h5];decide
 .exact(ab2 x0 x1 h5).2.2
theorem AF {x:Int}(x0:0<=x) (x1:x<=18446744073709551615):(nS x).length<=1000:=by
 unfold nS;split
 .decide
 .split
  .split <;> decide
  .obtain⟨f1,f2,f3,f4,f5⟩:=dR x x0 x1
   have hb53:aC (ai x).m<=53:=nF f2;have hq:nk (ai x)<=14:=by unfold nk;omega
   obtain⟨t1,t2,whole,t3,r,part,t4,t5,t6,power,rest,neg,ok,pt,pb,down,up,P,hbad,hneg,hlen,hv,hc⟩:=WU x (ai x) (nk (ai x)) (by omega) (by unfold nk;omega) (by unfold cO;omega);omega
theorem xZ (x:Int):(lK x).length=17:=by simp [lK,sJ]
theorem Y0 {c:UInt8}(h:fY c):List.contains [48,49,50,51,52,53,54,55,56,57,97,98,99,100,101,102] c=true:=by
 obtain⟨n,hn⟩:∃n,n=c.toNat:=⟨_,rfl⟩;have e:c=UInt8.ofNat n:=by rw[hn];simp
 unfold fY at h;rw[<-hn]at h;have :n=48\/n=49\/n=50\/n=51\/n=52\/n=53\/n=54\/n=55\/n=56\/n=57\/n=97\/n=98\/n=99\/n=100\/n=101\/n=102:=by omega
 rcases this with h|h|h|h|h|h|h|h|h|h|h|h|h|h|h|h <;> (subst h;rw[e];decide)
open Go.Shelf Go.RowKit Go.Lib Nt Fm Fl
theorem Ut (x:Nat) (hx:x<18446744073709551616) (w:World) (hD:Dk w):
  Calls prog 215 #[.int .u64 (x:Int),.int .i64 16] w fun e w'=>(∃n,1<=n/\n<=16/\x<16^n/\e=.returned (.string ⟨(cV x n).toArray⟩))/\Below w.heap.size w w':=by
 have FB:=hid (WN x hx w hD.t64)
 have F1:Calls prog 237 #[.int .u64 (x:Int),.int .i64 16] w fun e w'=>(∃n,1<=n/\n<=16/\x<16^n/\e=.returned (.string ⟨(cV x n).toArray⟩))/\Below w.heap.size w w':=by
  clear hD;go_enter func237,ntmps237;go_wp2_with (go_at_call 190;refine FB.out.mono ?_;rintro e w1 ⟨⟨n,h1,h2,h3,rfl⟩,hb⟩)
  go_ret;exact⟨⟨n,h1,h2,h3,rfl⟩,hb⟩
 have F2:=hid F1;clear hD FB F1;go_enter func215,ntmps215;go_wp2_with (go_at_call 237;refine F2.out.mono ?_;rintro e w1 ⟨⟨n,h1,h2,h3,rfl⟩,hb⟩)
 go_ret;exact⟨⟨n,h1,h2,h3,rfl⟩,hb⟩
theorem An (w:World):Calls prog 118 #[.int .i64 0] w fun e w'=>e=.returned (.tuple #[])/\w=w':=by
 go_enter func118,ntmps118;go_wp2
 go_end0
 exact⟨rfl,rfl⟩
theorem lA (k:Int) (hk:(k !=0)=true) (w:World):Calls prog 118 #[.int .i64 k] w fun e w'=>e=.panicked [{ v:= .iface 27 (.int .i64 k),recovered:=false }]/\w=w':=by
 go_enter func118,ntmps118;go_wp2;exact⟨rfl,rfl,rfl⟩
theorem xH (a:Option Addr) (n cap:Nat) (X:Int) (hX:X=(n:Int)) (w:World):Calls prog 113 #[.slice a n cap,.int .i64 X] w fun e w'=>e=.returned (.tuple #[])/\w=w':=by
 subst hX;go_enter func113,ntmps113;go_wp2
 go_end0
 exact⟨rfl,rfl⟩
def jm (b:Bool):List UInt8:=if b=true then [32,108,111,115,116] else [32,101,120,97,99,116]
theorem IV (b:Bool) (w:World):Calls prog 166 #[.bool b] w fun e w'=>e=.returned (.string ⟨(jm b).toArray⟩)/\w=w':=by
 cases b
 all_goals
  go_enter func166,ntmps166;go_wp2;go_ret;exact⟨rfl,rfl⟩
theorem Is (x:Int) (x0:0<=x) (x1:x<=18446744073709551615) (w:World) (hD:Dk w):
  Calls prog 164 #[.int .u64 x] w (fa w (lK x)):=by
 obtain⟨u,rfl⟩:∃u:Nat,x=u:=⟨x.toNat,by omega⟩;have FM:=hid (Ut u (by omega) w hD);clear hD;unfold fa;go_enter func164,ntmps164
 go_wp2_with (first
  |(go_at_call 215;refine FM.out.mono ?_;rintro e w1 ⟨⟨n,h1,h2,h3,rfl⟩,hb⟩;have HB:=hid hb;have H3:=hid h3;clear hb h3;obtain⟨S,hS⟩:∃S:ByteArray,S=⟨(cV u n).toArray⟩:=⟨_,rfl⟩;rw[<-hS];have hz:S.size=n:=(by rw[hS];exact sJ n u);have HS:=hid hS;clear hS FM;have RP:=hid (fun X w' (h:X=((16-n:Nat):Int))=>tj (16-n) X h (by omega) w'))
  |(go_at_call 26;refine(RP.out _ _ (by omega)).mono ?_;rintro e w2 ⟨rfl,hb2⟩;have HB2:=bt0 HB hb2;clear hb2 RP))
 go_ret;refine⟨?_,HB2.out⟩;have hn:16-n+n=16:=by omega
 have e1:=KS (16-n) n u H3.out;rw[hn]at e1;rw[HS.out];unfold lK;rw[gf,e1];exact congrArg (fun z=>Ending.returned (Value.string z)) (by apply eK;simp [lY])
noncomputable def jD (x:Int):List UInt8:=jo x++32::lK x
theorem Kw (x:Int) (x0:0<=x) (x1:x<=18446744073709551615) (w:World) (hD:Dk w):
  Calls prog 156 #[.int .u64 x] w (fa w (jD x)):=by
 have ST:=hid (MX x x0 x1 w hD.t32 hD.t10);have BT:=hid (fun w' (hb:Below w.heap.size w w')=>Is x x0 x1 w' (hD.below hb));have l1:=xx x0 x1;have l2:=xZ x;unfold jD;unfold fa at ST BT ⊢;generalize lK x=bt at *;generalize jo x=st at *;clear hD;go_enter func156,ntmps156
 go_wp2_with (first
  |(go_at_call 163;refine ST.out.mono ?_;rintro e w1 ⟨rfl,hb⟩;have B:=hid hb;clear hb)
  |(go_at_call 164;refine(BT.out _ B.out).mono ?_;rintro e w2 ⟨rfl,hb⟩;have B2:=bt0 B hb;clear hb))
 go_ret;refine⟨?_,B2.out⟩;exact congrArg (fun z=>Ending.returned (Value.string z)) (by apply eK;simp [lY])
theorem yW {x:Int}(x0:0<=x) (x1:x<=18446744073709551615):(jD x).length<=1018:=by
 have l1:=xx x0 x1;have l2:=xZ x;unfold jD;rw[ck,ez];omega
theorem vW (b:Bool):(jm b).length<=6:=by cases b <;> decide
theorem F_ (x:Int) (b:Bool) (x0:0<=x) (x1:x<=18446744073709551615) (w:World) (hD:Dk w):
  Calls prog 119 #[.int .u64 x,.bool b,.int .i64 0] w (fa w (jD x++jm b)):=by
 have RS:=hid (Kw x x0 x1 w hD);have l1:=yW x0 x1;have l2:=vW b;have LS:=hid (fun w'=>IV b w');unfold fa at RS ⊢;generalize jD x=rs at *;generalize jm b=ls at *;clear hD;go_enter func119,ntmps119
 go_wp2_with (first
  |(go_at_call 118;refine(An _).mono ?_;rintro e w1 ⟨rfl,rfl⟩)
  |(go_at_call 156;refine RS.out.mono ?_;rintro e w1 ⟨rfl,hb⟩;have B:=hid hb;clear hb)
  |(go_at_call 166;refine(LS.out _).mono ?_;rintro e w2 ⟨rfl,rfl⟩))
 go_ret;refine⟨?_,B.out⟩;exact congrArg (fun z=>Ending.returned (Value.string z)) (by apply eK;simp [lY])
theorem wV (s:List UInt8) (S:ByteArray) (hS:S=⟨s.toArray⟩) (h1:Lib.hasPrefix s [35]=false) (h2:Lib.hasPrefix s [48,120]=false) (h3:Lib.hasPrefix s [45,48,120]=false) (x:Int) (hE:kj s 0=0) (hV:fX s 0=x) (w:World) (hD:Dk w):
  Calls prog 122 #[.string S] w fun e w'=>e=.returned (.int .u64 x)/\Below w.heap.size w w':=by
 have RN:=hid (B_ s S hS 0 w hD.t32);have CP:=hid (fun w'=>wI S ⟨#[35]⟩ w');have P1:=hid (fun w'=>xM S ⟨#[48,120]⟩ w');have P2:=hid (fun w'=>xM S ⟨#[45,48,120]⟩ w');have es:S.data.toList=s:=by rw[hS]
 have e0:(⟨(Lib.trimPrefix s [35]).toArray⟩:ByteArray)=S:=by unfold Lib.trimPrefix;rw[h1,hS];rfl
 simp only[es,e0,h1]at CP;simp only[es,h2]at P1;simp only[es,h3]at P2;unfold ei at RN;rw[hE,hV]at RN;generalize j6 s 0=c at RN;clear hD es e0 h1 h2 h3 hS hE hV;go_enter func122,ntmps122
 go_wp2_with (first
  |(go_at_call 45;refine(CP.out _).mono ?_;rintro e w1 ⟨rfl,rfl⟩)
  |(go_at_call 55;first
   |((with_reducible refine(P1.out _).mono ?_);rintro e w1 ⟨rfl,rfl⟩)
   |((with_reducible refine(P2.out _).mono ?_);rintro e w1 ⟨rfl,rfl⟩))
  |(go_at_call 10;refine RN.out.mono ?_;rintro e w1 ⟨rfl,hb⟩;have B:=hid hb;clear hb))
 go_ret;exact⟨rfl,B.out⟩
attribute [local irreducible] cV lK
theorem ED {p:UInt8->Bool} :∀l:List UInt8,(∀c∈l,p c=true)->l.dropWhile p=[]
 | [],_=>rfl
 |c::l,h=>by rw[sj (h c (by simp)),ED l (fun d hd=>h d (by simp [hd]))]
theorem Sg (w:World):Calls prog 116 #[.string ⟨#[110,101,97,114]⟩] w fun e w'=>e=.returned (.int .i64 0)/\w=w':=by
 go_enter func116,ntmps116;go_wp2;go_ret;exact⟨rfl,rfl⟩
def mF (s:List UInt8) (x:Int):Prop:=(0<=x/\x<=18446744073709551615)/\∀(S:ByteArray) (w:World),S=⟨s.toArray⟩->Dk w->
 Calls prog 122 #[.string S] w fun e w'=>e=.returned (.int .u64 x)/\Below w.heap.size w w'
def kh (l:List Int):List Value:=l.map (Value.int .u64)
theorem TU:(prog.info? 24).map (fun i=>(i.zero,i.size,i.bytes))=some (some (.int .u64 0),1,8):=by kernel_rfl
theorem J7 {ops:Array Oper}{rest:List Oper}{o:Oper}{a:Act}{Q:Exit->Act->World->Prop}{w0:World}{X:Int}(hgd:o.guard=none) (s x:Operand)
  (ho:o.op=.call { callee:= .builtin .append,args:= #[s,x],argTypes:= #[157,157] })
  (base:Nat) (hbase:base<=w0.heap.size) (v:Value) (l:List Int) (hs:a.eval s=v) (hown:w0.ownsRow base 24 1 v l.length (kh l))
  (d:Int) (hx:a.eval x=.slice (some ⟨w0.heap.size,0,none⟩) 1 1) (hX:X=d) (hl:l.length<=10000000)
  (h:∀v' w',w'.ownsRow base 24 1 v' (l++[d]).length (kh (l++[d]))->Below base w0 w'->wpList prog ops Q rest (a.put o.dst v') w'):
  wpList prog ops Q (o::rest) a (w0.alloc (.cells #[.int .u64 X] 24)):=by
 obtain⟨i0,hi,hz0,hz1,hz2⟩:=info_parts TU;subst hX;refine wpList_append_own _ hgd s x 157 ho base 24 i0 (.int .u64 0) 1 8 underlying157 hi hz0 hz1 hz2 rfl (by decide) v l.length (kh l) hs (hown.alloc _) ⟨w0.heap.size,0,none⟩ 1 1 [.int .u64 X] hx rfl (cell_one_new _ _ _) (by intro u hu;simp at hu;subst hu;rfl) (by unfold maxLen;omega) (by omega) (by simp;omega) ?_;intro v' w1 hown1 hgrow _;refine h v' w1 ?_ ?_
 .rw[ck]
  have :kh (l++[X])=kh l++[.int .u64 X]:=by simp [kh]
  rw[this];exact hown1
 .refine((Below.refl base w0).alloc hbase _).trans (vQ hgrow (by simp;omega) ?_)
  intro k hk;exact(hown.lt k hk).1
theorem Jg (A off cap:Nat) (l:List (List UInt8)) (vs:List Int) (hlen:vs.length=l.length) (hl:l.length<=100000) (hN:∀(j:Nat) s x,l[j]?=some s->vs[j]?=some x->mF s x) (w:World) (hD:Dk w) (hA:A<w.heap.size)
  (hW:∀(j:Nat) s,l[j]?=some s->w.cell? ⟨A,off+j,none⟩=some (dL s)):
  Calls prog 115 #[.slice (some ⟨A,off,none⟩) l.length cap] w fun e w'=>∃v,e=.returned v/\w'.ownsRow w.heap.size 24 1 v vs.length (kh vs)/\Below w.heap.size w w':=by
 have HN:=hid hN;have HD:=hid hD;have HW:=hid hW;have HL:=hid hlen;obtain⟨n,hn⟩:∃n,n=l.length:=⟨_,rfl⟩;rw[<-hn]at hl ⊢;have Hn:=hid hn;clear hN hD hW hlen hn;go_enter func115,ntmps115;go_wp2;go_loopw [3,8] (fun v iv wr=>∃i:Nat,iv=.int .i64 (i:Int)/\i<=n/\Hid (wr.ownsRow w.heap.size 24 1 v (vs.take i).length (kh (vs.take i)))/\Hid (Below w.heap.size w wr)) (fun _ iv _=>n-(RowKit.intOf iv).toNat)
 case atStart=>exact⟨0,rfl,by omega,hid (World.ownsRow_nil _ _ _ _),hid br0⟩
 case round=>
  obtain⟨i,rfl,hi,hO,B⟩:=hrel
  obtain⟨ao,ln,cp,rfl⟩:∃ao ln cp,u3=.slice ao ln cp:=by
   rcases hO.out.2 with⟨h,_⟩|⟨g,c,cur,h,_⟩
   .exact⟨_,_,_,h⟩
   .exact⟨_,_,_,h⟩
  by_cases hin:i<n
  .have hil:i<l.length:=by rw[<-Hn.out];exact hin
   obtain⟨s,hs⟩:∃s,l[i]?=some s:=⟨_,fO hil⟩;obtain⟨x,hx⟩:∃x,vs[i]?=some x:=⟨_,fO (by rw[HL.out];exact hil)⟩;obtain⟨T,hT⟩:∃T:ByteArray,T=⟨s.toArray⟩:=⟨_,rfl⟩
   have hc:wr.cell? ⟨A,off+i,none⟩=some (.string T):=by
    rw[B.out.cell (p:=⟨A,off+i,none⟩) hA,HW.out i s hs,hT]
   have NT:=HN.out i s x hs hx;have NH:=hid (NT.2 T wr hT (HD.out.below B.out))
   have htk:vs.take (i+1)=vs.take i++[x]:=by
    have hv:=(iH.1 hx).1;rw[pA hv,(iH.1 hx).2]
   have HTK:=hid htk;have hll:Hid ((vs.take i).length<=10000000/\True):=hid ⟨by rw[dj];omega,trivial⟩;clear NT hT hs hx htk
   go_wp2_with (first
    |(go_at_call 122;refine NH.out.mono ?_;rintro e w2 ⟨rfl,hb⟩;have B2:=bt0 B hb;have O2:=hid (kZ hO.out hb);have hz2:=B2.out.size;clear hb NH)
    |(at_builtin;refine J7 rfl _ _ rfl w.heap.size hz2 _ (vs.take i) rfl O2.out x rfl rfl hll.out.1 ?_;intro v5 w5 ho5 hb5;have O5:=hid ho5;have B5:=hid (B2.out.trans hb5);clear ho5 hb5))
   exact⟨⟨i+1,rfl,by omega,hid (by rw[HTK.out];exact O5.out),B5⟩,by simp only[RowKit.intOf];omega⟩
  .have hie:vs.take i=vs:=dI (by rw[HL.out,<-Hn.out];omega)
   rw[hie]at hO;go_wp2;go_ret;exact⟨_,rfl,hO.out,B.out⟩
theorem ik {w:World}{b:Nat}{es:Array MapEntry}{clock:Nat}(hb:w.heap[b]?=some (.map es clock)) (B0:Nat) (hB:B0<=b) (s:ByteArray) (val:Value)
  (h1:Instr.findNow .string (.string s) es.toList 0=some none):
  ∃V,(Instr.mapUpdate 154 (.map (some b)) (.string s) val).run prog w=.ok () V/\V.heap[b]?=some (.map (es.push ⟨.string s,val,clock⟩) (clock+1))/\Below B0 w V:=by
 have hkey:Go.MapKept.IsKey .string (.string s):=by simp [Go.MapKept.IsKey]
 refine⟨Go.ChangeMaps.setBlock w b (.map (es.push ⟨.string s,val,clock⟩) (clock+1)),?_,?_,?_⟩
 .simp [Instr.mapUpdate,run_underlying underlying154,Go.MapKept.run_getObj_map hb,Go.MapKept.run_checkKey underlying9 hkey,Go.MapKept.run_findKey underlying9 h1,Go.MapKept.run_setObj_map _ hb,Result.andThen,Go.ChangeMaps.setBlock]
 .have :=(mQ.1 hb).1
  simp [Go.ChangeMaps.setBlock,aj3,this]
 .refine⟨rfl,rfl,rfl,by simp [Go.ChangeMaps.setBlock],fun k hk=>?_⟩
  simp only[Go.ChangeMaps.setBlock];rw[aj3,ag (by omega)]
theorem lM {w:World}{b:Nat}{es:Array MapEntry}{clock:Nat}(hb:w.heap[b]?=some (.map es clock)) (s:ByteArray) {a:Option (Nat × Value)}(h1:Instr.findNow .string (.string s) es.toList 0=some a):
  (Instr.lookup 154 (.map (some b)) (.string s) true).run prog w=.ok (match a with|some (_,v)=> .tuple #[v,.bool true]|none=> .tuple #[.int .i64 0,.bool false]) w:=by
 have hkey:Go.MapKept.IsKey .string (.string s):=by simp [Go.MapKept.IsKey]
 have hz:=zeroValue3 w;cases a with
 |none=>simp [Instr.lookup,run_underlying underlying154,Go.MapKept.run_getObj_map hb,Go.MapKept.run_checkKey underlying9 hkey,Go.MapKept.run_findKey underlying9 h1,Result.andThen,hz]
 |some p=>obtain⟨i,v⟩:=p;simp [Instr.lookup,run_underlying underlying154,Go.MapKept.run_getObj_map hb,Go.MapKept.run_checkKey underlying9 hkey,Go.MapKept.run_findKey underlying9 h1,Result.andThen]
def ky:Array MapEntry:= #[⟨.string ⟨#[97,100,100]⟩,.int .i64 2,0⟩,⟨.string ⟨#[115,117,98]⟩,.int .i64 2,1⟩,⟨.string ⟨#[109,117,108]⟩,.int .i64 2,2⟩,⟨.string ⟨#[100,105,118]⟩,.int .i64 2,3⟩,⟨.string ⟨#[102,109,97]⟩,.int .i64 3,4⟩,⟨.string ⟨#[115,113,114,116]⟩,.int .i64 1,5⟩,⟨.string ⟨#[101,120,112]⟩,.int .i64 1,6⟩,⟨.string ⟨#[101,120,112,109,49]⟩,.int .i64 1,7⟩,⟨.string ⟨#[108,111,103]⟩,.int .i64 1,8⟩,⟨.string ⟨#[108,111,103,49,112]⟩,.int .i64 1,9⟩,⟨.string ⟨#[114,111,117,110,100]⟩,.int .i64 1,10⟩]
theorem rF (w:World):∃V1 V2 V3 V4 V5 V6 V7 V8 V9 V10 V11,
  (Instr.mapUpdate 154 (.map (some w.heap.size)) (.string ⟨#[97,100,100]⟩) (.int .i64 2)).run prog (w.alloc (.map #[] 0))=.ok () V1/\
  (Instr.mapUpdate 154 (.map (some w.heap.size)) (.string ⟨#[115,117,98]⟩) (.int .i64 2)).run prog V1=.ok () V2/\
  (Instr.mapUpdate 154 (.map (some w.heap.size)) (.string ⟨#[109,117,108]⟩) (.int .i64 2)).run prog V2=.ok () V3/\
  (Instr.mapUpdate 154 (.map (some w.heap.size)) (.string ⟨#[100,105,118]⟩) (.int .i64 2)).run prog V3=.ok () V4/\
  (Instr.mapUpdate 154 (.map (some w.heap.size)) (.string ⟨#[102,109,97]⟩) (.int .i64 3)).run prog V4=.ok () V5/\
  (Instr.mapUpdate 154 (.map (some w.heap.size)) (.string ⟨#[115,113,114,116]⟩) (.int .i64 1)).run prog V5=.ok () V6/\
  (Instr.mapUpdate 154 (.map (some w.heap.size)) (.string ⟨#[101,120,112]⟩) (.int .i64 1)).run prog V6=.ok () V7/\
  (Instr.mapUpdate 154 (.map (some w.heap.size)) (.string ⟨#[101,120,112,109,49]⟩) (.int .i64 1)).run prog V7=.ok () V8/\
  (Instr.mapUpdate 154 (.map (some w.heap.size)) (.string ⟨#[108,111,103]⟩) (.int .i64 1)).run prog V8=.ok () V9/\
  (Instr.mapUpdate 154 (.map (some w.heap.size)) (.string ⟨#[108,111,103,49,112]⟩) (.int .i64 1)).run prog V9=.ok () V10/\
  (Instr.mapUpdate 154 (.map (some w.heap.size)) (.string ⟨#[114,111,117,110,100]⟩) (.int .i64 1)).run prog V10=.ok () V11/\
  V11.heap[w.heap.size]?=some (.map ky 11)/\Below w.heap.size w V11:=by
 obtain⟨V1,r1,m1,b1⟩:=ik (Go.MapKept.heap_alloc w (.map #[] 0)).1 w.heap.size le0 ⟨#[97,100,100]⟩ (.int .i64 2) rfl;obtain⟨V2,r2,m2,b2⟩:=ik m1 w.heap.size le0 ⟨#[115,117,98]⟩ (.int .i64 2) rfl;obtain⟨V3,r3,m3,b3⟩:=ik m2 w.heap.size le0 ⟨#[109,117,108]⟩ (.int .i64 2) rfl;obtain⟨V4,r4,m4,b4⟩:=ik m3 w.heap.size le0 ⟨#[100,105,118]⟩ (.int .i64 2) rfl;obtain⟨V5,r5,m5,b5⟩:=ik m4 w.heap.size le0 ⟨#[102,109,97]⟩ (.int .i64 3) rfl;obtain⟨V6,r6,m6,b6⟩:=ik m5 w.heap.size le0 ⟨#[115,113,114,116]⟩ (.int .i64 1) rfl;obtain⟨V7,r7,m7,b7⟩:=ik m6 w.heap.size le0 ⟨#[101,120,112]⟩ (.int .i64 1) rfl;obtain⟨V8,r8,m8,b8⟩:=ik m7 w.heap.size le0 ⟨#[101,120,112,109,49]⟩ (.int .i64 1) rfl;obtain⟨V9,r9,m9,b9⟩:=ik m8 w.heap.size le0 ⟨#[108,111,103]⟩ (.int .i64 1) rfl;obtain⟨V10,r10,m10,b10⟩:=ik m9 w.heap.size le0 ⟨#[108,111,103,49,112]⟩ (.int .i64 1) rfl;obtain⟨V11,r11,m11,b11⟩:=ik m10 w.heap.size le0 ⟨#[114,111,117,110,100]⟩ (.int .i64 1) rfl;exact⟨V1,V2,V3,V4,V5,V6,V7,V8,V9,V10,V11,r1,r2,r3,r4,r5,r6,r7,r8,r9,r10,r11,m11,((((((((((((br0.alloc le0 _).trans b1).trans b2).trans b3).trans b4).trans b5).trans b6).trans b7).trans b8).trans b9).trans b10).trans b11)⟩
def me:Array MapEntry:= #[⟨.string ⟨#[114,101,109]⟩,.int .i64 2,0⟩,⟨.string ⟨#[110,101,120,116]⟩,.int .i64 1,1⟩,⟨.string ⟨#[112,114,101,118]⟩,.int .i64 1,2⟩,⟨.string ⟨#[110,101,103]⟩,.int .i64 1,3⟩,⟨.string ⟨#[109,105,110]⟩,.int .i64 2,4⟩,⟨.string ⟨#[109,97,120]⟩,.int .i64 2,5⟩,⟨.string ⟨#[115,104,111,119]⟩,.int .i64 1,6⟩,⟨.string ⟨#[99,109,112]⟩,.int .i64 2,7⟩]
theorem vM (w:World):∃V1 V2 V3 V4 V5 V6 V7 V8,
  (Instr.mapUpdate 154 (.map (some w.heap.size)) (.string ⟨#[114,101,109]⟩) (.int .i64 2)).run prog (w.alloc (.map #[] 0))=.ok () V1/\
  (Instr.mapUpdate 154 (.map (some w.heap.size)) (.string ⟨#[110,101,120,116]⟩) (.int .i64 1)).run prog V1=.ok () V2/\
  (Instr.mapUpdate 154 (.map (some w.heap.size)) (.string ⟨#[112,114,101,118]⟩) (.int .i64 1)).run prog V2=.ok () V3/\
  (Instr.mapUpdate 154 (.map (some w.heap.size)) (.string ⟨#[110,101,103]⟩) (.int .i64 1)).run prog V3=.ok () V4/\
  (Instr.mapUpdate 154 (.map (some w.heap.size)) (.string ⟨#[109,105,110]⟩) (.int .i64 2)).run prog V4=.ok () V5/\
  (Instr.mapUpdate 154 (.map (some w.heap.size)) (.string ⟨#[109,97,120]⟩) (.int .i64 2)).run prog V5=.ok () V6/\
  (Instr.mapUpdate 154 (.map (some w.heap.size)) (.string ⟨#[115,104,111,119]⟩) (.int .i64 1)).run prog V6=.ok () V7/\
  (Instr.mapUpdate 154 (.map (some w.heap.size)) (.string ⟨#[99,109,112]⟩) (.int .i64 2)).run prog V7=.ok () V8/\
  V8.heap[w.heap.size]?=some (.map me 8)/\Below w.heap.size w V8:=by
 obtain⟨V1,r1,m1,b1⟩:=ik (Go.MapKept.heap_alloc w (.map #[] 0)).1 w.heap.size le0 ⟨#[114,101,109]⟩ (.int .i64 2) rfl;obtain⟨V2,r2,m2,b2⟩:=ik m1 w.heap.size le0 ⟨#[110,101,120,116]⟩ (.int .i64 1) rfl;obtain⟨V3,r3,m3,b3⟩:=ik m2 w.heap.size le0 ⟨#[112,114,101,118]⟩ (.int .i64 1) rfl;obtain⟨V4,r4,m4,b4⟩:=ik m3 w.heap.size le0 ⟨#[110,101,103]⟩ (.int .i64 1) rfl;obtain⟨V5,r5,m5,b5⟩:=ik m4 w.heap.size le0 ⟨#[109,105,110]⟩ (.int .i64 2) rfl;obtain⟨V6,r6,m6,b6⟩:=ik m5 w.heap.size le0 ⟨#[109,97,120]⟩ (.int .i64 2) rfl;obtain⟨V7,r7,m7,b7⟩:=ik m6 w.heap.size le0 ⟨#[115,104,111,119]⟩ (.int .i64 1) rfl;obtain⟨V8,r8,m8,b8⟩:=ik m7 w.heap.size le0 ⟨#[99,109,112]⟩ (.int .i64 2) rfl;exact⟨V1,V2,V3,V4,V5,V6,V7,V8,r1,r2,r3,r4,r5,r6,r7,r8,m8,(((((((((br0.alloc le0 _).trans b1).trans b2).trans b3).trans b4).trans b5).trans b6).trans b7).trans b8)⟩
noncomputable def sz (x:Int):List UInt8:=jo x++32::(nS x++32::lK x)
theorem ZM (g cap:Nat) (x:Int) (x0:0<=x) (x1:x<=18446744073709551615) (w:World) (hD:Dk w) (hc:w.cell? ⟨g,0,none⟩=some (.int .u64 x)):
  Calls prog 117 #[.string ⟨#[115,104,111,119]⟩,.slice (some ⟨g,0,none⟩) 1 cap] w (fa w (sz x)):=by
 have ST:=hid (fun w' (hb:Below w.heap.size w w')=>MX x x0 x1 w' (hD.below hb).t32 (hD.below hb).t10);have HT:=hid (fun w' (hb:Below w.heap.size w w')=>J4 x x0 x1 w' (hD.below hb).t32 (hD.below hb).t10);have BT:=hid (fun w' (hb:Below w.heap.size w w')=>Is x x0 x1 w' (hD.below hb));have l1:=xx x0 x1;have l2:=xZ x;have l3:=AF x0 x1;have hgl:=World.block_lt_of_cell? w ⟨g,0,none⟩ hc;have HC:=hid (fun w' (hb:Below w.heap.size w w')=>(hb.cell (p:=⟨g,0,none⟩) hgl).trans hc);have B:Hid (Below w.heap.size w w):=hid br0;unfold sz;unfold fa at ST HT BT ⊢;generalize lK x=bt at *;generalize jo x=st at *;generalize nS x=hx at *;clear hD;go_enter func117,ntmps117;go_wp2;replace B:=hid B.out.drew;have k1:¬9223372036854775807<st.length+1:=by omega
 have k2:¬9223372036854775807<st.length+1+hx.length:=by omega
 have k3:¬9223372036854775807<st.length+1+hx.length+1:=by omega
 have k4:¬9223372036854775807<st.length+1+hx.length+1+17:=by omega
 go_region_held3 (fun w'=>w'.cell? ⟨g,0,none⟩=some (.int .u64 x))
  (first
   |(with_reducible exact HC.out _ B.out)
   |(go_keep;done))
  (first
   |(go_at_call 163;refine(ST.out _ B.out).mono ?_;rintro e w' ⟨rfl,hb⟩;replace B:=bt0 B hb;clear hb)
   |(go_at_call 51;refine(HT.out _ B.out).mono ?_;rintro e w' ⟨rfl,hb⟩;replace B:=bt0 B hb;clear hb)
   |(go_at_call 164;refine(BT.out _ B.out).mono ?_;rintro e w' ⟨rfl,hb⟩;replace B:=bt0 B hb;clear hb))
 go_wp2;go_ret;refine⟨?_,B.out⟩;exact congrArg (fun z=>Ending.returned (Value.string z)) (by apply eK;simp [lY])
theorem Kq (b:UInt8):∀c:Nat,repeatL [b] c=List.replicate c b
 | 0=>rfl
 |c+1=>by
  show [b]++repeatL [b] c=_
  rw[Kq b c,se];rfl
theorem a8.below' {w w0 w':World}{b:Nat}{T:TypeId}{v:Int}{mi pl bl ze al:Bool}{wd pr:Int}(h:a8 w b T v mi pl bl ze al wd pr) (hb:Below w0.heap.size w0 w') (e:w0.heap=w.heap):a8 w' b T v mi pl bl ze al wd pr:=
 a8.below (w:=w0) (by unfold a8 at *;rw[e];exact h) hb
theorem Bu (b:UInt8) (c:Nat) (X:Int) (hX:X=(c:Int)) (h:c<=1000) (w:World):
  Calls prog 26 #[.string ⟨#[b]⟩,.int .i64 X] w fun e w'=>e=.returned (.string ⟨(List.replicate c b).toArray⟩)/\Below w.heap.size w w':=by
 subst hX;have h:=Any.strings_Repeat Tryz.laysRepeat Au ⟨#[b]⟩ c w (by omega) (by show 1*c<=_;omega);rw[CE]at h;refine h.mono ?_;rintro e w' ⟨rfl,hb⟩;exact⟨by rw[show(ByteArray.mk #[b]).data.toList=[b] from rfl,Kq],hb⟩
def Ln (K:Nat) (S:ByteArray):Prop:=S.size<=K/\(10:UInt8) ∉ S.data.toList
theorem Ln.app {a b K:Nat}{S T:ByteArray}(h:Ln a S) (k:Ln b T) (hK:a+b<=K):Ln K (S++T):=by
 refine⟨by rw[qL];have :=h.1;have :=k.1;omega,?_⟩;rw[lY,Array.toList_append];intro g;rcases gF.1 g with g|g
 .exact h.2 g
 .exact k.2 g
theorem Ln.cut {K:Nat}{S:ByteArray}(h:Ln K S) (i j:Nat):Ln K (S.extract i j):=by
 refine⟨by rw[mW];have :=h.1;omega,fun g=>h.2 ?_⟩;rw[ir,Array.toList_extract]at g;simp only[List.extract_eq_take_drop]at g;exact zF (kU g)
theorem Ln.le {a K:Nat}{S:ByteArray}(h:Ln a S) (hK:a<=K):Ln K S:=⟨by have :=h.1;omega,h.2⟩
theorem Ln.of {K:Nat}{s:List UInt8}(h:s.length<=K) (g:(10:UInt8) ∉ s):Ln K ⟨s.toArray⟩:=⟨by show s.toArray.size<=K;simpa using h,by simpa using g⟩
theorem nf {K:Nat}{s:List UInt8}(h:s.length<=K) (g:s.all gG=true):Ln K ⟨s.toArray⟩:=Ln.of h fun k=>absurd (n_.1 g 10 k) (by decide)
theorem MV {s:List UInt8}(h:s.all gS=true) (p:Nat):(pt s p).all gS=true:=by
 have g:=uC (p+1-s.length);unfold pt;split
 .exact h
 .have k:(List.replicate (p+1-s.length) 48++s).all gS=true:=by rw[g_,g,h];rfl
  rw[g_,pq,zd _ k,AP _ k];rfl
theorem zf (x p m:Int):(o8 x p m).all gG=true:=by
 unfold o8;split
 .apply rS;rw[g_,AM,MV (qO _)];rfl
 .rfl
theorem xq (x p m:Int):(oy x p m).all gG=true:=by
 unfold oy;split
 .apply rS
  have h:(jX (ai x) p.toNat m).all gS=true:=by
   unfold jX oL;split
   .exact uC _
   .split
    .exact zd _ (qO _)
    .exact qO _
  unfold vA;rw[g_,g_,g_,AM,MV h,FH];rfl
 .rfl
theorem Vc (x p m:Int):(qz x p m).all gG=true:=by
 unfold qz;split
 .exact Hc _ _ _
 .rfl
theorem JI (s:List UInt8) (c:UInt8):indexByte s c= -1\/∃k:Nat,k<s.length/\indexByte s c=(k:Int):=by
 have h:=Lib.indexByte_ge s c;by_cases g:indexByte s c= -1
 .exact Or.inl g
 .obtain⟨k,hk⟩:=gH (show 0<=indexByte s c by omega)
  refine Or.inr ⟨k,?_,hk⟩;have :=(Lib.indexByte_some hk).1;exact(iH.1 this).1
theorem ZW {l:List UInt8}{c:UInt8} :(trimRightB l c).length<=l.length/\∀b∈trimRightB l c,b∈l:=by
 unfold trimRightB;have h:=Fc (· ==c) (l:=l.reverse)
 refine⟨by rw[um];have :=h.length_le;rwa [um]at this,fun b hb=>?_⟩;exact Ad.1 (h.mem (Ad.1 hb))
theorem TD {l p:List UInt8} :(Lib.trimSuffix l p).length<=l.length/\∀b∈Lib.trimSuffix l p,b∈l:=by
 unfold Lib.trimSuffix;split
 .exact⟨by rw[dj];omega,fun b hb=>kU hb⟩
 .exact⟨ae _,fun b hb=>hb⟩
theorem CW {x p:Int}(x0:0<=x) (x1:x<=18446744073709551615) (p0:0<=p) (p1:p<=300):(o8 x p 0).length<=9500:=by
 unfold o8;split
 .obtain⟨q,rfl⟩:=gH p0
  obtain⟨K,hK⟩:∃K:Nat,K=9000:=⟨_,rfl⟩;obtain⟨b1,b2⟩:=BH x0 x1 (t:=(q:Int)) (by omega) (by omega) (K:=K) (by omega);have hq:=xa (ai x) (q:Int) 0 b1;have hql:=AQ (by omega) hq;have hpl:=Ca (dQ (ai x) q 0) q (K+1) hql;have hsl:=tC x;rw[ck,gf];omega
 .simp
theorem CG {x g:Int}(x0:0<=x) (x1:x<=18446744073709551615) (g0:1<=g) (g1:g<=300):(oy x g 0).length<=500:=by
 unfold oy;split
 .obtain⟨q,rfl⟩:=gH (show 0<=g by omega)
  rw[gf];have hmid:=uH x0 x1;have hlen:=xJ hmid (g:=q) (by omega) 0;obtain⟨bp0,bp1⟩:=yj hmid q 0;have hpw:=Ct (jL (ai x) q 0) (by omega);have hsl:=tC x
  have hpl:(pt (jX (ai x) q 0) (q-1)).length<=302:=by
   rw[AU (by omega) hlen];split
   .omega
   .simp;omega
  unfold vA;simp only[ck,ez,Ac];omega
 .simp
theorem TA (x:Int) (d:D) (n:Nat) (hn:n<=100) (h:(cO d).natAbs<100000):(fG x d n).length<=200:=by
 unfold fG il;have h1:(fq x).length<=3:=by unfold fq;split <;> simp
 have h2:=Bc (cO d) h;have h3:=wK (d.m*2^(4*n-(aC d.m-1))) n;rw[ck];split
 .split <;> simp <;> omega
 .simp only[ck]
  rw[h3];split <;> split <;> simp <;> omega
theorem aa4 {x p:Int}(x0:0<=x) (x1:x<=18446744073709551615) (p0:0<=p) (p1:p<=100):(qz x p 0).length<=200:=by
 unfold qz;split
 .obtain⟨q,rfl⟩:=gH p0
  rw[gf];obtain⟨f1,f2,f3,f4,f5⟩:=dR x x0 x1;have hbl:aC (ai x).m<=53:=nF f2;have hplb: -2500<=cO (ai x)-4*(q:Int)/\cO (ai x)-4*(q:Int)<=2500:=by unfold cO;omega
  obtain⟨g1,g2,g3⟩:=Gv f2 (cO (ai x)-4*(q:Int)) 0 (by omega) (by omega) hplb.1 hplb.2;refine TA _ _ _ (by omega) ?_;have hfit:=Lh (d:=ai x) q 0;have e:rK x q 0=eG (ai x) (cO (ai x)-4*(q:Int)) 0:=rfl;rw[e];unfold cO at *;omega
 .simp
theorem GH (S U V R:ByteArray) (k n:Nat) (j:Int) (b:Bool) (hR:(j= -1/\k=n/\R=bif b then V else S.extract 0 k)\/(j=(k:Int)/\k<n/\R=bif b then V++S.extract k n else S.extract 0 n)) (zn:n<=10000) (zS:S.size=n) (zV:V.size<=10000) (w:World)
  (IX:Hid (∀w':World,Calls prog 47 #[.string S,.int .u8 101] w' fun e w2=>e=.returned (.int .i64 j)/\w2=w'))
  (CT:Hid (∀w':World,Calls prog 53 #[.string (S.extract 0 k),.string ⟨#[46]⟩] w' fun e w2=>e=.returned (.bool b)/\w2=w'))
  (TR:Hid (∀w':World,Calls prog 131 #[.string (S.extract 0 k),.string ⟨#[48]⟩] w' fun e w2=>e=.returned (.string U)/\w2=w'))
  (TS:Hid (∀w':World,Calls prog 130 #[.string U,.string ⟨#[46]⟩] w' fun e w2=>e=.returned (.string V)/\w2=w')):
  Calls prog 86 #[.string S] w fun e w'=>e=.returned (.string R)/\Below w.heap.size w w':=by
 have hkn:k<=n:=by omega
 have HM2:(S.extract 0 k).size=k:=by rw[mW];omega
 have HR2:(S.extract k n).size<=10000:=by rw[mW];omega
 rcases hR with⟨rfl,rfl,rfl⟩|⟨rfl,hk,rfl⟩ <;> cases b
 all_goals
  simp only[Fq,Fs];go_enter func86,ntmps86
  go_wp2_with (first
   |(go_at_call 47;refine(IX.out _).mono ?_;rintro e w1 ⟨rfl,rfl⟩)
   |(go_at_call 53;refine(CT.out _).mono ?_;rintro e w1 ⟨rfl,rfl⟩)
   |(go_at_call 131;refine(TR.out _).mono ?_;rintro e w1 ⟨rfl,rfl⟩)
   |(go_at_call 130;refine(TS.out _).mono ?_;rintro e w1 ⟨rfl,rfl⟩))
  all_goals first
   |(go_ret;exact⟨rfl,Below.refl _ _⟩;done)
   |(go_ret;exact⟨rfl,by go_grown⟩;done)
theorem JJ {K:Nat}{S:ByteArray}(h:Ln K S) (hK:K<=10000):∃R,Ln K R/\∀w,Calls prog 86 #[.string S] w fun e w'=>e=.returned (.string R)/\Below w.heap.size w w':=by
 have IX:=fun w'=>Az S 101 w'
 rw[show Int.toNat 101=101 from rfl,show Nat.toUInt8 101=101 from rfl]at IX;have hz:=h.1
 have key:∀k:Nat,k<=S.size->∃(U V:ByteArray) (b:Bool),Ln k V/\
   (∀w':World,Calls prog 53 #[.string (S.extract 0 k),.string ⟨#[46]⟩] w' fun e w2=>e=.returned (.bool b)/\w2=w')/\
   (∀w':World,Calls prog 131 #[.string (S.extract 0 k),.string ⟨#[48]⟩] w' fun e w2=>e=.returned (.string U)/\w2=w')/\
   (∀w':World,Calls prog 130 #[.string U,.string ⟨#[46]⟩] w' fun e w2=>e=.returned (.string V)/\w2=w'):=by
  intro k hk;have hM:=h.cut 0 k;have hs:(S.extract 0 k).size=k:=by rw[mW];omega
  generalize S.extract 0 k=M at *;have hl:M.data.toList.length=k:=by rw[<-hs,OA];rfl
  obtain⟨a1,a2⟩:=ZW (l:=M.data.toList) (c:=48);obtain⟨b1,b2⟩:=TD (l:=trimRightB M.data.toList 48) (p:=[46]);refine⟨_,⟨(Lib.trimSuffix (trimRightB M.data.toList 48) [46]).toArray⟩,_,Ln.of (by omega) (fun g=>hM.2 (a2 _ (b2 _ g))),fun w'=>Ns M 46 w',fun w'=>Zw M (by omega) w',fun w'=>?_⟩;exact Pc ⟨(trimRightB M.data.toList 48).toArray⟩ ⟨#[46]⟩ w' (by show(trimRightB M.data.toList 48).toArray.size<=_;simp;omega)
 have hl:S.data.toList.length=S.size:=by rw[OA];rfl
 rcases JI S.data.toList 101 with g|⟨k,hk,g⟩
 .obtain⟨U,V,b,hV,CT,TR,TS⟩:=key S.size le0
  rw[g]at IX;refine⟨bif b then V else S.extract 0 S.size,by cases b;exact h.cut _ _;exact hV.le hz,fun w=>?_⟩;exact GH S U V _ S.size S.size (-1) b (Or.inl ⟨rfl,rfl,rfl⟩) (by omega) rfl (by have :=hV.1;omega) w (hid IX) (hid CT) (hid TR) (hid TS)
 .obtain⟨U,V,b,hV,CT,TR,TS⟩:=key k (by omega)
  rw[g]at IX;have hc:Ln (S.size-k) (S.extract k S.size):=⟨by rw[mW];omega,(h.cut _ _).2⟩;refine⟨bif b then V++S.extract k S.size else S.extract 0 S.size,by cases b;exact h.cut _ _;exact hV.app hc (by omega),fun w=>?_⟩;exact GH S U V _ k S.size k b (Or.inr ⟨rfl,by omega,rfl⟩) (by omega) rfl (by have :=hV.1;omega) w (hid IX) (hid CT) (hid TR) (hid TS)
theorem H9 (v:Int) (mi pl bl ze al:Bool) (wd pr:Int) (x:Int) (q:Int) (g:Nat) (hq:max q 1=(g:Int)) (g0:1<=g) (g1:g<=200) (q1:q<=200) (q0:0<=q) (k:Int) (k0: -1000<=k) (k1:k<=1000) (S R D:ByteArray) (c1 c2:Bool) (e1:Int) (w:World) (hT:aQ w) (hT10:b_ w)
  (VL:Hid (∀w':World,aQ w'->Calls prog 79 #[.int .u64 x] w' fun e w2=>∃vd,e=.returned vd/\Hid (DV w2 vd (ai x))/\Below w'.heap.size w' w2))
  (DG:Hid (∀vd (w':World),DV w' vd (ai x)->b_ w'->Calls prog 84 #[vd,.int .i64 (g:Int),.int .i64 0] w' fun e w2=>e=.returned (.tuple #[.string D,.int .i64 k,.bool c1])/\Below w'.heap.size w' w2))
  (hB:((-4<=k/\k<(g:Int))/\∀w':World,aQ w'->b_ w'->Calls prog 48 #[.int .u64 x,.int .i64 ((g:Int)-1-k),.int .i64 0] w' fun e w2=>e=.returned (.tuple #[.string S,.bool c2,.int .i64 e1])/\Below w'.heap.size w' w2)\/
   (¬(-4<=k/\k<(g:Int))/\∀w':World,aQ w'->b_ w'->Calls prog 49 #[.int .u64 x,.int .i64 (g:Int),.int .i64 0] w' fun e w2=>e=.returned (.tuple #[.string S,.bool c2,.int .i64 e1])/\Below w'.heap.size w' w2))
  (SH:Hid (∀w':World,Calls prog 86 #[.string S] w' fun e w2=>e=.returned (.string R)/\Below w'.heap.size w' w2)):
  Calls prog 50 #[.agg #[.int .i64 v,.bool mi,.bool pl,.bool bl,.bool ze,.bool al,.int .i64 wd,.int .i64 pr],.int .u64 x,.int .i64 q] w fun e w'=>e=.returned (.string (bif al then S else R))/\Below w.heap.size w w':=by
 have HT:=hid hT;have H10:=hid hT10;clear hT hT10;rcases hB with⟨hk0,hB⟩|⟨hk0,hB⟩ <;> cases al
 all_goals
  have BD:=hid hB;have hk:=hid (⟨hk0,trivial⟩:_/\True);clear hB hk0;simp only[Fq,Fs];go_enter func50,ntmps50;go_wp2_with fail
  refine(VL.out _ (HT.out.alloc _)).mono ?_;rintro e w1 ⟨vd,rfl,hv,hb⟩;have X:=hid ((a8.new w _ _ _ _ _ _ _ _ _).below hb);have B:Hid (Below w.heap.size w w1):=hid (af ((Below.refl w.heap.size w).alloc le0 _) le0 hb);replace HT:=hid (HT.out.below B.out);replace H10:=hid (H10.out.below B.out);clear hb;go_wp2_with fail
  refine(DG.out _ _ hv.out H10.out).mono ?_;rintro e w2 ⟨rfl,hb⟩;replace X:=hid (X.out.below hb);replace B:=bt0 B hb;replace HT:=hid (HT.out.below hb);replace H10:=hid (H10.out.below hb);clear hb hv
  go_wp2_with (first
   |((first|go_at_call 49|go_at_call 48);refine(BD.out _ HT.out H10.out).mono ?_;rintro e w3 ⟨rfl,hb⟩;replace X:=hid (X.out.below hb);replace B:=bt0 B hb;clear hb;obtain⟨z0,z1,z2,z3,z4,z5,z6,z7⟩:=X.out.cells;clear z0 z1 z2 z3 z4 z6 z7)
   |(go_at_call 86;refine(SH.out _).mono ?_;rintro e w4 ⟨rfl,hb⟩;replace B:=bt0 B hb;clear hb))
  all_goals first
   |(go_ret;exact⟨rfl,B.out⟩;done)
   |(exfalso;omega)
   |(exfalso;exact hk.out.1 ⟨by omega,by omega⟩;done)
   |(exfalso;have :=hk.out.1;omega)
theorem MQ (v:Int) (mi pl bl ze al:Bool) (wd pr:Int) (x:Int) (x0:0<=x) (x1:x<=18446744073709551615) (q:Int) (q0:0<=q) (q1:q<=200):
  ∃R,Ln 9500 R/\∀w,aQ w->b_ w->Calls prog 50 #[.agg #[.int .i64 v,.bool mi,.bool pl,.bool bl,.bool ze,.bool al,.int .i64 wd,.int .i64 pr],.int .u64 x,.int .i64 q] w fun e w'=>e=.returned (.string R)/\Below w.heap.size w w':=by
 obtain⟨g,hg⟩:∃g:Nat,max q 1=(g:Int):=⟨(max q 1).toNat,by omega⟩;have hmid:=uH x0 x1;obtain⟨k0,k1⟩:=yj hmid g 0
 have VL:Hid (∀w':World,aQ w'->Calls prog 79 #[.int .u64 x] w' fun e w2=>∃vd,e=.returned vd/\Hid (DV w2 vd (ai x))/\Below w'.heap.size w' w2):=
  hid (fun w' h=>(ia x x0 x1 w' h).mono (by rintro e w2 ⟨vd,h1,h2,h3⟩;exact⟨vd,h1,hid h2,h3⟩))
 have DG:=hid (fun vd w' (h:DV w' vd (ai x)) h2=>AG vd (ai x) g 0 w' h hmid (by omega) (by omega) (by omega) (by omega) h2);unfold rX at DG;by_cases hk: -4<=jL (ai x) g 0/\jL (ai x) g 0<(g:Int)
 .have hS:Ln 9500 ⟨(o8 x ((g:Int)-1-jL (ai x) g 0) 0).toArray⟩:=nf (CW x0 x1 (by omega) (by omega)) (zf _ _ _)
  obtain⟨R,hR,SH⟩:=JJ hS (by omega);refine⟨_,?_,fun w hT h10=>H9 v mi pl bl ze al wd pr x q g hg (by omega) (by omega) (by omega) q0 _ (by omega) (by omega) _ R _ _ _ _ w hT h10 VL DG (Or.inl ⟨hk,fun w' h1 h2=>xQ x ((g:Int)-1-jL (ai x) g 0) 0 x0 x1 w' h1 h2⟩) (hid SH)⟩;cases al
  .exact hR
  .exact hS
 .have hS:Ln 9500 ⟨(oy x (g:Int) 0).toArray⟩:=nf (ct (CG x0 x1 (by omega) (by omega)) (by omega)) (xq _ _ _)
  obtain⟨R,hR,SH⟩:=JJ hS (by omega);refine⟨_,?_,fun w hT h10=>H9 v mi pl bl ze al wd pr x q g hg (by omega) (by omega) (by omega) q0 _ (by omega) (by omega) _ R _ _ _ _ w hT h10 VL DG (Or.inr ⟨hk,fun w' h1 h2=>xK x (g:Int) 0 x0 x1 w' h1 h2⟩) (hid SH)⟩;cases al
  .exact hR
  .exact hS
abbrev bS (n:Nat) (a:Array Value) (S:ByteArray):Prop:= ∀w':World,aQ w'->b_ w'->Calls prog n a w' fun e w2=>e=.returned (.string S)/\Below w'.heap.size w' w2
abbrev bT (n:Nat) (a:Array Value) (S:ByteArray):Prop:= ∃(c2:Bool) (e1:Int),∀w':World,aQ w'->b_ w'->Calls prog n a w' fun e w2=>e=.returned (.tuple #[.string S,.bool c2,.int .i64 e1])/\Below w'.heap.size w' w2
abbrev Lu (v pr x:Int) (S:ByteArray) (sp:Value):Prop:=
 (v=102/\pr<0/\bT 48 #[.int .u64 x,.int .i64 6,.int .i64 0] S)\/
 (v=102/\0<=pr/\bT 48 #[.int .u64 x,.int .i64 pr,.int .i64 0] S)\/
 (v=101/\pr<0/\bT 49 #[.int .u64 x,.int .i64 7,.int .i64 0] S)\/
 (v=101/\0<=pr/\bT 49 #[.int .u64 x,.int .i64 (pr+1),.int .i64 0] S)\/
 (v=97/\0<=pr/\bT 52 #[.int .u64 x,.int .i64 pr,.int .i64 0] S)\/
 (v=97/\pr<0/\bS 51 #[.int .u64 x] S)\/
 (v=103/\pr<0/\bS 50 #[sp,.int .u64 x,.int .i64 6] S)\/
 (v=103/\0<=pr/\bS 50 #[sp,.int .u64 x,.int .i64 pr] S)
theorem QE (v:Int) (mi pl bl ze al:Bool) (wd pr:Int) (hp2:pr<=1000) (hp3: -1000<=pr) (x:Int) (S R:ByteArray) (k n:Nat) (j:Int) (b:Bool) (zn:n<=10000) (zS:S.size=n) (w:World) (hT:aQ w) (hT10:b_ w)
  (hB:Lu v pr x S (.agg #[.int .i64 v,.bool mi,.bool pl,.bool bl,.bool ze,.bool al,.int .i64 wd,.int .i64 pr]))
  (hR:(al=false/\R=S)\/(al=true/\b=true/\R=S)\/(al=true/\b=false/\j=(k:Int)/\k<n/\R=S.extract 0 k++⟨#[46]⟩++S.extract k n)\/(al=true/\b=false/\j= -1/\k<n+1/\R=S.extract 0 n++⟨#[46]⟩))
  (CT:Hid (∀w':World,Calls prog 53 #[.string S,.string ⟨#[46]⟩] w' fun e w2=>e=.returned (.bool b)/\w2=w'))
  (c:Int) (hc:c=if v=97 then 112 else 101) (IX:Hid (∀w':World,Calls prog 47 #[.string S,.int .u8 c] w' fun e w2=>e=.returned (.int .i64 j)/\w2=w')):
  Calls prog 24 #[.agg #[.int .i64 v,.bool mi,.bool pl,.bool bl,.bool ze,.bool al,.int .i64 wd,.int .i64 pr],.int .u64 x] w fun e w'=>e=.returned (.string R)/\Below w.heap.size w w':=by
 have HT:=hid hT;have H10:=hid hT10;clear hT hT10;have z1:(S.extract 0 k).size<=10000:=by rw[mW];omega
 have z2:(S.extract k n).size<=10000:=by rw[mW];omega
 rcases hB with⟨rfl,hp,c2,e1,hB⟩|⟨rfl,hp,c2,e1,hB⟩|⟨rfl,hp,c2,e1,hB⟩|⟨rfl,hp,c2,e1,hB⟩|⟨rfl,hp,c2,e1,hB⟩|⟨rfl,hp,hB⟩|⟨rfl,hp,hB⟩|⟨rfl,hp,hB⟩
 all_goals
  have BD:=hid hB;clear hB
  first
   |rw[aj rfl]at hc
   |rw[ag (by decide)]at hc
  subst hc;rcases hR with⟨rfl,rfl⟩|⟨rfl,rfl,rfl⟩|⟨rfl,rfl,rfl,hk,rfl⟩|⟨rfl,rfl,rfl,hk,rfl⟩
  all_goals
   go_enter func24,ntmps24;go_wp2_with fail
   refine(BD.out _ (HT.out.alloc _) (H10.out.below (br0.alloc le0 _))).mono ?_;rintro e w1 ⟨rfl,hb⟩;have X:=hid ((a8.new w _ _ _ _ _ _ _ _ _).below hb);have B:Hid (Below w.heap.size w w1):=hid (af ((Below.refl w.heap.size w).alloc le0 _) le0 hb);clear hb;obtain⟨z10,z11,z12,z13,z14,z15,z16,z17⟩:=X.out.cells;clear z11 z12 z13 z14 z16
   go_wp2_with (first
    |(go_at_call 53;refine(CT.out _).mono ?_;rintro e w2 ⟨rfl,rfl⟩)
    |(go_at_call 47;refine(IX.out _).mono ?_;rintro e w2 ⟨rfl,rfl⟩))
   all_goals first
    |(go_ret;exact⟨rfl,B.out⟩;done)
    |(exfalso;omega)
    |(go_quiet (fail)
      replace B:=hid (dh (n:=nq) B.out);go_wp2
      all_goals first
       |(go_ret;exact⟨rfl,B.out⟩;done)
       |(exfalso;omega)
       |(exfalso;simp_all;done))
    |(exfalso;simp_all;done)
theorem uR {x:Int}(h:dG x=true):ak x≠5/\ak x≠4:=by
 have h:=gY h;unfold ak;constructor <;> (repeat' split) <;> omega
theorem Zk {x:Int}(h:dG x=false):ak x=5\/ak x=4:=by
 have h:=Ft h;unfold ak;repeat' split
 all_goals omega
theorem Jl (x:Int) (d:D) (n:Nat):2<=(fG x d n).length:=by
 unfold fG fq;rw[ck];split <;> simp <;> omega
theorem ac7 (v:Int) (mi pl bl ze al:Bool) (wd pr:Int) (hv:(v=97/\pr<=30)\/(v=101/\pr<=100)\/(v=102/\pr<=100)\/(v=103/\pr<=100)) (hp0: -1<=pr) (x:Int) (x0:0<=x) (x1:x<=18446744073709551615) (hx:dG x=true):
  ∃R,Ln 9600 R/\(v=97->2<=R.size)/\bS 24 #[.agg #[.int .i64 v,.bool mi,.bool pl,.bool bl,.bool ze,.bool al,.int .i64 wd,.int .i64 pr],.int .u64 x] R:=by
 have key:∃S,Ln 9500 S/\(v=97->2<=S.size)/\Lu v pr x S (.agg #[.int .i64 v,.bool mi,.bool pl,.bool bl,.bool ze,.bool al,.int .i64 wd,.int .i64 pr]):=by
  rcases hv with⟨rfl,hp1⟩|⟨rfl,hp1⟩|⟨rfl,hp1⟩|⟨rfl,hp1⟩ <;> by_cases hp:pr<0
  .refine⟨_,nf (ct (AF x0 x1) (by omega)) (Jd _),fun _=>?_,Or.inr (Or.inr (Or.inr (Or.inr (Or.inr (Or.inl ⟨rfl,hp,fun w' h1 h2=>J4 x x0 x1 w' h1 h2⟩)))))⟩
   show 2<=(nS x).toArray.size
   unfold nS;rw[ag (uR hx).1,ag (uR hx).2]
   simpa using Jl _ _ _
  .refine⟨_,nf (ct (aa4 (p:=pr) x0 x1 (by omega) (by omega)) (by omega)) (Vc _ _ _),fun _=>?_,Or.inr (Or.inr (Or.inr (Or.inr (Or.inl ⟨rfl,by omega,_,_,fun w' h1 h2=>Uo x pr 0 x0 x1 w' h1 h2⟩))))⟩
   show 2<=(qz x pr 0).toArray.size
   have hE:oE x pr 0=0:=by unfold oE;rw[aj hx,aj (by omega)]
   unfold qz;rw[aj hE]
   simpa using Jl _ _ _
  .exact⟨_,nf (ct (CG (g:=7) x0 x1 (by omega) (by omega)) (by omega)) (xq _ _ _),by omega,Or.inr (Or.inr (Or.inl ⟨rfl,hp,_,_,fun w' h1 h2=>xK x 7 0 x0 x1 w' h1 h2⟩))⟩
  .exact⟨_,nf (ct (CG (g:=pr+1) x0 x1 (by omega) (by omega)) (by omega)) (xq _ _ _),by omega,Or.inr (Or.inr (Or.inr (Or.inl ⟨rfl,by omega,_,_,fun w' h1 h2=>xK x (pr+1) 0 x0 x1 w' h1 h2⟩)))⟩
  .exact⟨_,nf (CW (p:=6) x0 x1 (by omega) (by omega)) (zf _ _ _),by omega,Or.inl ⟨rfl,hp,_,_,fun w' h1 h2=>xQ x 6 0 x0 x1 w' h1 h2⟩⟩
  .exact⟨_,nf (CW (p:=pr) x0 x1 (by omega) (by omega)) (zf _ _ _),by omega,Or.inr (Or.inl ⟨rfl,by omega,_,_,fun w' h1 h2=>xQ x pr 0 x0 x1 w' h1 h2⟩)⟩
  .obtain⟨R,h,k⟩:=MQ 103 mi pl bl ze al wd pr x x0 x1 6 (by omega) (by omega)
   exact⟨R,h,by omega,Or.inr (Or.inr (Or.inr (Or.inr (Or.inr (Or.inr (Or.inl ⟨rfl,hp,k⟩))))))⟩
  .obtain⟨R,h,k⟩:=MQ 103 mi pl bl ze al wd pr x x0 x1 pr (by omega) (by omega)
   exact⟨R,h,by omega,Or.inr (Or.inr (Or.inr (Or.inr (Or.inr (Or.inr (Or.inr ⟨rfl,by omega,k⟩))))))⟩
 obtain⟨S,hS,h2,hB⟩:=key;obtain⟨c,hc⟩:∃c:Int,c=if v=97 then 112 else 101:=⟨_,rfl⟩
 have CT:=hid (fun w'=>Ns S 46 w');have IX:=hid (fun w'=>Az S c w');have hl:S.data.toList.length=S.size:=by rw[OA];rfl
 have h1:Ln 1 ⟨#[46]⟩:=⟨by decide,by decide⟩;have hz:=hS.1;generalize decide (0<=indexByte S.data.toList 46)=b at CT;have W:=fun(R:ByteArray) (k:Nat) j IX hR w hT h10=>QE v mi pl bl ze al wd pr (by omega) (by omega) x S R k S.size j b (by omega) rfl w hT h10 hB hR CT c hc IX
 cases al
 .exact⟨S,hS.le (by omega),h2,fun w hT h10=>W S 0 _ IX (Or.inl ⟨rfl,rfl⟩) w hT h10⟩
 cases b
 .rcases JI S.data.toList c.toNat.toUInt8 with g|⟨k,hk,g⟩
  .rw[g]at IX
   exact⟨S.extract 0 S.size++⟨#[46]⟩,(hS.cut _ _).app h1 (by omega),fun h=>by rw[qL,mW];have :=h2 h;omega,fun w hT h10=>W _ 0 _ IX (Or.inr (Or.inr (Or.inr ⟨rfl,rfl,rfl,by omega,rfl⟩))) w hT h10⟩
  .rw[g]at IX
   have hd:Ln k (S.extract 0 k):=⟨by rw[mW];omega,(hS.cut _ _).2⟩;have he:Ln (S.size-k) (S.extract k S.size):=⟨by rw[mW];omega,(hS.cut _ _).2⟩;exact⟨S.extract 0 k++⟨#[46]⟩++S.extract k S.size,(hd.app h1 le0).app he (by omega),fun h=>by rw[qL,qL,mW,mW];have :=h2 h;omega,fun w hT h10=>W _ k _ IX (Or.inr (Or.inr (Or.inl ⟨rfl,rfl,rfl,by omega,rfl⟩))) w hT h10⟩
 .exact⟨S,hS.le (by omega),h2,fun w hT h10=>W S 0 _ IX (Or.inr (Or.inl ⟨rfl,rfl,rfl⟩)) w hT h10⟩
abbrev S8 (w:World) (b:Nat) (v:Int) (mi pl bl ze al:Bool) (wd pr:Int):Prop:=
 w.cell? ⟨b,0,none⟩=some (.int .i64 v)/\w.cell? ⟨b,1,none⟩=some (.bool mi)/\w.cell? ⟨b,2,none⟩=some (.bool pl)/\w.cell? ⟨b,3,none⟩=some (.bool bl)/\w.cell? ⟨b,4,none⟩=some (.bool ze)/\w.cell? ⟨b,5,none⟩=some (.bool al)/\w.cell? ⟨b,6,none⟩=some (.int .i64 wd)/\w.cell? ⟨b,7,none⟩=some (.int .i64 pr)
theorem ZY (v:Int) (mi pl bl ze al:Bool) (wd pr:Int) (hv:(v=97/\pr<=30)\/(v=101/\pr<=100)\/(v=102/\pr<=100)\/(v=103/\pr<=100)) (w0:0<=wd) (w1:wd<=200) (p0: -1<=pr) (x c y:Int) (vl:Bool) (BO HD PA PZ R:ByteArray) (hs bs n:Nat) (zH:HD.size=hs) (s1:hs<=1) (zB:BO.size=bs) (b1:bs<=10000)
  (hn:Hid (max (wd-(hs:Int)-(bs:Int)) 0=(n:Int)/\True)) (n1:n<=200) (zP:PA.size=n) (zQ:PZ.size=n) (w:World) (hT:aQ w) (hT10:b_ w)
  (SG:Hid (∀w':World,Calls prog 23 #[.agg #[.int .i64 v,.bool mi,.bool pl,.bool bl,.bool ze,.bool al,.int .i64 wd,.int .i64 pr],.int .u64 x] w' fun e w2=>e=.returned (.string HD)/\Below w'.heap.size w' w2))
  (CL:Hid (∀w':World,Calls prog 8 #[.int .u64 x] w' fun e w2=>e=.returned (.int .i64 c)/\w'=w2))
  (HV:Hid (∀w':World,Calls prog 27 #[.int .u64 x] w' fun e w2=>e=.returned (.bool vl)/\w'=w2))
  (AB:Hid (∀w':World,Calls prog 25 #[.int .u64 x] w' fun e w2=>e=.returned (.int .u64 y)/\w'=w2))
  (hB:(c=5/\vl=false/\BO=⟨#[110,97,110]⟩)\/(c=4/\vl=false/\BO=⟨#[105,110,102]⟩)\/((c==5)=false/\(c==4)=false/\vl=true))
  (VA:Hid ((c==5)=false->(c==4)=false->bS 24 #[.agg #[.int .i64 v,.bool mi,.bool pl,.bool bl,.bool ze,.bool al,.int .i64 wd,.int .i64 pr],.int .u64 y] BO))
  (RP:Hid (∀X (w':World),X=(n:Int)->Calls prog 26 #[.string ⟨#[32]⟩,.int .i64 X] w' fun e w2=>e=.returned (.string PA)/\Below w'.heap.size w' w2))
  (RZ:Hid (∀X (w':World),X=(n:Int)->Calls prog 26 #[.string ⟨#[48]⟩,.int .i64 X] w' fun e w2=>e=.returned (.string PZ)/\Below w'.heap.size w' w2))
  (hR:(mi=true/\R=HD++BO++PA)\/(mi=false/\ze=false/\R=PA++HD++BO)\/(mi=false/\ze=true/\vl=false/\R=PA++HD++BO)\/(mi=false/\ze=true/\vl=true/\v≠97/\R=HD++PZ++BO)):
  Calls prog 9 #[.agg #[.int .i64 v,.bool mi,.bool pl,.bool bl,.bool ze,.bool al,.int .i64 wd,.int .i64 pr],.int .u64 x] w fun e w'=>e=.returned (.tuple #[.string R,.int .i64 0])/\Below w.heap.size w w':=by
 have HT:=hid hT;have H10:=hid hT10;clear hT hT10;obtain⟨u,hu⟩:∃u,u=v:=⟨_,rfl⟩;rcases hv with⟨rfl,hp⟩|⟨rfl,hp⟩|⟨rfl,hp⟩|⟨rfl,hp⟩ <;> rcases hB with⟨rfl,rfl,rfl⟩|⟨rfl,rfl,rfl⟩|⟨h5,h4,rfl⟩
 all_goals
  go_enter func9,ntmps9;go_wp2_with fail
  refine(SG.out _).mono ?_;rintro e w3 ⟨rfl,hb⟩;have X:=hid ((a8.new w _ _ _ _ _ _ _ _ _).below hb);have B:Hid (Below w.heap.size w w3):=hid (af ((Below.refl w.heap.size w).alloc le0 _) le0 hb);replace HT:=hid (HT.out.below B.out);replace H10:=hid (H10.out.below B.out);clear hb;obtain⟨c0,c1,c2,c3,c4,c5,c6,c7⟩:=X.out.cells;go_wp2_with fail
  refine(CL.out _).mono ?_;rintro e w9 ⟨rfl,rfl⟩
  try
   replace VA:=hid (VA.out h5 h4);go_wp2_with fail
   first
    |(have h0:u=97:=hu
      clear h0 hu
      go_region_held3 (fun w'=>S8 w' w.heap.size 97 mi pl bl ze al wd pr)
       (first
        |exact⟨c0,c1,c2,c3,c4,c5,c6,c7⟩
        |exact X.out.cells
        |(go_keep;done))
       (first
        |(go_at_call 25;refine(AB.out _).mono ?_;rintro e w9 ⟨rfl,rfl⟩)
        |(go_at_call 24;refine(VA.out _ (by exact HT.out) (by exact H10.out)).mono ?_;rintro e w9 ⟨rfl,hb⟩;replace X:=hid (a8.below' X.out hb rfl);replace B:Hid (Below w.heap.size w w9):=hid (af (by first|exact B.out|exact dh (n:=1) B.out) le0 hb);clear hb)))
    |(have h0:u=101:=hu
      clear h0 hu
      go_region_held3 (fun w'=>S8 w' w.heap.size 101 mi pl bl ze al wd pr)
       (first
        |exact⟨c0,c1,c2,c3,c4,c5,c6,c7⟩
        |exact X.out.cells
        |(go_keep;done))
       (first
        |(go_at_call 25;refine(AB.out _).mono ?_;rintro e w9 ⟨rfl,rfl⟩)
        |(go_at_call 24;refine(VA.out _ (by exact HT.out) (by exact H10.out)).mono ?_;rintro e w9 ⟨rfl,hb⟩;replace X:=hid (a8.below' X.out hb rfl);replace B:Hid (Below w.heap.size w w9):=hid (af (by first|exact B.out|exact dh (n:=1) B.out) le0 hb);clear hb)))
    |(have h0:u=102:=hu
      clear h0 hu
      go_region_held3 (fun w'=>S8 w' w.heap.size 102 mi pl bl ze al wd pr)
       (first
        |exact⟨c0,c1,c2,c3,c4,c5,c6,c7⟩
        |exact X.out.cells
        |(go_keep;done))
       (first
        |(go_at_call 25;refine(AB.out _).mono ?_;rintro e w9 ⟨rfl,rfl⟩)
        |(go_at_call 24;refine(VA.out _ (by exact HT.out) (by exact H10.out)).mono ?_;rintro e w9 ⟨rfl,hb⟩;replace X:=hid (a8.below' X.out hb rfl);replace B:Hid (Below w.heap.size w w9):=hid (af (by first|exact B.out|exact dh (n:=1) B.out) le0 hb);clear hb)))
    |(have h0:u=103:=hu
      clear h0 hu
      go_region_held3 (fun w'=>S8 w' w.heap.size 103 mi pl bl ze al wd pr)
       (first
        |exact⟨c0,c1,c2,c3,c4,c5,c6,c7⟩
        |exact X.out.cells
        |(go_keep;done))
       (first
        |(go_at_call 25;refine(AB.out _).mono ?_;rintro e w9 ⟨rfl,rfl⟩)
        |(go_at_call 24;refine(VA.out _ (by exact HT.out) (by exact H10.out)).mono ?_;rintro e w9 ⟨rfl,hb⟩;replace X:=hid (a8.below' X.out hb rfl);replace B:Hid (Below w.heap.size w w9):=hid (af (by first|exact B.out|exact dh (n:=1) B.out) le0 hb);clear hb)))
   clear c0 c1 c2 c3 c4 c5 c6 c7;obtain⟨c0,c1,c2,c3,c4,c5,c6,c7⟩:=X.out.cells
  rcases hR with⟨rfl,rfl⟩|⟨rfl,rfl,rfl⟩|⟨rfl,rfl,hv2,rfl⟩|⟨rfl,rfl,hv2,h97,rfl⟩
  all_goals first
   |(exfalso;cases hv2;done)
   |(exfalso;exact h97 rfl)
   |(try (have h0:=h97;clear h0;replace RP:=RZ)
     go_wp2_with (first
      |(go_at_call 26;refine(RP.out _ _ (by first|exact hn.out.1|(have :=hn.out.1;omega))).mono ?_;rintro e w9 ⟨rfl,hb⟩;replace B:=bt0 B hb;clear hb)
      |(go_at_call 27;refine(HV.out _).mono ?_;rintro e w9 ⟨rfl,rfl⟩))
     all_goals first
      |(go_ret2;exact⟨rfl,B.out⟩;done)
      |(exfalso;omega)
      |(exfalso;simp_all;done))
theorem SJ (pl bl al:Bool) (wd pr:Int) (hv:pr<=30) (w0:0<=wd) (w1:wd<=200) (p0: -1<=pr) (x:Int) (c:Int) (h5:(c==5)=false) (h4:(c==4)=false) (y:Int) (BO:ByteArray) (bs:Nat) (zB:BO.size=bs) (b2:2<=bs) (b1:bs<=10000) (HD PA:ByteArray) (hs n:Nat) (zH:HD.size=hs) (s1:hs<=1) (hn:Hid (max (wd-(hs:Int)-(bs:Int)) 0=(n:Int)/\True)) (n1:n<=200) (zP:PA.size=n) (w:World) (hT:aQ w) (hT10:b_ w)
  (SG:Hid (∀w':World,Calls prog 23 #[.agg #[.int .i64 97,.bool false,.bool pl,.bool bl,.bool true,.bool al,.int .i64 wd,.int .i64 pr],.int .u64 x] w' fun e w2=>e=.returned (.string HD)/\Below w'.heap.size w' w2))
  (CL:Hid (∀w':World,Calls prog 8 #[.int .u64 x] w' fun e w2=>e=.returned (.int .i64 c)/\w'=w2))
  (AB:Hid (∀w':World,Calls prog 25 #[.int .u64 x] w' fun e w2=>e=.returned (.int .u64 y)/\w'=w2))
  (VA:Hid (∀w':World,aQ w'->b_ w'->Calls prog 24 #[.agg #[.int .i64 97,.bool false,.bool pl,.bool bl,.bool true,.bool al,.int .i64 wd,.int .i64 pr],.int .u64 y] w' fun e w2=>e=.returned (.string BO)/\Below w'.heap.size w' w2))
  (HV:Hid (∀w':World,Calls prog 27 #[.int .u64 x] w' fun e w2=>e=.returned (.bool true)/\w'=w2))
  (RP:Hid (∀X (w':World),X=(n:Int)->Calls prog 26 #[.string ⟨#[48]⟩,.int .i64 X] w' fun e w2=>e=.returned (.string PA)/\Below w'.heap.size w' w2)):
  Calls prog 9 #[.agg #[.int .i64 97,.bool false,.bool pl,.bool bl,.bool true,.bool al,.int .i64 wd,.int .i64 pr],.int .u64 x] w fun e w'=>e=.returned (.tuple #[.string ((HD++⟨#[48,120]⟩)++PA++BO.extract 2 bs),.int .i64 0])/\Below w.heap.size w w':=by
 have HT:=hid hT;have H10:=hid hT10;clear hT hT10;have q1:pr<=100:=by omega
 go_enter func9,ntmps9;go_wp2_with fail
 refine(SG.out _).mono ?_;rintro e w3 ⟨rfl,hb⟩;have X:=hid ((a8.new w _ _ _ _ _ _ _ _ _).below hb);have B:Hid (Below w.heap.size w w3):=hid (af ((Below.refl w.heap.size w).alloc le0 _) le0 hb);replace HT:=hid (HT.out.below B.out);replace H10:=hid (H10.out.below B.out);clear hb;obtain⟨c0,c1,c2,c3,c4,c5,c6,c7⟩:=X.out.cells;go_wp2_with (go_at_call 8;refine(CL.out _).mono ?_;rintro e w9 ⟨rfl,rfl⟩)
 go_region_held3 (fun w'=>w'.cell? ⟨w.heap.size,0,none⟩=some (.int .i64 97)/\w'.cell? ⟨w.heap.size,1,none⟩=some (.bool false)/\w'.cell? ⟨w.heap.size,2,none⟩=some (.bool pl)/\w'.cell? ⟨w.heap.size,3,none⟩=some (.bool bl)/\w'.cell? ⟨w.heap.size,4,none⟩=some (.bool true)/\w'.cell? ⟨w.heap.size,5,none⟩=some (.bool al)/\w'.cell? ⟨w.heap.size,6,none⟩=some (.int .i64 wd)/\w'.cell? ⟨w.heap.size,7,none⟩=some (.int .i64 pr))
  (first
   |exact⟨c0,c1,c2,c3,c4,c5,c6,c7⟩
   |exact X.out.cells
   |(go_keep;done))
  (first
   |(go_at_call 25;refine(AB.out _).mono ?_;rintro e w9 ⟨rfl,rfl⟩)
   |(go_at_call 24;refine(VA.out _ (by exact HT.out) (by exact H10.out)).mono ?_;rintro e w9 ⟨rfl,hb⟩;replace X:=hid (a8.below' X.out hb rfl);replace B:Hid (Below w.heap.size w w9):=hid (af (by first|exact B.out|exact dh (n:=1) B.out) le0 hb);clear hb))
 clear c0 c1 c2 c3 c4 c5 c6 c7;obtain⟨c0,c1,c2,c3,c4,c5,c6,c7⟩:=X.out.cells
 go_wp2_with (first
  |(go_at_call 26;refine(RP.out _ _ (by first|exact hn.out.1|(have :=hn.out.1;omega))).mono ?_;rintro e w9 ⟨rfl,hb⟩;replace B:=bt0 B hb;clear hb)
  |(go_at_call 27;refine(HV.out _).mono ?_;rintro e w9 ⟨rfl,rfl⟩))
 all_goals try (exfalso;omega)
 go_quiet (fail)
 replace B:=hid (dh (n:=nq) B.out);replace X:Hid (a8 _ _ _ _ _ _ _ _ _ _ _):=X
 go_wp2_with (first
  |(go_at_call 26;refine(RP.out _ _ (by first|exact hn.out.1|(have :=hn.out.1;omega))).mono ?_;rintro e w9 ⟨rfl,hb⟩;replace B:=bt0 B hb;clear hb)
  |(go_at_call 27;refine(HV.out _).mono ?_;rintro e w9 ⟨rfl,rfl⟩))
 all_goals first
  |(go_ret2;exact⟨rfl,B.out⟩;done)
  |(exfalso;omega)
  |(exfalso;simp_all;done)
  |trace_state
theorem Zs (v:Int) (mi pl bl ze al:Bool) (wd pr:Int) (x:Int) (w:World)
  (HB:Hid (True/\((v≠101/\v≠102/\v≠103/\v≠97)\/wd<0\/200<wd\/pr< -1\/(v=97/\30<pr)\/100<pr))):
  Calls prog 9 #[.agg #[.int .i64 v,.bool mi,.bool pl,.bool bl,.bool ze,.bool al,.int .i64 wd,.int .i64 pr],.int .u64 x] w fun e w'=>e=.returned (.tuple #[.string ⟨#[]⟩,.int .i64 1])/\Below w.heap.size w w':=by
 by_cases hv:v=97
 all_goals
  try subst hv
  go_enter func9,ntmps9;go_wp2_with fail
  all_goals first
   |(go_ret2;exact⟨rfl,by go_grown⟩;done)
   |(exfalso;have h:=HB.out.2;omega)
   |(exfalso;simp_all;done)
theorem ZU (f:kH) (x:Int):Ln 1 ⟨(oH f x).toArray⟩:=by
 unfold oH;repeat' split
 all_goals exact⟨by decide,by decide⟩
theorem JC (b:UInt8) (n:Nat) (hb:b≠10):Ln n ⟨(List.replicate n b).toArray⟩:=Ln.of (by simp) fun h=>hb (uf h).symm
theorem Vj (f:kH) (x:Int) (x0:0<=x) (x1:x<=18446744073709551615):
  ∃R E,Ln 20000 R/\(E=0\/E=1)/\∀w,aQ w->b_ w->Calls prog 9 #[f.v,.int .u64 x] w fun e w'=>e=.returned (.tuple #[.string R,.int .i64 E])/\Below w.heap.size w w':=by
 obtain⟨v,mi,pl,bl,ze,al,wd,pr⟩:=f;unfold kH.v;simp only;by_cases hbad:(v≠101/\v≠102/\v≠103/\v≠97)\/wd<0\/200<wd\/pr< -1\/(v=97/\30<pr)\/100<pr
 .exact⟨⟨#[]⟩,1,⟨by decide,by decide⟩,Or.inr rfl,fun w _ _=>Zs v mi pl bl ze al wd pr x w (hid ⟨trivial,hbad⟩)⟩
 have hv:(v=97/\pr<=30)\/(v=101/\pr<=100)\/(v=102/\pr<=100)\/(v=103/\pr<=100):=by omega
 have hb:=gV x
 have hO:∃BO,Ln 9600 BO/\((ak x=5/\dG x=false/\BO=⟨#[110,97,110]⟩)\/(ak x=4/\dG x=false/\BO=⟨#[105,110,102]⟩)\/((ak x==5)=false/\(ak x==4)=false/\dG x=true))/\(v=97->(ak x==5)=false->(ak x==4)=false->2<=BO.size)/\
   ((ak x==5)=false->(ak x==4)=false->bS 24 #[.agg #[.int .i64 v,.bool mi,.bool pl,.bool bl,.bool ze,.bool al,.int .i64 wd,.int .i64 pr],.int .u64 (ay x)] BO):=by
  cases hV:dG x with
  |false=>
   rcases Zk hV with h|h
   .exact⟨_,⟨by decide,by decide⟩,Or.inl ⟨h,rfl,rfl⟩,fun _ k=>(by rw[h]at k;cases k),fun k=>(by rw[h]at k;cases k)⟩
   .exact⟨_,⟨by decide,by decide⟩,Or.inr (Or.inl ⟨h,rfl,rfl⟩),fun _ _ k=>(by rw[h]at k;cases k),fun _ k=>(by rw[h]at k;cases k)⟩
  |true=>
   have hVf:dG (ay x)=true:=by unfold dG at hV ⊢;rw[show ay (ay x)=ay x by unfold ay;omega];exact hV
   obtain⟨R,h1,h2,h3⟩:=ac7 v mi pl bl ze al wd pr hv (by omega) (ay x) hb.1 (by omega) hVf;exact⟨R,h1,Or.inr (Or.inr ⟨by simp [(uR hV).1],by simp [(uR hV).2],rfl⟩),fun k _ _=>h2 k,fun _ _=>h3⟩
 obtain⟨BO,hO1,hO2,hO3,VA⟩:=hO;have hH:=ZU ⟨v,mi,pl,bl,ze,al,wd,pr⟩ x;have SG:=fun w'=>YM v mi pl bl ze al wd pr x x0 x1 w'
 generalize (⟨(oH ⟨v,mi,pl,bl,ze,al,wd,pr⟩ x).toArray⟩:ByteArray)=HD at *;obtain⟨n,hn⟩:∃n:Nat,max (wd-(HD.size:Int)-(BO.size:Int)) 0=(n:Int):=⟨_,(OB (by omega)).symm⟩;have hl:=hH.1;have ho:=hO1.1;have hn2:n<=200:=by omega
 have h32:=JC 32 n (by decide);have h48:=JC 48 n (by decide)
 have hzz:(ak x==4)=true->v=97->(ak x==5)=false->2<=BO.size:=by
  intro h _ _;rcases hO2 with⟨k,_⟩|⟨_,_,rfl⟩|⟨_,k,_⟩
  .rw[k]at h;cases h
  .decide
  .rw[k]at h;cases h
 have hb2:v=97->(ak x==5)=false->2<=BO.size:=by
  intro a b;cases h:ak x==4
  .exact hO3 a b h
  .exact hzz h a b
 have W:=fun R hR w hT h10=>ZY v mi pl bl ze al wd pr hv (by omega) (by omega) (by omega) x (ak x) (ay x) (dG x) BO HD _ _ R HD.size BO.size n rfl hl rfl (by omega) (hid ⟨hn,trivial⟩) hn2 (by show(List.replicate n 32).toArray.size=n;simp) (by show(List.replicate n 48).toArray.size=n;simp) w hT h10 (hid SG) (hid fun w'=>fB x x0 x1 w') (hid fun w'=>sI x x0 x1 w') (hid fun w'=>pN x x0 x1 w') hO2 (hid VA) (hid fun X w' h=>Bu 32 n X h (by omega) w') (hid fun X w' h=>Bu 48 n X h (by omega) w') hR
 have hA:=(hH.app hO1 le0).app h32 (K:=20000) (by omega);have hB:=(h32.app hH le0).app hO1 (K:=20000) (by omega);cases mi
 .cases ze
  .exact⟨_,0,hB,Or.inl rfl,fun w hT h10=>W _ (Or.inr (Or.inl ⟨rfl,rfl,rfl⟩)) w hT h10⟩
  .cases hV:dG x
   .exact⟨_,0,hB,Or.inl rfl,fun w hT h10=>W _ (Or.inr (Or.inr (Or.inl ⟨rfl,rfl,hV,rfl⟩))) w hT h10⟩
   .by_cases h97:v=97
    .subst h97
     obtain⟨f5,f4⟩:=uR hV;have k5:(ak x==5)=false:=by simp [f5]
     have k4:(ak x==4)=false:=by simp [f4]
     exact⟨_,0,(((hH.app (b:=2) ⟨by decide,by decide⟩ le0).app h48 le0).app (hO1.cut 2 BO.size) (by omega)),Or.inl rfl,fun w hT h10=>SJ pl bl al wd pr (by omega) (by omega) (by omega) (by omega) x (ak x) k5 k4 (ay x) BO BO.size rfl (hb2 rfl k5) (by omega) HD _ HD.size n rfl hl (hid ⟨hn,trivial⟩) hn2 (by show(List.replicate n 48).toArray.size=n;simp) w hT h10 (hid SG) (hid fun w'=>fB x x0 x1 w') (hid fun w'=>pN x x0 x1 w') (hid (VA k5 k4)) (hid fun w'=>by have :=sI x x0 x1 w';rwa [hV]at this) (hid fun X w' h=>Bu 48 n X h (by omega) w')⟩
    .exact⟨_,0,(hH.app h48 le0).app hO1 (by omega),Or.inl rfl,fun w hT h10=>W _ (Or.inr (Or.inr (Or.inr ⟨rfl,rfl,hV,h97,rfl⟩))) w hT h10⟩
 .exact⟨_,0,hA,Or.inl rfl,fun w hT h10=>W _ (Or.inl ⟨rfl,rfl⟩) w hT h10⟩
