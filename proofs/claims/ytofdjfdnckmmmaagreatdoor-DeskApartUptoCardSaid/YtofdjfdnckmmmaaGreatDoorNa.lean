import Derived.BigQuiet
import Derived.Test.YtofdjfdnckmmmaaGreatDoorBa
import Derived.Test.YtofdjfdnckmmmaaGreatDoorQd
set_option linter.all false
set_option maxHeartbeats 16000000
set_option maxRecDepth 100000
open Go.Proofs.Tryz
open Go.Lib (hid)
namespace Go.Proofs.YtofdjfdnckmmmaaGreatDoor
open Go.RowKit Nt
theorem Ko (ao:Option Addr) (n cap:Nat) (w:World) (h:n<=cap) (hm:cap<=9223372036854775807):
  Calls prog 139 #[.slice ao n cap] w fun e w'=>e=.returned (.slice ao n n)/\w=w':=by
 go_enter func139,ntmps139;go_wp2;go_ret;exact⟨by simp,rfl⟩
theorem ac8 {l:List Nat}{k:Nat}(hk:k+1<=l.length) (h:val (l.take (k+1))=val l) (h0:l[k]'(by omega)=0):val (l.take k)=val l:=by
 rw[iX l k (by omega),h0]at h;omega
theorem G_ {l:List Nat}{k:Nat}(hl:aI l) (hk:k<=l.length) (h0:∀j,k=j+1->l.getD j 0≠0):dA (l.take k):=by
 refine⟨hl.take k,?_⟩;rcases fl k with h|h
 .subst h;simp
 .obtain⟨j,rfl⟩:∃j,k=j+1:=⟨k-1,by omega⟩
  have h1:=h0 j rfl;rw[EJ,dj,i_ hk,kX,zO];simp only[Nat.lt_succ_self,cQ];intro h2;apply h1;rw[List.getD,h2];rfl
theorem KC {w:World}{ao:Option Addr}{l:List Nat}{cap k:Nat}(hl:aI l) (hk:k<=l.length) (hc:l.length<=cap) (hm:cap<=maxLen)
  (h:l.length<=0\/∃b off,ao=some ⟨b,off,none⟩/\b<w.heap.size/\∀i,i<l.length->w.cell? ⟨b,off+i,none⟩=some (.int .u32 ((l.getD i 0:Nat):Int))):
  Lim w (.slice ao k k) (l.take k):=by
 have hlen:(l.take k).length=k:=by rw[dj,i_ hk]
 refine⟨hl.take k,ao,k,by rw[hlen],by omega,by omega,?_⟩;rw[hlen];rcases h with h|⟨b,off,h1,h2,h3⟩
 .left;omega
 .right;refine⟨b,off,h1,h2,fun i hi=>?_⟩
  rw[h3 i (by omega)];simp [List.getD,zO,hi]
def kP (B:Nat) (w:World) (v:Value) (n:Nat):Prop:= ∃l ao,dA l/\val l=n/\Lim w v l/\v=.slice ao l.length l.length/\∀p,ao=some p->B<=p.block
theorem kP.nv {B:Nat}{w:World}{v:Value}{n:Nat}(h:kP B w v n):NV w v n:=by
 obtain⟨l,ao,h1,h2,h3,h4,-⟩:=h;exact⟨l,h1,h2,h3⟩
theorem JD {B:Nat}{w:World}{ao:Option Addr}{l:List Nat}{k n:Nat}(h:Lim w (.slice ao k k) (l.take k)) (hk:k<=l.length) (hn:dA (l.take k)) (hv:val (l.take k)=n) (hB:∀p,ao=some p->B<=p.block):kP B w (.slice ao k k) n:=
 ⟨l.take k,ao,hn,hv,h,by rw[dj,i_ hk],hB⟩
theorem Cm (v:Value) (l:List Nat) (B:Nat) (w:World) (hv:Lim w v l) (hBv:∀ao n c p,v=.slice ao n c->ao=some p->B<=p.block):
  Calls prog 104 #[v] w fun e w'=>(∃v',e=.returned v'/\kP B w' v' (val l))/\w=w':=by
 obtain⟨hl,ao,cap,rfl,hcap,hm,hc⟩:=hv;have HB:=hid (fun p=>hBv _ _ _ p rfl);clear hBv;have hc0:=hc;rcases hc with h0|⟨b,off,rfl,hb,hcell⟩
 all_goals
  have hm':=hm;unfold maxLen at hm';have HM:=hid hm;have HC:=hid hc0;clear hm hc0;go_enter func104,ntmps104;go_wp2
  go_loop [0] (fun a=>∃k:Nat,k<=l.length/\a=.slice _ k cap/\val (l.take k)=val l) (fun a=>match a with | .slice _ n _=>n|_=> 0)
  case atStart=>exact⟨l.length,ae _,rfl,by rw[lX]⟩
  case round=>
   obtain⟨k,hk,rfl,hval⟩:=hrel;have HV:=hid hval;clear hval;by_cases hk0:0<k
   .first
     |(exfalso;omega)
     |(obtain⟨j,rfl⟩:∃j,k=j+1:=⟨k-1,by omega⟩
       obtain⟨d,hd⟩:∃d,d=l.getD j 0:=⟨_,rfl⟩;have hck:=hcell j (by omega);rw[<-hd]at hck;have HD:=hid hd;clear hd;by_cases hz:d=0
       .subst hz
        go_wp2
        go_round
        case rel=>
         refine⟨j,by omega,by simp,ac8 (by omega) HV.out ?_⟩;have :=HD.out;simp only[List.getD,fO (show j<l.length by omega),N_]at this;exact this.symm
        case measure=>simp
       .have hz2:((d:Int)==0)=false:=by rw[aH];omega
        go_wp2_with (go_at_call 139;refine(Ko _ _ _ _ (by omega) (by omega)).mono ?_;rintro e w' ⟨rfl,rfl⟩)
        go_ret;refine⟨⟨_,rfl,?_⟩,rfl⟩
        have hn:dA (l.take (j+1)):=G_ hl (by omega) (fun i hi=>by obtain rfl:i=j:=by omega
                                                                  rw[<-HD.out];exact hz)
        have :=JD (KC hl (show j+1<=l.length by omega) hcap HM.out HC.out) (by omega) hn HV.out HB.out
        simpa using this)
   .obtain rfl:k=0:=by omega
    go_wp2_with (go_at_call 139;refine(Ko _ _ _ _ (by omega) (by omega)).mono ?_;rintro e w' ⟨rfl,rfl⟩)
    go_ret;refine⟨⟨_,rfl,?_⟩,rfl⟩;have hn:dA (l.take 0):=G_ hl (by omega) (fun i hi=>by omega);have :=JD (KC hl (d_ _) hcap HM.out HC.out) (d_ _) hn HV.out HB.out
    simpa using this
theorem p_ (v:Value) (l:List Nat) (w:World) (hv:Lim w v l):
  Calls prog 104 #[v] w fun e w'=>(∃v',e=.returned v'/\NV w v' (val l))/\w=w':=
 (Cm v l 0 w hv (fun _ _ _ _ _ _=>d_ _)).mono fun e w1 ⟨⟨v1,h1,h2⟩,h3⟩=>⟨⟨v1,h1,by rw[h3];exact h2.nv⟩,h3⟩
theorem ab8 {P:Program}{f:FuncId}{args:Array Value}{w:World}{a n:Nat}{v:Value}(h:∀W,Calls P f args W fun e w'=>e=.returned v/\w'=W):
  Calls P f args (w.drewN (a+n)) fun e w'=>e=.returned v/\∃m,w'=w.drewN (a+m):=
 (h _).mono fun _ _ ⟨he,hw⟩=>⟨he,n,hw⟩
theorem TH {w:World}{x:Int}(T:TypeId) (h0:0<=x) (h1:x<=18446744073709551615):
  Lim (w.alloc (.cells #[.int .u32 (x%4294967296),.int .u32 (x/4294967296)] T)) (.slice (some ⟨w.heap.size,0,none⟩) 2 2) [x.toNat%4294967296,x.toNat/4294967296]:=by
 refine⟨aI.cons (by omega) (aI.cons (by omega) aI.nil),some ⟨w.heap.size,0,none⟩,2,rfl,by simp,by unfold maxLen;omega,Or.inr ⟨w.heap.size,0,rfl,by simp,?_⟩⟩;obtain⟨n,rfl⟩:=gH h0;intro i hi
 match i,hi with
 | 0,_=>simp [go_sem]
 | 1,_=>simp [go_sem]
theorem val_two (n:Nat):val [n%4294967296,n/4294967296]=n:=by simp only[val];omega
theorem dU (x:Int) (h0:0<=x) (h1:x<=18446744073709551615) (w:World):
  Calls prog 61 #[.int .u64 x] w (kn w x.toNat):=by
 have hv:=val_two x.toNat;have hl:=fun T=> @TH w x T h0 h1
 have HV:=hid hv;have HL:=hid hl;clear hv hl;go_enter func61,ntmps61;go_wp2_with fail
 refine(p_ _ _ _ (HL.out _)).mono ?_;rintro e w' ⟨⟨v',rfl,hn⟩,rfl⟩;rw[HV.out]at hn;go_wp2_with fail
 go_ret;exact⟨v',rfl,hn,br0.alloc le0 _⟩
theorem Qt {l m:List Nat}(hl:dA l) (hm:dA m) (h:l.length≠m.length):aK (l.length:Int) (m.length:Int)=aK (val l:Int) (val m:Int):=by
 unfold aK;rcases Nat.lt_or_gt_of_ne h with h|h
 .have :=yN hl hm h;rw[aj (by omega),aj (by omega)]
 .have :=yN hm hl h;rw[ag (by omega),aj (by omega),ag (by omega),aj (by omega)]
theorem Yc {l m:List Nat}(hl:dA l) (hm:dA m) (h:l.length=m.length) (j:Nat) (hj:j<l.length) (hd:l.drop (j+1)=m.drop (j+1)) (hne:l.getD j 0≠m.getD j 0):
  aK ((l.getD j 0:Nat):Int) ((m.getD j 0:Nat):Int)=aK (val l:Int) (val m:Int):=by
 have e1:l.getD j 0=l[j]:=by simp [List.getD,hj]
 have e2:m.getD j 0=m[j]'(by omega):=by simp [List.getD,show j<m.length by omega]
 rw[e1,e2]at hne;rw[e1,e2];unfold aK;rcases Nat.lt_or_gt_of_ne hne with h3|h3
 .have :=Fz hl.1 h j hj hd h3;rw[aj (by omega),aj (by omega)]
 .have :=Fz hm.1 h.symm j (by omega) hd.symm h3;rw[ag (by omega),aj (by omega),ag (by omega),aj (by omega)]
theorem jF (va vb:Value) (a b:Nat) (w:World) (ha:NV w va a) (hb:NV w vb b):
  Calls prog 101 #[va,vb] w fun e w'=>e=.returned (.int .i64 (aK a b))/\∃n,w'=w.drewN n:=by
 obtain⟨l,hl,rfl,-,aa,ca,rfl,hca,hma,hA⟩:=ha;obtain⟨m,hm,rfl,-,ab,cb,rfl,hcb,hmb,hB⟩:=hb;unfold maxLen at hma hmb;by_cases hlt:l.length<m.length\/m.length<l.length
 .have e:=Qt hl hm (by omega)
  rw[<-e];clear e hA hB;rcases hlt with hlt|hlt
  all_goals
   go_enter func101,ntmps101;go_wp2_with (go_at_call 137;refine(MU _ _ _).mono ?_;rintro e w' ⟨rfl,rfl⟩)
   go_ret;exact⟨rfl,0,rfl⟩
 .have h1:l.length<=m.length:=by omega
  have h2:m.length<=l.length:=by omega
  have e:= @Yc l m hl hm (by omega);have e0:l=m->aK (val l:Int) (val m:Int)=0:=fun h=>by rw[h];unfold aK;omega
  generalize aK (val l:Int) (val m:Int)=R at *;have E:=hid e;have E0:=hid e0;clear e e0 hlt;rcases hA with hA|⟨ba,oa,rfl,hba,hcA⟩
  all_goals rcases hB with hB|⟨bb,ob,rfl,hbb,hcB⟩
  all_goals first
   |(exfalso;omega)
   |skip
  all_goals
   go_enter func101,ntmps101;go_wp2;go_loopw [5] (fun i wr=>∃k:Nat,k<=l.length/\i=.int .i64 ((k:Int)-1)/\l.drop k=m.drop k/\∃n,wr=w.drewN n) (fun i _=>(intOf i+1).toNat)
   case atStart=>exact⟨l.length,ae _,rfl,by rw[List.drop_length,ue (by omega)],0,rfl⟩
   case round=>
    obtain⟨k,hk,rfl,hdr,nw,rfl⟩:=hrel;have HDR:=hid hdr;clear hdr;by_cases hk0:0<k
    .first
      |(exfalso;omega)
      |(obtain⟨j,rfl⟩:∃j,k=j+1:=⟨k-1,by omega⟩
        rw[show(((j+1:Nat):Int)-1)=(j:Int) from by omega];obtain⟨x,hx⟩:∃x,x=l.getD j 0:=⟨_,rfl⟩;obtain⟨y,hy⟩:∃y,y=m.getD j 0:=⟨_,rfl⟩;have hcx:=hcA j (by omega);have hcy:=hcB j (by omega);rw[<-hx]at hcx;rw[<-hy]at hcy;have HX:=hid hx;have HY:=hid hy;clear hx hy hcA hcB;have i1:(j:Int)<(l.length:Int):=by omega
        have i2:(j:Int)<(m.length:Int):=by omega
        by_cases hxy:x=y
        .subst hxy
         have hb0:((x:Int) !=(x:Int))=false:=by simp
         go_wp2;go_quiet (fail)
         go_wp2;go_roundw
         case rel=>
          refine⟨j,by omega,by simp,?_,_,rfl⟩;rw[t_ (show j<l.length by omega),t_ (show j<m.length by omega),HDR.out];have a1:=HX.out;have a2:=HY.out;simp only[List.getD,fO (show j<l.length by omega),fO (show j<m.length by omega),N_]at a1 a2;rw[<-a1,<-a2]
         case measure=>simp [intOf]
        .have hb0:((x:Int) !=(y:Int))=true:=by simp;omega
         have hR:aK (x:Int) (y:Int)=R:=by
          have a1:=HX.out;have a2:=HY.out;have :=E.out j (by omega) HDR.out (by rw[<-a1,<-a2];exact hxy);rw[<-a1,<-a2]at this;exact this
         have HR:=hid hR;clear hR;go_wp2;go_quiet (fail)
         go_wp2;go_quiet ((go_at_call 138;exact ab8 (ad3 _ _)))
         go_wp2;go_ret;exact⟨by rw[HR.out];rfl,_,by rw[World.drewN_drewN,World.drewN_drewN]⟩)
    .obtain rfl:k=0:=by omega
     have hR:R=0:=E0.out (by have :=HDR.out;simpa using this);have HR:=hid hR;clear hR;go_wp2;go_ret;exact⟨by rw[HR.out];rfl,_,rfl⟩
def lc (l:List Nat):List Value:=l.map fun d=>Value.int .u32 ((d:Nat):Int)
theorem oO (l:List Nat):(lc l).length=l.length:=by simp [lc]
theorem Lr (l m:List Nat):lc (l++m)=lc l++lc m:=by simp [lc]
theorem wZ:(prog.info? 102).map (fun i=>(i.zero,i.size,i.bytes))=some (some (.int .u32 0),1,4):=by kernel_rfl
theorem vQ {B:Nat}{w w':World}{row:Option Nat}(hg:w.grownBy w' row) (hB:B<=w.heap.size) (hr:∀k,row=some k->B<=k):Below B w w':=
 (Below.refl B w).grown hg hB hr
theorem kl {ops:Array Oper}{rest:List Oper}{o:Oper}{a:Act}{Q:Exit->Act->World->Prop}{w0:World}{X:Int}(hgd:o.guard=none) (s x:Operand)
  (ho:o.op=.call { callee:= .builtin .append,args:= #[s,x],argTypes:= #[66,66] })
  (base:Nat) (hbase:base<=w0.heap.size) (v:Value) (l:List Nat) (hs:a.eval s=v) (hown:w0.ownsRow base 102 1 v l.length (lc l))
  (d:Nat) (hx:a.eval x=.slice (some ⟨w0.heap.size,0,none⟩) 1 1) (hX:X=(d:Int)) (hl:l.length<=10000000000000)
  (h:∀v' w',w'.ownsRow base 102 1 v' (l++[d]).length (lc (l++[d]))->Below base w0 w'->wpList prog ops Q rest (a.put o.dst v') w'):
  wpList prog ops Q (o::rest) a (w0.alloc (.cells #[.int .u32 X] 102)):=by
 obtain⟨i0,hi,hz0,hz1,hz2⟩:=info_parts wZ;subst hX;refine wpList_append_own _ hgd s x 66 ho base 102 i0 (.int .u32 0) 1 4 underlying66 hi hz0 hz1 hz2 rfl (by decide) v l.length (lc l) hs (hown.alloc _) ⟨w0.heap.size,0,none⟩ 1 1 [.int .u32 (d:Int)] hx rfl (cell_one_new _ _ _) (by intro u hu;simp at hu;subst hu;rfl) (by unfold maxLen;omega) (by omega) (by simp;omega) ?_;intro v' w1 hown1 hgrow _;refine h v' w1 ?_ ?_
 .rw[Lr,ck];exact hown1
 .refine((Below.refl base w0).alloc hbase _).trans (vQ hgrow (by simp;omega) ?_)
  intro k hk;exact(hown.lt k hk).1
theorem sT {w:World}{base:Nat}{v:Value}{l:List Nat}(h:w.ownsRow base 102 1 v l.length (lc l)) (hl:aI l):Lim w v l:=JZ h hl
theorem wY (w:World) (base:Nat):w.ownsRow base 102 1 (.slice none 0 0) ([]:List Nat).length (lc []):=World.ownsRow_nil _ _ _ _
theorem ad8 (n cap:Nat) (h:n<=cap):(madeCells #[Value.int .u32 0] cap).toList.take n=lc (List.replicate n 0):=by
 rw[toList_madeCells_one,List.take_replicate,i_ h];simp [lc]
theorem wW {ops:Array Oper}{rest:List Oper}{o:Oper}{a:Act}{Q:Exit->Act->World->Prop}{w:World}(hg:o.guard=none) (l c:Operand)
  (hop:o.op=Op.makeSlice 66 l c) (LI CI:Int) (n cap:Nat) (hl:a.eval l=.int .i64 LI) (hc:a.eval c=.int .i64 CI) (hL:LI=(n:Int)) (hC:CI=(cap:Int)) (hle:n<=cap) (hcap:cap<=10000000000000)
  (hK:∀w',w'.ownsRow w.heap.size 102 1 (.slice (some ⟨w.heap.size,0,none⟩) n cap) n (lc (List.replicate n 0))->Below w.heap.size w w'->wpList prog ops Q rest (a.put o.dst (.slice (some ⟨w.heap.size,0,none⟩) n cap)) w'):
  wpList prog ops Q (o::rest) a w:=by
 obtain⟨i0,hi,hz0,hz1,hz2⟩:=info_parts wZ;refine wpList_plain hg fun K hK'=>?_
 subst hL hC
 obtain⟨w',hrun,r1,r2⟩:∃w',(Instr.makeSlice 66 (.int .i64 (n:Int)) (.int .i64 (cap:Int))).run prog w=.ok (.slice (some ⟨w.heap.size,0,none⟩) n cap) w'/\
   w'.ownsRow w.heap.size 102 1 (.slice (some ⟨w.heap.size,0,none⟩) n cap) n (lc (List.replicate n 0))/\Below w.heap.size w w':=by
  have hrun:=run_make (P:=prog) w 66 102 i0 (.int .u32 0) underlying66 hi hz0 .i64 .i64 n cap (by omega) (by omega) (by rw[hz2];omega) (by omega);rw[gf,gf,hz1,fI]at hrun;refine⟨_,hrun,?_,br0.alloc le0 _⟩;refine⟨by rw[oO];simp,Or.inr ⟨w.heap.size,cap,_,rfl,ae _,heap_alloc_new w _,hle,by unfold maxLen;omega,by rw[size_madeCells];omega,?_⟩⟩;rw[fI];exact ad8 n cap hle
 unfold Oper.wp;simp [execOp,hop,hl,hc,hrun,Result.andThen];exact hK' _ _ (hK w' r1 r2)
theorem ux {w:World}{base g n cap:Nat}{o:List Nat}(h:w.ownsRow base 102 1 (.slice (some ⟨g,0,none⟩) n cap) n (lc o)) (j:Nat) (hj:j<n):
  w.cell? ⟨g,j,none⟩=some (.int .u32 ((o.getD j 0:Nat):Int))/\w.frozen? ⟨g,j,none⟩=false:=by
 have hn:o.length=n:=by have :=h.1;rw[oO]at this;omega
 refine⟨?_,h.frozenAt j⟩;rw[h.cellAt j (by omega)];simp [lc,List.getD,show j<o.length by omega]
theorem sw {w:World}{base g n cap:Nat}{o:List Nat}(h:w.ownsRow base 102 1 (.slice (some ⟨g,0,none⟩) n cap) n (lc o)) (j:Nat) {X:Int}(d:Nat) (hX:X=(d:Int)):
  (w.setCell ⟨g,j,none⟩ (.int .u32 X)).ownsRow base 102 1 (.slice (some ⟨g,0,none⟩) n cap) n (lc (o.set j d)):=by
 subst hX;have :=(h.stored j (.int .u32 (d:Int))).1;have e:lc (o.set j d)=(lc o).set j (.int .u32 (d:Int)):=by unfold lc;rw[List.map_set]
 rw[e];exact this
theorem yw {w:World}{base g n cap:Nat}{o:List Nat}(h:w.ownsRow base 102 1 (.slice (some ⟨g,0,none⟩) n cap) n (lc o)) (hl:aI o):Lim w (.slice (some ⟨g,0,none⟩) n cap) o:=JZ h hl
def mG (p q:List Nat) (k:Nat) (o:List Nat) (c:Nat):Prop:=o.length=k/\aI o/\c<=1/\val o+2^(32*k)*c=val (p.take k)+val (q.take k)
theorem mG.start (p q:List Nat):mG p q 0 [] 0:=⟨rfl,aI.nil,by omega,by simp [val]⟩
theorem PO {A W c x y:Nat}{P Q:Nat}(h:A+W*c=P+Q):A+W*((c+x+y)%4294967296)+4294967296*W*((c+x+y)/4294967296)=P+W*x+(Q+W*y):=by
 have h1:=kt (c+x+y) 4294967296
 have h2:W*((c+x+y)%4294967296)+4294967296*W*((c+x+y)/4294967296)=W*(c+x+y):=by
  rw[aW 4294967296 W,aF,<-cP];congr 1;omega
 rw[cP,cP]at h2;omega
theorem mG.step {p q o:List Nat}{k c x y:Nat}(h:mG p q k o c) (hk:k<p.length) (hx:x=p.getD k 0) (hy:y=q.getD k 0) (hp:aI p) (hq:aI q):
  mG p q (k+1) (o++[(c+x+y)%4294967296]) ((c+x+y)/4294967296):=by
 obtain⟨h1,h2,h3,h4⟩:=h;have hx1:x<4294967296:=by rw[hx];exact hp.getD k
 have hy1:y<4294967296:=by rw[hy];exact hq.getD k
 refine⟨by rw[ck,h1];rfl,h2.snoc (ew _ (by decide)),by omega,?_⟩;rw[nh,h1,kQ,iX p k hk];have e1:p[k]=x:=by rw[hx];simp [List.getD,hk]
 have e2:val (q.take (k+1))=val (q.take k)+2^(32*k)*y:=by
  by_cases hkq:k<q.length
  .rw[iX q k hkq,hy];simp [List.getD,hkq]
  .rw[dI (by omega),dI (by omega),hy];simp [List.getD,kV (mP hkq)]
 rw[e1,e2];exact PO h4
theorem mG.fin {p q o:List Nat}{c:Nat}(h:mG p q p.length o c) (hq:q.length<=p.length):aI (o++[c])/\val (o++[c])=val p+val q:=by
 obtain⟨h1,h2,h3,h4⟩:=h;refine⟨h2.snoc (by omega),?_⟩;rw[nh,h1,h4,lX,dI hq]
theorem gN (va vb:Value) (a b k0:Nat) (w:World) (ha:NV w va a) (hb:NV w vb b) (hka:a<2^k0) (hkb:b<2^k0) (hk0:k0<=120000000000000):
  Calls prog 103 #[va,vb] w (kn w (a+b)):=by
 obtain⟨l,hl,el,⟨-,aa,ca,rfl,hca,hma,hA⟩,hll⟩:=ha.len hka;obtain⟨m,hm,em,⟨-,ab,cb,rfl,hcb,hmb,hB⟩,hml⟩:=hb.len hkb;unfold maxLen at hma hmb;have EL:=hid el;have EM:=hid em;clear ha hb hka hkb el em;by_cases hlt:l.length<m.length
 .rcases hB with hP|⟨bp,op,rfl,hbp,hcP⟩
  all_goals rcases hA with hQ|⟨bq,oq,rfl,hbq,hcQ⟩
  all_goals first
   |(exfalso;omega)
   |skip
  all_goals
   go_enter func103,ntmps103;go_wp2
   go_loopw [5,6,18] (fun v c i wr=>∃(k cn:Nat) (o:List Nat),k<=m.length/\i=.int .i64 k/\c=.int .u64 ((cn:Nat):Int)/\wr.ownsRow w.heap.size 102 1 v o.length (lc o)/\mG m l k o cn/\Below w.heap.size w wr)
    (fun _ _ i _=>m.length-(intOf i).toNat)
   case atStart=>exact⟨0,0,[],d_ _,rfl,rfl,wY _ _,mG.start _ _,Below.refl _ _⟩
   case round=>
    obtain⟨k,cn,o,hk,rfl,rfl,hown,hrel,hbel⟩:=hrel;have hcn:cn<=1:=hrel.2.2.1;have hol:o.length<=10000000000000:=by rw[hrel.1];omega
    have hsz:=hbel.size;have REL:=hid hrel;clear hrel;by_cases hkp:k<m.length
    .first
      |(exfalso;omega)
      |(obtain⟨x,hx⟩:∃x,x=m.getD k 0:=⟨_,rfl⟩
        have hx1:x<4294967296:=by rw[hx];exact hm.1.getD k
        have hcx:=(hbel.cell (p:=⟨bp,op+k,none⟩) hbp).trans (hcP k hkp);rw[<-hx]at hcx;have HX:=hid hx;obtain⟨y,hy⟩:∃y,y=l.getD k 0:=⟨_,rfl⟩;have hy1:y<4294967296:=by rw[hy];exact hl.1.getD k
        have HY:=hid hy;by_cases hkq:k<l.length
        .first
          |(exfalso;omega)
          |(have hcy:=(hbel.cell (p:=⟨bq,oq+k,none⟩) hbq).trans (hcQ k hkq)
            rw[<-hy]at hcy;clear hx hy hcP hcQ;go_wp2_with (at_builtin;refine kl rfl _ _ rfl w.heap.size hsz _ o rfl hown ((cn+x+y)%4294967296) rfl (by omega) (by omega) ?_;intro v' w1 hown1 hb1)
            go_roundw
            case rel=>exact⟨k+1,(cn+x+y)/4294967296,_,by omega,by go_num,by simp,hown1,REL.out.step hkp HX.out HY.out hm.1 hl.1,hbel.trans hb1⟩
            case measure=>simp [intOf];omega)
        .have hy0:y=0:=by rw[hy];simp [List.getD,kV (mP hkq)]
         have HY0:=hid hy0;clear hx hy hcP hy0;try clear hcQ
         go_wp2_with (at_builtin;refine kl rfl _ _ rfl w.heap.size hsz _ o rfl hown ((cn+x)%4294967296) rfl (by omega) (by omega) ?_;intro v' w1 hown1 hb1)
         go_roundw
         case rel=>
          refine⟨k+1,(cn+x)/4294967296,_,by omega,by go_num,by simp,hown1,?_,hbel.trans hb1⟩;have :=REL.out.step hkp HX.out HY.out hm.1 hl.1;rw[HY0.out]at this;exact this
         case measure=>simp [intOf];omega)
    .have hke:k=m.length:=by omega
     have hfin:aI (o++[cn])/\val (o++[cn])=a+b:=by
      have :=REL.out;rw[hke]at this;have h2:=this.fin (by omega);refine⟨h2.1,?_⟩;rw[h2.2,r_,EL.out,EM.out]
     have gh:=hid hfin;clear hke hfin;try clear hcP
     try clear hcQ
     go_wp2_with (at_builtin;refine kl rfl _ _ rfl w.heap.size hsz _ o rfl hown cn rfl (by omega) (by omega) ?_;intro v' w1 hown1 hb1)
     refine(p_ _ _ _ (sT hown1 gh.out.1)).mono ?_;rintro e w2 ⟨⟨v2,rfl,hn2⟩,rfl⟩;rw[gh.out.2]at hn2;go_wp2;go_ret;exact⟨v2,rfl,hn2,hbel.trans hb1⟩
 .rcases hA with hP|⟨bp,op,rfl,hbp,hcP⟩
  all_goals rcases hB with hQ|⟨bq,oq,rfl,hbq,hcQ⟩
  all_goals first
   |(exfalso;omega)
   |skip
  all_goals
   go_enter func103,ntmps103;go_wp2
   go_loopw [5,6,18] (fun v c i wr=>∃(k cn:Nat) (o:List Nat),k<=l.length/\i=.int .i64 k/\c=.int .u64 ((cn:Nat):Int)/\wr.ownsRow w.heap.size 102 1 v o.length (lc o)/\mG l m k o cn/\Below w.heap.size w wr)
    (fun _ _ i _=>l.length-(intOf i).toNat)
   case atStart=>exact⟨0,0,[],d_ _,rfl,rfl,wY _ _,mG.start _ _,Below.refl _ _⟩
   case round=>
    obtain⟨k,cn,o,hk,rfl,rfl,hown,hrel,hbel⟩:=hrel;have hcn:cn<=1:=hrel.2.2.1;have hol:o.length<=10000000000000:=by rw[hrel.1];omega
    have hsz:=hbel.size;have REL:=hid hrel;clear hrel;by_cases hkp:k<l.length
    .first
      |(exfalso;omega)
      |(obtain⟨x,hx⟩:∃x,x=l.getD k 0:=⟨_,rfl⟩
        have hx1:x<4294967296:=by rw[hx];exact hl.1.getD k
        have hcx:=(hbel.cell (p:=⟨bp,op+k,none⟩) hbp).trans (hcP k hkp);rw[<-hx]at hcx;have HX:=hid hx;obtain⟨y,hy⟩:∃y,y=m.getD k 0:=⟨_,rfl⟩;have hy1:y<4294967296:=by rw[hy];exact hm.1.getD k
        have HY:=hid hy;by_cases hkq:k<m.length
        .first
          |(exfalso;omega)
          |(have hcy:=(hbel.cell (p:=⟨bq,oq+k,none⟩) hbq).trans (hcQ k hkq)
            rw[<-hy]at hcy;clear hx hy hcP hcQ;go_wp2_with (at_builtin;refine kl rfl _ _ rfl w.heap.size hsz _ o rfl hown ((cn+x+y)%4294967296) rfl (by omega) (by omega) ?_;intro v' w1 hown1 hb1)
            go_roundw
            case rel=>exact⟨k+1,(cn+x+y)/4294967296,_,by omega,by go_num,by simp,hown1,REL.out.step hkp HX.out HY.out hl.1 hm.1,hbel.trans hb1⟩
            case measure=>simp [intOf];omega)
        .have hy0:y=0:=by rw[hy];simp [List.getD,kV (mP hkq)]
         have HY0:=hid hy0;clear hx hy hcP hy0;try clear hcQ
         go_wp2_with (at_builtin;refine kl rfl _ _ rfl w.heap.size hsz _ o rfl hown ((cn+x)%4294967296) rfl (by omega) (by omega) ?_;intro v' w1 hown1 hb1)
         go_roundw
         case rel=>
          refine⟨k+1,(cn+x)/4294967296,_,by omega,by go_num,by simp,hown1,?_,hbel.trans hb1⟩;have :=REL.out.step hkp HX.out HY.out hl.1 hm.1;rw[HY0.out]at this;exact this
         case measure=>simp [intOf];omega)
    .have hke:k=l.length:=by omega
     have hfin:aI (o++[cn])/\val (o++[cn])=a+b:=by
      have :=REL.out;rw[hke]at this;have h2:=this.fin (by omega);refine⟨h2.1,?_⟩;rw[h2.2,EL.out,EM.out]
     have gh:=hid hfin;clear hke hfin;try clear hcP
     try clear hcQ
     go_wp2_with (at_builtin;refine kl rfl _ _ rfl w.heap.size hsz _ o rfl hown cn rfl (by omega) (by omega) ?_;intro v' w1 hown1 hb1)
     refine(p_ _ _ _ (sT hown1 gh.out.1)).mono ?_;rintro e w2 ⟨⟨v2,rfl,hn2⟩,rfl⟩;rw[gh.out.2]at hn2;go_wp2;go_ret;exact⟨v2,rfl,hn2,hbel.trans hb1⟩
def oG (p q:List Nat) (k:Nat) (o:List Nat) (c:Nat):Prop:=o.length=k/\aI o/\c<=1/\val o+val (q.take k)=val (p.take k)+2^(32*k)*c
theorem oG.start (p q:List Nat):oG p q 0 [] 0:=⟨rfl,aI.nil,by omega,by simp [val]⟩
theorem Ph {A W c x y d e P Q:Nat}(h:A+Q=P+W*c) (hd:d+c+y=x+4294967296*e):A+W*d+(Q+W*y)=P+W*x+4294967296*W*e:=by
 have h1:W*(d+c+y)=W*(x+4294967296*e):=by rw[hd]
 rw[cP,cP,cP,<-aF,aW W 4294967296]at h1;omega
theorem oG.step {p q o:List Nat}{k c x y d e:Nat}(h:oG p q k o c) (hk:k<p.length) (hx:x=p.getD k 0) (hy:y=q.getD k 0)
  (hd:d+c+y=x+4294967296*e) (hd1:d<4294967296) (he:e<=1):oG p q (k+1) (o++[d]) e:=by
 obtain⟨h1,h2,h3,h4⟩:=h;refine⟨by rw[ck,h1];rfl,h2.snoc hd1,he,?_⟩;rw[nh,h1,kQ,iX p k hk];have e1:p[k]=x:=by rw[hx];simp [List.getD,hk]
 have e2:val (q.take (k+1))=val (q.take k)+2^(32*k)*y:=by
  by_cases hkq:k<q.length
  .rw[iX q k hkq,hy];simp [List.getD,hkq]
  .rw[dI (by omega),dI (by omega),hy];simp [List.getD,kV (mP hkq)]
 rw[e1,e2];exact Ph h4 hd
theorem oG.fin {p q o:List Nat}{c:Nat}(h:oG p q p.length o c) (hq:q.length<=p.length) (hle:val q<=val p):aI o/\val o=val p-val q:=by
 obtain⟨h1,h2,h3,h4⟩:=h;refine⟨h2,?_⟩;rw[lX,dI hq]at h4;have h5:=fV h2;rw[h1]at h5;have h6:c=0\/c=1:=by omega
 rcases h6 with h6|h6 <;> subst h6 <;> omega
theorem YW {l m:List Nat}(hl:dA l) (hm:dA m) (h:val m<=val l):m.length<=l.length:=by
 rcases eJ l.length m.length with h1|h1
 .have :=yN hl hm h1;omega
 .exact h1
theorem re (va vb:Value) (a b k0:Nat) (w:World) (ha:NV w va a) (hb:NV w vb b) (hle:b<=a) (hka:a<2^k0) (hk0:k0<=120000000000000):
  Calls prog 100 #[va,vb] w (kn w (a-b)):=by
 obtain⟨l,hl,el,⟨-,aa,ca,rfl,hca,hma,hA⟩,hll⟩:=ha.len hka;obtain⟨m,hm,em,⟨-,ab,cb,rfl,hcb,hmb,hB⟩,hml⟩:=hb.len (de hle hka);unfold maxLen at hma hmb;have hlen:m.length<=l.length:=YW hl hm (by omega);have EL:=hid el;have EM:=hid em;have HLE:=hid hle;clear ha hb hka el em hle;rcases hA with hP|⟨bp,op,rfl,hbp,hcP⟩
 all_goals rcases hB with hQ|⟨bq,oq,rfl,hbq,hcQ⟩
 all_goals first
  |(exfalso;omega)
  |skip
 all_goals
  go_enter func100,ntmps100;go_wp2
  go_loopw [5,6,12] (fun v c i wr=>∃(k cn:Nat) (o:List Nat),k<=l.length/\i=.int .i64 k/\c=.int .i64 ((cn:Nat):Int)/\wr.ownsRow w.heap.size 102 1 v o.length (lc o)/\oG l m k o cn/\Below w.heap.size w wr)
   (fun _ _ i _=>l.length-(intOf i).toNat)
  case atStart=>exact⟨0,0,[],d_ _,rfl,rfl,wY _ _,oG.start _ _,Below.refl _ _⟩
  case round=>
   obtain⟨k,cn,o,hk,rfl,rfl,hown,hrel,hbel⟩:=hrel;have hcn:cn<=1:=hrel.2.2.1;have hol:o.length<=10000000000000:=by rw[hrel.1];omega
   have hsz:=hbel.size;have REL:=hid hrel;clear hrel;by_cases hkp:k<l.length
   .first
     |(exfalso;omega)
     |(obtain⟨x,hx⟩:∃x,x=l.getD k 0:=⟨_,rfl⟩
       have hx1:x<4294967296:=by rw[hx];exact hl.1.getD k
       have hcx:=(hbel.cell (p:=⟨bp,op+k,none⟩) hbp).trans (hcP k hkp);rw[<-hx]at hcx;have HX:=hid hx;obtain⟨y,hy⟩:∃y,y=m.getD k 0:=⟨_,rfl⟩;have hy1:y<4294967296:=by rw[hy];exact hm.1.getD k
       have HY:=hid hy;by_cases hkq:k<m.length
       .first
         |(exfalso;omega)
         |(have hcy:=(hbel.cell (p:=⟨bq,oq+k,none⟩) hbq).trans (hcQ k hkq)
           rw[<-hy]at hcy;clear hx hy hcP hcQ;by_cases hneg:x<cn+y
           .go_wp2_with (at_builtin;refine kl rfl _ _ rfl w.heap.size hsz _ o rfl hown (x+4294967296-cn-y) rfl (by omega) (by omega) ?_;intro v' w1 hown1 hb1)
            go_roundw
            case rel=>exact⟨k+1,1,_,by omega,by go_num,by simp,hown1,REL.out.step hkp HX.out HY.out (by omega) (by omega) (by omega),hbel.trans hb1⟩
            case measure=>simp [intOf];omega
           .go_wp2_with (at_builtin;refine kl rfl _ _ rfl w.heap.size hsz _ o rfl hown (x-cn-y) rfl (by omega) (by omega) ?_;intro v' w1 hown1 hb1)
            go_roundw
            case rel=>exact⟨k+1,0,_,by omega,by go_num,by simp,hown1,REL.out.step hkp HX.out HY.out (by omega) (by omega) (by omega),hbel.trans hb1⟩
            case measure=>simp [intOf];omega)
       .have hy0:y=0:=by rw[hy];simp [List.getD,kV (mP hkq)]
        have HY0:=hid hy0;clear hx hy hcP hy0;try clear hcQ
        by_cases hneg:x<cn
        .go_wp2_with (at_builtin;refine kl rfl _ _ rfl w.heap.size hsz _ o rfl hown (x+4294967296-cn) rfl (by omega) (by omega) ?_;intro v' w1 hown1 hb1)
         go_roundw
         case rel=>exact⟨k+1,1,_,by omega,by go_num,by simp,hown1,REL.out.step hkp HX.out HY.out (by have :=HY0.out;omega) (by omega) (by omega),hbel.trans hb1⟩
         case measure=>simp [intOf];omega
        .go_wp2_with (at_builtin;refine kl rfl _ _ rfl w.heap.size hsz _ o rfl hown (x-cn) rfl (by omega) (by omega) ?_;intro v' w1 hown1 hb1)
         go_roundw
         case rel=>exact⟨k+1,0,_,by omega,by go_num,by simp,hown1,REL.out.step hkp HX.out HY.out (by have :=HY0.out;omega) (by omega) (by omega),hbel.trans hb1⟩
         case measure=>simp [intOf];omega)
   .have hke:k=l.length:=by omega
    have hfin:aI o/\val o=a-b:=by
     have :=REL.out;rw[hke]at this;have h2:=this.fin (by omega) (by rw[EL.out,EM.out];exact HLE.out);rw[EL.out,EM.out]at h2;exact h2
    have gh:=hid hfin;clear hke hfin;try clear hcP
    try clear hcQ
    go_wp2_with fail
    refine(p_ _ _ _ (sT hown gh.out.1)).mono ?_;rintro e w2 ⟨⟨v2,rfl,hn2⟩,rfl⟩;rw[gh.out.2]at hn2;go_wp2;go_ret;exact⟨v2,rfl,hn2,hbel⟩
theorem RY {c x s:Nat}(hc:c<2^s) (hs:s<32) (hx:x<4294967296):
  bits .or .u64 (c:Int) (IntKind.u64.wrap ((x:Int)*2^s))=((c+x*2^s:Nat):Int)/\c+x*2^s<9223372036854775808:=by
 have h1:2^s<=2^31:=aG (by decide) (by omega);have h2:x*2^s<=4294967295*2^31:=eI (by omega) h1;have h3:((x:Int)*2^s)=((x*2^s:Nat):Int):=by simp
 have h4:c+x*2^s<9223372036854775808:=by omega
 refine⟨?_,h4⟩;rw[h3,IntWalk.u64_in _ (by omega),bits_or_u64_nat _ _ (by omega) (by omega)];congr 1;rw[zL,aW,<-ud hc,r_]
def oP (l:List Nat) (n k:Nat) (o:List Nat) (c:Nat):Prop:=
 o.length=n/32+k/\aI o/\c<2^(n%32)/\val o+2^(32*(n/32+k))*c=2^n*val (l.take k)
theorem Q' (n:Nat):aI (List.replicate n 0):=by intro x hx;rw[uf hx];decide
theorem VU (n:Nat):val (List.replicate n 0)=0:=by
 induction n with
 |zero=>rfl
 |succ n ih=>simp [se,val,ih]
theorem oP.start (l:List Nat) (n:Nat):oP l n 0 (List.replicate (n/32) 0) 0:=
 ⟨by simp,Q' _,az _,by simp [val,VU]⟩
theorem UJ {V W c x S N P:Nat}(h:V+W*c=P) (hN:N=W*S):
  V+W*((c+x*S)%4294967296)+4294967296*W*((c+x*S)/4294967296)=P+N*x:=by
 have h1:=kt (c+x*S) 4294967296
 have h2:W*((c+x*S)%4294967296)+4294967296*W*((c+x*S)/4294967296)=W*c+W*S*x:=by
  rw[aW 4294967296 W,aF,<-cP,aF,<-cP];congr 1;rw[aW S x];omega
 subst hN;omega
theorem oP.step {l o:List Nat}{n k c x:Nat}(h:oP l n k o c) (hk:k<l.length) (hx:x=l.getD k 0) (hl:aI l):
  oP l n (k+1) (o++[(c+x*2^(n%32))%4294967296]) ((c+x*2^(n%32))/4294967296):=by
 obtain⟨h1,h2,h3,h4⟩:=h;have hx1:x<4294967296:=by rw[hx];exact hl.getD k
 refine⟨by rw[ck,h1];rfl,h2.snoc (ew _ (by decide)),?_,?_⟩
 .rw[lU (by decide)]
  have :(x+1)*2^(n%32)<=4294967296*2^(n%32):=bR _ (by omega);rw[a_]at this;rw[aW (2^(n%32)) 4294967296];omega
 .rw[nh,h1,<-qG,kQ,iX l k hk]
  have e1:l[k]=x:=by rw[hx];simp [List.getD,hk]
  rw[e1,cP (2^n),<-aF (2^n)];apply UJ h4;rw[<-aB,<-aB];congr 1;omega
theorem oP.fin {l o:List Nat}{n c:Nat}(h:oP l n l.length o c):aI (o++[c])/\val (o++[c])=val l*2^n:=by
 obtain⟨h1,h2,h3,h4⟩:=h;have h5:2^(n%32)<=2^31:=aG (by decide) (by omega);refine⟨h2.snoc (by omega),?_⟩;rw[nh,h1,h4,lX,aW]
def RF (w:World) (n:Nat) (e:Ending) (w':World):Prop:= ∃v,e=.returned v/\kP w.heap.size w' v n/\Below w.heap.size w w'
theorem kP.nil (B:Nat) (w:World):kP B w (.slice none 0 0) 0:=⟨[],none,dA.nil,rfl,⟨aI.nil,none,0,rfl,d_ _,d_ _,Or.inl (by simp)⟩,rfl,fun p h=>by cases h⟩
theorem ZK {w:World}{base n:Nat}{v:Value}{xs:List Value}(h:w.ownsRow base 102 1 v n xs):∀ao m c p,v=.slice ao m c->ao=some p->base<=p.block:=by
 rintro ao m c p rfl rfl;exact(h.lt p.block rfl).1
theorem Co (va:Value) (a n k0:Nat) (x:Int) (w:World) (ha:NV w va a) (hx:x=(n:Int)) (hka:a<2^k0) (hk0:k0<=120000000000000) (hn:n<=120000000000000):
  Calls prog 98 #[va,.int .i64 x] w (RF w (a*2^n)):=by
 subst hx;obtain⟨l,hl,el,⟨-,aa,ca,rfl,hca,hma,hA⟩,hll⟩:=ha.len hka;unfold maxLen at hma;have EL:=hid el;clear ha hka el;have hll2:l.length<=4000000000000:=by omega
 rcases hA with hP|⟨bp,op,rfl,hbp,hcP⟩
 .have h0:a=0:=by rw[<-EL.out,gp.1 (by omega:l.length=0)];rfl
  have H0:=hid h0;clear h0;go_enter func98,ntmps98;go_wp2;go_ret;exact⟨_,rfl,by rw[H0.out,iq];exact kP.nil _ _,Below.refl _ _⟩
 .by_cases hl0:l.length<=0
  .have h0:a=0:=by rw[<-EL.out,gp.1 (by omega:l.length=0)];rfl
   have H0:=hid h0;clear h0 hcP;go_enter func98,ntmps98;go_wp2;go_ret;exact⟨_,rfl,by rw[H0.out,iq];exact kP.nil _ _,Below.refl _ _⟩
  .have hl1:0<l.length:=by omega
   clear hl0;go_enter func98,ntmps98;go_wp2_with (refine wW rfl _ _ rfl _ _ (n/32) (n/32+l.length+1) rfl rfl (by simp) (by simp) (by omega) (by omega) ?_;intro w1 hown1 hb1)
   go_loopw [5,6,23] (fun v c i wr=>∃(k cn:Nat) (o:List Nat),k<=l.length/\i=.int .i64 k/\c=.int .u64 ((cn:Nat):Int)/\wr.ownsRow w.heap.size 102 1 v o.length (lc o)/\oP l n k o cn/\Below w.heap.size w wr)
    (fun _ _ i _=>l.length-(intOf i).toNat)
   case atStart=>exact⟨0,0,_,d_ _,rfl,rfl,by rw[E8];exact hown1,oP.start _ _,hb1⟩
   case round=>
    obtain⟨k,cn,o,hk,rfl,rfl,hown,hrel,hbel⟩:=hrel;have hol:o.length<=10000000000000:=by rw[hrel.1];omega
    have hcn:cn<2147483648:=aX hrel.2.2.1 (aG (n:=2) (by decide) (show n%32<=31 by omega));have hsz:=hbel.size;have REL:=hid hrel;clear hrel;by_cases hkp:k<l.length
    .obtain⟨x,hx⟩:∃x,x=l.getD k 0:=⟨_,rfl⟩
     have hx1:x<4294967296:=by rw[hx];exact hl.1.getD k
     have hcx:=(hbel.cell (p:=⟨bp,op+k,none⟩) hbp).trans (hcP k hkp);rw[<-hx]at hcx;have HX:=hid hx;obtain⟨e1,e2⟩:=RY REL.out.2.2.1 (show n%32<32 by omega) hx1;have hst:=REL.out.step hkp HX.out hl.1;generalize hy:cn+x*2^(n%32)=y at *;have ST:=hid hst;clear hst hx hcP hy;go_wp2_with (at_builtin;refine kl rfl _ _ rfl w.heap.size hsz _ o rfl hown (y%4294967296) rfl (by omega) (by omega) ?_;intro v' w1 hown1 hb1)
     go_roundw
     case rel=>exact⟨k+1,y/4294967296,_,by omega,by go_num,by simp,hown1,ST.out,hbel.trans hb1⟩
     case measure=>simp [intOf];omega
    .have hke:k=l.length:=by omega
     have hfin:aI (o++[cn])/\val (o++[cn])=a*2^n:=by
      have :=REL.out;rw[hke]at this;have h2:=this.fin;rw[EL.out]at h2;exact h2
     have gh:=hid hfin;clear hke hfin hcP;go_wp2_with (at_builtin;refine kl rfl _ _ rfl w.heap.size hsz _ o rfl hown cn rfl (by omega) (by omega) ?_;intro v' w1 hown1 hb1)
     refine(Cm _ _ w.heap.size _ (sT hown1 gh.out.1) (ZK hown1)).mono ?_;rintro e w2 ⟨⟨v2,rfl,hn2⟩,rfl⟩;rw[gh.out.2]at hn2;go_wp2;go_ret;exact⟨v2,rfl,hn2,hbel.trans hb1⟩
theorem f_ (va:Value) (a n k0:Nat) (x:Int) (w:World) (ha:NV w va a) (hx:x=(n:Int)) (hka:a<2^k0) (hk0:k0<=120000000000000) (hn:n<=120000000000000):
  Calls prog 98 #[va,.int .i64 x] w (kn w (a*2^n)):=
 (Co va a n k0 x w ha hx hka hk0 hn).mono fun e w' ⟨v,h1,h2,h3⟩=>⟨v,h1,h2.nv,h3⟩
def uY (w:World) (n:Nat) (b:Bool) (e:Ending) (w':World):Prop:= ∃v,e=.returned (.tuple #[v,.bool b])/\NV w' v n/\Below w.heap.size w w'
def f' (a n:Nat):Bool:=decide (a%2^n≠0)
theorem VE (x s:Nat) (hs:s<32) (hx:x<4294967296):
  bits .and .u32 (x:Int) (((2:Int)^s-1)%4294967296)=((x%2^s:Nat):Int):=by
 have h1:2^s<=2^31:=aG (by decide) (by omega);have h2:((2:Int)^s)=((2^s:Nat):Int):=by simp
 have h0:=az s;rw[h2,show(((2^s:Nat):Int)-1)%4294967296=((2^s-1:Nat):Int) by omega,u32_and_nat _ _ hx (by omega),zN]
theorem Kt (x y:Nat) (hx:x<4294967296) (hy:y<4294967296):bits .or .u64 (x:Int) ((y:Int)*4294967296)=((x+y*4294967296:Nat):Int):=by
 have h3:((y:Int)*4294967296)=((y*4294967296:Nat):Int):=by simp
 rw[h3,bits_or_u64_nat _ _ (by omega) (by omega)];congr 1;have :=ud (show x<2^32 by omega) y;rw[zL,aW,show(4294967296:Nat)=2^32 by decide,<-this];omega
theorem WZ {l:List Nat}{n k:Nat}(hl:aI l) (hk:k<l.length):
  (k<n/32->(val (l.take (k+1))%2^n≠0↔val (l.take k)%2^n≠0\/l.getD k 0≠0))/\
  (k=n/32->(val (l.take (k+1))%2^n≠0↔val (l.take k)%2^n≠0\/l.getD k 0%2^(n%32)≠0))/\
  (n/32<k->val (l.take (k+1))%2^n=val (l.take k)%2^n):=by
 have e1:l[k]=l.getD k 0:=by simp [List.getD,hk]
 have hv:=iX l k hk;rw[e1]at hv;have ht:=fV (hl.take k);rw[dj,i_ (by omega)]at ht;have hp:=az (32*k);refine⟨fun h=>?_,fun h=>?_,fun h=>?_⟩
 .have h2:2^(32*k)*4294967296<=2^n:=by
   rw[show(4294967296:Nat)=2^32 by decide,<-aB];exact aG (by decide) (by omega)
  have hd:=hl.getD k;rw[show l[k]?.getD 0=l.getD k 0 from rfl]at hd;have h3:2^(32*k)*(l.getD k 0+1)<=2^(32*k)*4294967296:=cZ _ (by omega);rw[cP]at h3;rw[hv,lV (by omega),lV (by omega)];have h4:2^(32*k)*l.getD k 0=0↔l.getD k 0=0:=by rw[pB];omega
  omega
 .have e2:2^n=2^(32*k)*2^(n%32):=by rw[<-aB];congr 1;omega
  have h3:val (l.take k)%2^n=val (l.take k):=lV (aX ht (by rw[e2];exact ug _ (az _)))
  have h5:val (l.take (k+1))%2^n=val (l.take k)+2^(32*k)*(l.getD k 0%2^(n%32)):=by
   rw[hv,e2,Oe,Of,lV ht,Og _ _ hp,nY ht,jw]
  rw[h5,h3];have h4:2^(32*k)*(l.getD k 0%2^(n%32))=0↔l.getD k 0%2^(n%32)=0:=by rw[pB];omega
  omega
 .have e2:2^(32*k)=2^n*2^(32*k-n):=by rw[<-aB];congr 1;omega
  rw[hv,e2,aF,Of]
def oS (l:List Nat) (n k:Nat) (o:List Nat):Prop:=
 n/32+o.length=k/\aI o/\val o=val l/2^n%2^(32*o.length)
theorem oS.start (l:List Nat) (n:Nat):oS l n (n/32) []:=⟨by simp,aI.nil,by simp [val,Nat.mod_one]⟩
theorem Y1 {l:List Nat}(hl:aI l) (k:Nat) (hk:k<=l.length):val l/2^(32*k)=val (l.drop k):=by
 have h1:=pj l k hk;have ht:=fV (hl.take k);rw[dj,i_ hk]at ht;rw[h1,Og _ _ (az _),nY ht,jw]
theorem Pg {A R s:Nat}(hs:s<32):(A+18446744073709551616*R)/2^s%4294967296=A/2^s%4294967296:=by
 have e:18446744073709551616=2^s*(4294967296*2^(32-s)):=by
  rw[show(4294967296:Nat)=2^32 by decide,<-aB,<-aB,show s+(32+(32-s))=64 by omega]
 rw[e,aF,Og _ _ (az _),aF,Of]
theorem oS.step {l o:List Nat}{n k x y:Nat}(h:oS l n k o) (hk:k<l.length) (hl:aI l) (hx:x=l.getD k 0) (hy:y=l.getD (k+1) 0):
  oS l n (k+1) (o++[(x+y*4294967296)/2^(n%32)%4294967296]):=by
 obtain⟨h1,h2,h3⟩:=h;refine⟨by rw[ck];simp;omega,h2.snoc (ew _ (by decide)),?_⟩
 have hlimb:(x+y*4294967296)/2^(n%32)%4294967296=val l/2^n/2^(32*o.length)%4294967296:=by
  have e1:val l/2^n/2^(32*o.length)=val (l.drop k)/2^(n%32):=by
   rw[<-Y1 hl k (by omega),zU,zU,<-aB,<-aB];congr 2;omega
  rw[e1,qU l k hk];have ex:l[k]=x:=by rw[hx];simp [List.getD,hk]
  rw[ex];by_cases hk1:k+1<l.length
  .rw[qU l (k+1) hk1]
   have ey:l[k+1]=y:=by rw[hy];simp [List.getD,hk1]
   rw[ey,cP,<-qG,<-aF,show 4294967296*4294967296=18446744073709551616 by decide,Pg (ew _ (by decide)),aW y]
  .rw[ue (by omega)]
   have ey:y=0:=by rw[hy];simp [List.getD,kV (mP hk1)]
   rw[ey];simp [val]
 rw[nh,ck,EH,h3,hlimb];rw[show 32*(o.length+1)=32*o.length+32 by omega,aB,Oe]
theorem oS.fin {l o:List Nat}{n:Nat}(h:oS l n l.length o) (hl:aI l):aI o/\val o=val l/2^n:=by
 obtain⟨h1,h2,h3⟩:=h;refine⟨h2,?_⟩;rw[h3,lV];rw[lU (az _),<-aB];exact aX (fV hl) (aG (by decide) (by omega))
theorem ae4 {l:List Nat}{n:Nat}(hl:aI l) (h:l.length<=n/32):val l/2^n=0:=
 nY (aX (fV hl) (aG (by decide) (by omega)))
theorem rp (va:Value) (a n k0:Nat) (x:Int) (w:World) (ha:NV w va a) (hx:x=(n:Int)) (hka:a<2^k0) (hk0:k0<=120000000000000) (hn:n<=120000000000000):
  Calls prog 99 #[va,.int .i64 x] w (uY w (a/2^n) (f' a n)):=by
 subst hx;obtain⟨l,hl,el,⟨-,aa,ca,rfl,hca,hma,hA⟩,hll⟩:=ha.len hka;unfold maxLen at hma;have EL:=hid el;clear ha hka el;have hll2:l.length<=4000000000000:=by omega
 rcases hA with hP|⟨bp,op,rfl,hbp,hcP⟩
 all_goals
  go_enter func99,ntmps99;go_wp2
  go_loop [6,14] (fun v i=>∃(k:Nat) (L:Bool),k<=l.length/\i=.int .i64 k/\v=.bool L/\L=f' (val (l.take k)) n)
   (fun _ i=>l.length-(intOf i).toNat)
  case atStart=>exact⟨0,false,d_ _,rfl,rfl,by simp [val,f']⟩
  case round=>
   obtain⟨k,L,hk,rfl,rfl,hL⟩:=hrel;by_cases hkp:k<l.length
   .first
     |(exfalso;omega)
     |(have hst:= @WZ l n k hl.1 hkp
       obtain⟨x,hx⟩:∃x,x=l.getD k 0:=⟨_,rfl⟩;have hx1:x<4294967296:=by rw[hx];exact hl.1.getD k
       have hcx:=hcP k hkp;rw[<-hx]at hcx hst;have e1:=VE x (n%32) (ew _ (by decide)) hx1;have ST:=hid hst;have HL:=hid hL;have HCP:=hid hcP;clear hst hx hL hcP;rcases ju k (n/32) with hlt|heq|hgt
       .by_cases hx0:x=0
        .subst hx0
         cases L
         all_goals
          go_wp2
          go_round
          case rel=>
           refine⟨k+1,_,by omega,by go_num,rfl,?_⟩;have h1:=ST.out.1 hlt;have h2:=HL.out;unfold f' at h2 ⊢;simp_all
          case measure=>simp [intOf];omega
        .have hx2:((x:Int) !=0)=true:=by simp;omega
         cases L
         all_goals
          go_wp2
          go_round
          case rel=>
           refine⟨k+1,_,by omega,by go_num,rfl,?_⟩;have h1:=ST.out.1 hlt;have h2:=HL.out;unfold f' at h2 ⊢;simp_all
          case measure=>simp [intOf];omega
       .subst heq
        by_cases hx0:x%2^(n%32)=0
        .rw[hx0]at e1
         have HX0:=hid hx0;clear hx0;cases L
         all_goals
          go_wp2
          go_round
          case rel=>
           refine⟨n/32+1,_,by omega,by go_num,rfl,?_⟩;have h1:=ST.out.2.1 rfl;have h2:=HL.out;have h3:=HX0.out;unfold f' at h2 ⊢;simp_all
          case measure=>simp [intOf];omega
        .generalize hr:x%2^(n%32)=r at *
         have hx2:((r:Int) !=0)=true:=by simp;omega
         have HR:=hid hr;clear hr;cases L
         all_goals
          go_wp2
          go_round
          case rel=>
           refine⟨n/32+1,_,by omega,by go_num,rfl,?_⟩;have h1:=ST.out.2.1 rfl;have h2:=HL.out;have h3:=HR.out;unfold f' at h2 ⊢;simp_all
          case measure=>simp [intOf];omega
       .have hb0:((k:Int)==(n:Int)/32)=false:=by rw[aH];omega
        clear e1;go_wp2
        go_round
        case rel=>
         refine⟨k+1,_,by omega,by go_num,rfl,?_⟩;have h1:=ST.out.2.2 hgt;have h2:=HL.out;unfold f' at h2 ⊢;rw[h1];exact h2
        case measure=>simp [intOf];omega)
   .have hke:k=l.length:=by omega
    have hL2:L=f' a n:=by rw[hL,hke,lX,EL.out]
    have HL:=hid hL2;clear hke hL hL2;by_cases hout:l.length<=n/32
    .have h0:a/2^n=0:=by rw[<-EL.out];exact ae4 hl.1 hout
     have H0:=hid h0;clear h0;try clear hcP
     go_wp2;go_ret2;exact⟨_,by rw[<-HL.out];rfl,by rw[H0.out];exact NV.nil _,Below.refl _ _⟩
    .first
      |(exfalso;omega)
      |(have hin:n/32<l.length:=by omega
        have HCP:=hid hcP;clear hcP;go_wp2
        go_loopw [9,10] (fun v i wr=>∃(k:Nat) (o:List Nat),k<=l.length/\i=.int .i64 k/\wr.ownsRow w.heap.size 102 1 v o.length (lc o)/\oS l n k o/\Below w.heap.size w wr)
         (fun _ i _=>l.length-(intOf i).toNat)
        case atStart=>exact⟨n/32,[],by omega,by go_num,wY _ _,oS.start _ _,Below.refl _ _⟩
        case round=>
         obtain⟨k,o,hk,rfl,hown,hrel,hbel⟩:=hrel;have hol:o.length<=10000000000000:=by have :=hrel.1;omega
         have hsz:=hbel.size;have REL:=hid hrel;clear hrel;by_cases hkp:k<l.length
         .obtain⟨x,hx⟩:∃x,x=l.getD k 0:=⟨_,rfl⟩
          have hx1:x<4294967296:=by rw[hx];exact hl.1.getD k
          obtain⟨y,hy⟩:∃y,y=l.getD (k+1) 0:=⟨_,rfl⟩;have hy1:y<4294967296:=by rw[hy];exact hl.1.getD (k+1)
          have hcx:=(hbel.cell (p:=⟨bp,op+k,none⟩) hbp).trans (HCP.out k hkp);rw[<-hx]at hcx;have hst:=REL.out.step hkp hl.1 hx hy;have hp1:1<=2^(n%32):=az _;by_cases hk1:k+1<l.length
          .have hcy:=(hbel.cell (p:=⟨bp,op+(k+1),none⟩) hbp).trans (HCP.out (k+1) hk1)
           rw[<-hy]at hcy;have e2:=Kt x y hx1 hy1;generalize hz:x+y*4294967296=z at *;have ST:=hid hst;clear hst hx hy hz;go_wp2_with (at_builtin;refine kl rfl _ _ rfl w.heap.size hsz _ o rfl hown (z/2^(n%32)%4294967296) rfl (by simp) (by omega) ?_;intro v' w1 hown1 hb1)
           go_roundw
           case rel=>exact⟨k+1,_,by omega,by go_num,hown1,ST.out,hbel.trans hb1⟩
           case measure=>simp [intOf];omega
          .have hy0:y=0:=by rw[hy];simp [List.getD,kV (mP hk1)]
           rw[hy0,iq,kW]at hst;have ST:=hid hst;clear hst hx hy hy0;go_wp2_with (at_builtin;refine kl rfl _ _ rfl w.heap.size hsz _ o rfl hown (x/2^(n%32)%4294967296) rfl (by simp) (by omega) ?_;intro v' w1 hown1 hb1)
           go_roundw
           case rel=>exact⟨k+1,_,by omega,by go_num,hown1,ST.out,hbel.trans hb1⟩
           case measure=>simp [intOf];omega
         .have hke:k=l.length:=by omega
          have hfin:aI o/\val o=a/2^n:=by
           have :=REL.out;rw[hke]at this;have h2:=this.fin hl.1;rw[EL.out]at h2;exact h2
          have gh:=hid hfin;clear hke hfin;go_wp2_with fail
          refine(p_ _ _ _ (sT hown gh.out.1)).mono ?_;rintro e w2 ⟨⟨v2,rfl,hn2⟩,rfl⟩;rw[gh.out.2]at hn2;go_wp2;go_ret2;exact⟨v2,by rw[<-HL.out];rfl,hn2,hbel⟩)
theorem Kb (l:List Nat) (i d:Nat) (h:i<l.length):val (l.set i d)+2^(32*i)*l.getD i 0=val l+2^(32*i)*d:=by
 induction l generalizing i with
 |nil=>simp at h
 |cons e l ih=>
  cases i with
  |zero=>simp [val];omega
  |succ i=>
   have :=ih i (by simpa using h);simp only[bg,val,List.getD_cons_succ,kQ];rw[aF,aF];omega
theorem u9 {l:List Nat}(h:aI l) (i d:Nat) (hd:d<4294967296):aI (l.set i d):=by
 intro x hx;rcases ah3 hx with h1|h1
 .exact h x h1
 .rw[h1];exact hd
theorem Gb (n:Nat):aI (List.replicate n 0):=by intro x hx;rw[uf hx];decide
theorem val_zero (n:Nat):val (List.replicate n 0)=0:=by
 induction n with
 |zero=>rfl
 |succ n ih=>simp [se,val,ih]
def iN (p q:List Nat) (i j x:Nat) (o:List Nat) (c:Nat):Prop:=
 o.length=p.length+q.length/\aI o/\c<4294967296/\(∀t,i+q.length<=t->o.getD t 0=0)/\
  val o+2^(32*(i+j))*c=val (p.take i)*val q+2^(32*i)*(x*val (q.take j))
theorem iN.start (p q:List Nat) (x:Nat):iN p q 0 0 x (List.replicate (p.length+q.length) 0) 0:=
 ⟨by simp,Gb _,by decide,fun t _=>by simp [List.getD,ah4];split <;> rfl,by simp [val,val_zero]⟩
theorem iN.other {p q o:List Nat}{i x c:Nat}(h:iN p q i 0 x o c) (y:Nat) (hc:c=0):iN p q i 0 y o 0:=by
 obtain⟨h1,h2,h3,h4,h5⟩:=h;refine⟨h1,h2,by decide,h4,?_⟩;subst hc
 simpa [val] using h5
theorem Ty {V V' W c z xy Q R:Nat}(hs:V'+W*z=V+W*((c+(xy+z))%4294967296)) (h:V+W*c=Q+R):
  V'+4294967296*W*((c+(xy+z))/4294967296)=Q+(R+W*xy):=by
 have h1:=kt (c+(xy+z)) 4294967296
 have h2:W*((c+(xy+z))%4294967296)+4294967296*W*((c+(xy+z))/4294967296)=W*c+(W*xy+W*z):=by
  rw[aW 4294967296 W,aF,<-cP,<-cP,<-cP];congr 1;omega
 omega
theorem iN.step {p q o:List Nat}{i j x y z c:Nat}(h:iN p q i j x o c) (hi:i<p.length) (hj:j<q.length) (hx1:x<4294967296) (hy1:y<4294967296) (hy:y=q.getD j 0) (hz:z=o.getD (i+j) 0):
  iN p q i (j+1) x (o.set (i+j) ((c+(x*y+z))%4294967296)) ((c+(x*y+z))/4294967296):=by
 obtain⟨h1,h2,h3,h4,h5⟩:=h;have hz1:z<4294967296:=by rw[hz];exact h2.getD _
 have hxy:x*y<=4294967295*4294967295:=eI (by omega) (by omega);refine⟨by rw[uh];exact h1,u9 h2 _ _ (ew _ (by decide)),by omega,?_,?_⟩
 .intro t ht
  rw[List.getD,ah5 (by omega)];exact h4 t ht
 .have hs:=Kb o (i+j) ((c+(x*y+z))%4294967296) (by omega)
  rw[<-hz]at hs
  have e1:val (q.take (j+1))=val (q.take j)+2^(32*j)*y:=by
   rw[iX q j hj,hy];simp [List.getD,hj]
  rw[e1,show 32*(i+(j+1))=32*((i+j)+1) by omega,kQ,Ty hs h5];rw[show 32*(i+j)=32*i+32*j by omega,aB,cP x,cP (2^(32*i)),aF (2^(32*i)),fQ x]
theorem iN.row {p q o:List Nat}{i x c:Nat}(h:iN p q i q.length x o c) (hi:i<p.length) (hx:x=p.getD i 0) (y:Nat):iN p q (i+1) 0 y (o.set (i+q.length) c) 0:=by
 obtain⟨h1,h2,h3,h4,h5⟩:=h;refine⟨by rw[uh];exact h1,u9 h2 _ _ h3,by decide,?_,?_⟩
 .intro t ht
  rw[List.getD,ah5 (by omega)];exact h4 t (by omega)
 .have hs:=Kb o (i+q.length) c (by omega)
  rw[h4 _ le0]at hs;have e1:p[i]=x:=by rw[hx];simp [List.getD,hi]
  rw[lX]at h5;rw[iX p i hi,e1,a_,aF];simp [val];omega
theorem iN.fin {p q o:List Nat}{x:Nat}(h:iN p q p.length 0 x o 0):aI o/\val o=val p*val q:=by
 obtain⟨h1,h2,h3,h4,h5⟩:=h;refine⟨h2,?_⟩;rw[lX]at h5
 simpa [val] using h5
theorem kB (va vb:Value) (a b k0:Nat) (w:World) (ha:NV w va a) (hb:NV w vb b) (hka:a<2^k0) (hkb:b<2^k0) (hk0:k0<=120000000000000):
  Calls prog 63 #[va,vb] w (kn w (a*b)):=by
 obtain⟨l,hl,el,⟨-,aa,ca,rfl,hca,hma,hA⟩,hll⟩:=ha.len hka;obtain⟨m,hm,em,⟨-,ab,cb,rfl,hcb,hmb,hB⟩,hml⟩:=hb.len hkb;unfold maxLen at hma hmb;have EL:=hid el;have EM:=hid em;clear ha hb hka hkb el em;rcases hA with hP|⟨bp,op,rfl,hbp,hcP⟩
 all_goals rcases hB with hQ|⟨bq,oq,rfl,hbq,hcQ⟩
 all_goals
  go_enter func63,ntmps63;go_wp2_with (refine wW rfl _ _ rfl _ _ (l.length+m.length) (l.length+m.length) rfl rfl (by simp) (by simp) le0 (by omega) ?_;intro w1 hown1 hb1)
  go_loopw [19] (fun i wr=>∃(k:Nat) (o:List Nat),k<=l.length/\i=.int .i64 k/\wr.ownsRow w.heap.size 102 1 (.slice (some ⟨w.heap.size,0,none⟩) (l.length+m.length) (l.length+m.length)) (l.length+m.length) (lc o)/\iN l m k 0 0 o 0/\Below w.heap.size w wr)
   (fun i _=>l.length-(intOf i).toNat)
  case atStart=>exact⟨0,_,d_ _,rfl,hown1,iN.start _ _ _,hb1⟩
  case round=>
   obtain⟨k,o,hk,rfl,hown,hrel,hbel⟩:=hrel;have REL:=hid hrel;clear hrel;obtain⟨wo,rfl⟩:∃wo:World,wo=wr:=⟨_,rfl⟩;by_cases hkp:k<l.length
   .first
     |(exfalso;omega)
     |(obtain⟨x,hx⟩:∃x,x=l.getD k 0:=⟨_,rfl⟩
       have hx1:x<4294967296:=by rw[hx];exact hl.1.getD k
       have hcx:=(hbel.cell (p:=⟨bp,op+k,none⟩) hbp).trans (hcP k hkp);rw[<-hx]at hcx;have HX:=hid hx;have HCP:=hid hcP;clear hx hcP;try (have HCQ:=hid hcQ;clear hcQ)
       go_wp2
       go_loopw [8,26] (fun c i wr=>∃(j cn:Nat) (o:List Nat),j<=m.length/\i=.int .i64 j/\c=.int .u64 ((cn:Nat):Int)/\wr.ownsRow w.heap.size 102 1 (.slice (some ⟨w.heap.size,0,none⟩) (l.length+m.length) (l.length+m.length)) (l.length+m.length) (lc o)/\iN l m k j x o cn/\Below w.heap.size w wr)
        (fun _ i _=>m.length-(intOf i).toNat)
       case atStart=>exact⟨0,0,o,d_ _,rfl,rfl,hown,REL.out.other x rfl,hbel⟩
       case round=>
        clear hown hbel hcx;clear REL;obtain⟨j,cn,o,hj,rfl,rfl,hown,hrel,hbel⟩:=hrel;have hcn:cn<4294967296:=hrel.2.2.1;have REL:=hid hrel;clear hrel;by_cases hjq:j<m.length
        .first
          |(exfalso;omega)
          |(obtain⟨y,hy⟩:∃y,y=m.getD j 0:=⟨_,rfl⟩
            have hy1:y<4294967296:=by rw[hy];exact hm.1.getD j
            have hcy:=(hbel.cell (p:=⟨bq,oq+j,none⟩) hbq).trans (HCQ.out j hjq);rw[<-hy]at hcy;have HY:=hid hy;obtain⟨z,hz⟩:∃z,z=o.getD (k+j) 0:=⟨_,rfl⟩;have hz1:z<4294967296:=by rw[hz];exact REL.out.2.1.getD _
            obtain⟨hcz,hfz⟩:=ux hown (k+j) (by omega);rw[<-hz]at hcz;have HZ:=hid hz
            have hxy1:(x:Int)*(y:Int)<=18446744065119617025:=by
             have :x*y<=4294967295*4294967295:=eI (by omega) (by omega);have h2:((x*y:Nat):Int)<=18446744065119617025:=by omega
             rwa [E9]at h2
            have hxy0:0<=(x:Int)*(y:Int):=by rw[<-E9];omega
            have hst:= @sw w w.heap.size w.heap.size;clear hst hy hz;have HOWN:=hid hown;clear hown;go_wp2;go_roundw
            case rel=>
             refine⟨j+1,(cn+(x*y+z))/4294967296,_,by omega,by go_num,?_,sw HOWN.out (k+j) ((cn+(x*y+z))%4294967296) ?_,REL.out.step hkp hjq hx1 hy1 HY.out HZ.out,?_⟩
             .simp
             .simp
             .exact hbel.setCell (by simp) _
            case measure=>simp [intOf];omega)
        .have hje:j=m.length:=by omega
         have hrow:iN l m (k+1) 0 0 (o.set (k+m.length) cn) 0:=by
          have :=REL.out;rw[hje]at this;exact this.row hkp HX.out 0
         obtain⟨hcz,hfz⟩:=ux hown (k+m.length) (by omega);have ROW:=hid hrow;have HOWN:=hid hown;clear hje hrow hown;go_wp2;go_roundw
         case rel=>exact⟨k+1,_,by omega,by go_num,sw HOWN.out (k+m.length) cn (by simp),ROW.out,hbel.setCell (by simp) _⟩
         case measure=>simp [intOf];omega)
   .have hke:k=l.length:=by omega
    have hfin:aI o/\val o=a*b:=by
     have :=REL.out;rw[hke]at this;have h2:=this.fin;rw[EL.out,EM.out]at h2;exact h2
    have gh:=hid hfin;clear hke hfin;try clear hcP
    try clear hcQ
    go_wp2_with fail
    refine(p_ _ _ _ (yw hown gh.out.1)).mono ?_;rintro e w2 ⟨⟨v2,rfl,hn2⟩,rfl⟩;rw[gh.out.2]at hn2;go_wp2;go_ret;exact⟨v2,rfl,hn2,hbel⟩
theorem zi (e x:Int) (he:0<=e) (he1:e<=4294967295) (h0:0<=x) (h1:x<4294967296):bits .or .u64 (e*4294967296) x=e*4294967296+x:=
 bits_join .u64 64 (by decide) Fl.Dv 32 _ _ (by omega) (by omega) (by omega) h0 (by omega) (by omega)
def oB (l:List Nat) (b k:Nat) (o:List Nat) (r:Nat):Prop:=o.length=l.length/\aI o/\r<b/\val (l.drop k)=val (o.drop k)*b+r
theorem oB.start (l:List Nat) (b:Nat) (hb:0<b):oB l b l.length (List.replicate l.length 0) 0:=
 ⟨by simp,Gb _,hb,by simp [val]⟩
theorem ab7 {o:List Nat}{k d:Nat}(h:k<o.length):(o.set k d).drop k=d::o.drop (k+1):=by
 rw[t_ (by simpa using h)];congr 1
 .simp
 .rw[Oh (by omega)]
theorem oB.step {l o:List Nat}{b k r:Nat}(h:oB l b (k+1) o r) (hl:aI l) (hk:k<l.length) (hb:b<4294967296):
  oB l b k (o.set k ((r*4294967296+l.getD k 0)/b)) ((r*4294967296+l.getD k 0)%b)/\(r*4294967296+l.getD k 0)/b<4294967296:=by
 obtain⟨h1,h2,h3,h4⟩:=h;have hx:=hl.getD k
 have hlt:(r*4294967296+l.getD k 0)/b<4294967296:=by
  rw[lU (by omega)];have :(r+1)*4294967296<=b*4294967296:=bR _ h3;rw[show l.getD k 0=l[k]?.getD 0 from rfl];rw[aW 4294967296];omega
 refine⟨⟨by rw[uh];exact h1,u9 h2 _ _ hlt,ew _ (by omega),?_⟩,hlt⟩;rw[ab7 (by omega),qU l k hk,h4];simp only[val];have e:l.getD k 0=l[k]:=by simp [List.getD,hk]
 rw[e];have hdm:=kt (r*4294967296+l[k]) b;generalize (r*4294967296+l[k])/b=q at *;generalize (r*4294967296+l[k])%b=s at *;rw[cP,a_,aW q b,aF];omega
theorem oB.fin {l o:List Nat}{b r:Nat}(h:oB l b 0 o r):aI o/\val o=val l/b/\r=val l%b:=by
 obtain⟨h1,h2,h3,h4⟩:=h;simp only[Oi]at h4;refine⟨h2,?_,?_⟩
 .rw[h4,aW,zC (by omega),nY h3,kW]
 .rw[h4,aW,EI,lV h3]
def Rd (w:World) (q r:Nat) (e:Ending) (w':World):Prop:= ∃v,e=.returned (.tuple #[v,.int .u32 (r:Int)])/\kP w.heap.size w' v q/\Below w.heap.size w w'
def Xq (w:World) (q r:Nat) (e:Ending) (w':World):Prop:= ∃v,e=.returned (.tuple #[v,.int .u32 (r:Int)])/\NV w' v q/\Below w.heap.size w w'
theorem Ni (va:Value) (a b k0:Nat) (w:World) (ha:NV w va a) (hka:a<2^k0) (hk0:k0<=120000000000000) (hb0:0<b) (hb1:b<4294967296):
  Calls prog 127 #[va,.int .u32 (b:Int)] w (Rd w (a/b) (a%b)):=by
 obtain⟨l,hl,el,⟨-,aa,ca,rfl,hca,hma,hA⟩,hll⟩:=ha.len hka;unfold maxLen at hma;have EL:=hid el;have HA:=hid hA;clear ha hka el hA;go_enter func127,ntmps127;go_wp2_with (refine wW rfl _ _ rfl _ _ l.length l.length rfl rfl (by simp) (by simp) le0 (by omega) ?_;intro w1 hown1 hbw)
 go_loopw [7,8] (fun rs i wr=>∃(k r:Nat) (iz:Int) (o:List Nat),k<=l.length/\iz<=(k:Int)-1/\(k:Int)-1<=iz/\i=.int .i64 iz/\rs=.int .u64 ((r:Nat):Int)/\Hid (wr.ownsRow w.heap.size 102 1 (.slice (some ⟨w.heap.size,0,none⟩) l.length l.length) l.length (lc o))/\Hid (oB l b k o r)/\Hid (Below w.heap.size w wr))
  (fun _ i _=>(intOf i+1).toNat)
 case atStart=>exact⟨l.length,0,(l.length:Int)-1,_,ae _,by omega,by omega,rfl,rfl,hid hown1,hid (oB.start l b hb0),hid hbw⟩
 case round=>
  obtain⟨k,r,iz,o,hk,hi1,hi2,rfl,rfl,HOWN,HREL,HB⟩:=hrel;have hrb:r<b:=HREL.out.2.2.1;by_cases hk0:k=0
  .obtain rfl:iz= -1:=by omega
   subst hk0;obtain⟨f1,f2,f3⟩:=HREL.out.fin;rw[EL.out]at f2 f3;have F1:=hid f1;have F2:=hid f2;have F3:=hid f3;clear f1 f2 f3 hi1 hi2;go_wp2_with fail
   refine(Cm _ _ w.heap.size _ (yw HOWN.out F1.out) (by intro ao n c p h1 h2;simp only[Value.slice.injEq]at h1;rw[<-h1.1]at h2;cases h2;exact ae _)).mono ?_;rintro e w2 ⟨⟨v2,rfl,hn2⟩,rfl⟩;rw[F2.out]at hn2;have HN:=hid hn2;clear hn2;go_wp2;go_ret2;have e:=F3.out;subst e;exact⟨v2,rfl,HN.out,HB.out⟩
  .obtain⟨j,rfl⟩:∃j,k=j+1:=⟨k-1,by omega⟩
   obtain rfl:iz=(j:Int):=by omega
   obtain⟨x,hx⟩:∃x,x=l.getD j 0:=⟨_,rfl⟩;have hx1:x<4294967296:=by rw[hx];exact hl.1.getD j
   have hcx:∃bp op,aa=some ⟨bp,op,none⟩/\wr.cell? ⟨bp,op+j,none⟩=some (.int .u32 ((x:Nat):Int)):=by
    rcases HA.out with h|⟨bp,op,h1,h2,h3⟩
    .omega
    .exact⟨bp,op,h1,by rw[hx];exact(HB.out.cell (p:=⟨bp,op+j,none⟩) h2).trans (h3 j (by omega))⟩
   obtain⟨bp,op,rfl,hcx⟩:=hcx;obtain⟨hstep,hqb⟩:=HREL.out.step hl.1 (by omega) hb1;rw[<-hx]at hstep hqb;obtain⟨R,hR⟩:∃R,R=r*4294967296+x:=⟨_,rfl⟩;rw[<-hR]at hstep hqb;obtain⟨q,hq⟩:∃q,q=R/b:=⟨_,rfl⟩;obtain⟨s,hs⟩:∃s,s=R%b:=⟨_,rfl⟩;rw[<-hq,<-hs]at hstep;rw[<-hq]at hqb;have hsb:s<b:=by rw[hs];exact ew _ hb0
   have hRb:R<18446744073709551616:=by rw[hR];omega
   have e1:bits .or .u64 ((r:Int)*4294967296) (x:Int)=(R:Int):=by
    rw[zi _ _ (by omega) (by omega) (by omega) (by omega),hR];omega
   have e2:(R:Int)/(b:Int)=(q:Int):=by rw[hq];exact(Int.natCast_ediv R b).symm
   have e3:(R:Int)%(b:Int)=(s:Int):=by rw[hs];exact(Int.natCast_emod R b).symm
   obtain⟨hcz,hfz⟩:=ux HOWN.out j (by omega);have HST:=hid hstep;have jb:(j:Int)<(l.length:Int):=by omega
   have hbi:((b:Int)==0)=false:=by rw[aH];omega
   clear hstep hR hq hs hx hi1 hi2 HREL hk0;go_wp2;go_roundw
   case rel=>exact⟨j,s,(j:Int)-1,o.set j q,by omega,by omega,by omega,by go_num,by first|rfl|rw[e3],hid (sw HOWN.out j q rfl),HST,hid (HB.out.setCell le0 _)⟩
   case measure=>simp [intOf] <;> omega
theorem Vx (va:Value) (a b k0:Nat) (w:World) (ha:NV w va a) (hka:a<2^k0) (hk0:k0<=120000000000000) (hb0:0<b) (hb1:b<4294967296):
  Calls prog 127 #[va,.int .u32 (b:Int)] w (Xq w (a/b) (a%b)):=
 (Ni va a b k0 w ha hka hk0 hb0 hb1).mono fun e w' ⟨v,h1,h2,h3⟩=>⟨v,h1,h2.nv,h3⟩
def W0 (l:List Nat):Int:=if 400<l.length then 2 else if l.getLast?=some 0 then 3 else 0
structure Kp (g:Nat) (w w':World):Prop where
 os:w'.os=w.os
 tape:w'.tape=w.tape
 output:w'.output=w.output
 size:w'.heap.size=w.heap.size
 block:∀k,k≠g->w'.heap[k]?=w.heap[k]?
theorem Kp.refl (g:Nat) (w:World):Kp g w w:=⟨rfl,rfl,rfl,rfl,fun _ _=>rfl⟩
theorem Kp.trans {g:Nat}{a b c:World}(h:Kp g a b) (k:Kp g b c):Kp g a c:=⟨k.os.trans h.os,k.tape.trans h.tape,k.output.trans h.output,k.size.trans h.size,fun i hi=>(k.block i hi).trans (h.block i hi)⟩
theorem Kp.drewN {g n:Nat}{w w':World}(h:Kp g w w'):Kp g w (w'.drewN n):=⟨h.os,h.tape,h.output,h.size,h.block⟩
theorem Kp.below {g B:Nat}{w w':World}(h:Kp g w w') (hB:B<=g):Below B w w':=⟨h.os,h.tape,h.output,zJ h.size.symm,fun k hk=>h.block k (by omega)⟩
theorem Kp.cell {g:Nat}{w w':World}(h:Kp g w w') (b o:Nat) (hb:b≠g):w'.cell? ⟨b,o,none⟩=w.cell? ⟨b,o,none⟩:=by
 have h1:Below 0 w w':=h.below (d_ _);unfold World.cell?;rw[h.block b hb]
theorem Kp.setCell {g o:Nat}{w w':World}(h:Kp g w w') (v:Value):Kp g w (w'.setCell ⟨g,o,none⟩ v):=
 h.trans ⟨rfl,rfl,rfl,by simp [World.setCell],fun k hk=>Below.heap_setCell _ _ _ _ (by first|exact hk|exact gX hk|omega)⟩
theorem Zn (A u C:List Nat) (i:Nat) (h:i<u.length):(A++(u++C)).getD (A.length+i) 0=u.getD i 0:=by
 simp [List.getD,E',E_ h]
theorem set_mid (A u C:List Nat) (i d:Nat) (h:i<u.length):(A++(u++C)).set (A.length+i) d=A++(u.set i d++C):=by
 rw[ah6 _ _ (by omega),E5,List.set_append_left _ _ h]
theorem Ax {w:World}{base g n cap j:Nat}{A u C:List Nat}(h:w.ownsRow base 102 1 (.slice (some ⟨g,0,none⟩) n cap) n (lc (A++(u++C)))) (hA:A.length=j) (i:Nat) (hi:i<u.length):
  w.cell? ⟨g,j+i,none⟩=some (.int .u32 ((u.getD i 0:Nat):Int))/\w.frozen? ⟨g,j+i,none⟩=false:=by
 subst hA;have hn:(A++(u++C)).length=n:=by have :=h.1;rw[oO]at this;omega
 rw[ck,ck]at hn;have :=ux h (A.length+i) (by omega)
 rwa [Zn A u C i hi]at this
theorem Gg {w:World}{base g n cap j:Nat}{A u C:List Nat}(h:w.ownsRow base 102 1 (.slice (some ⟨g,0,none⟩) n cap) n (lc (A++(u++C)))) (hA:A.length=j) (i d:Nat) (hi:i<u.length) {X:Int}(hX:X=(d:Int)):
  (w.setCell ⟨g,j+i,none⟩ (.int .u32 X)).ownsRow base 102 1 (.slice (some ⟨g,0,none⟩) n cap) n (lc (A++(u.set i d++C))):=by
 subst hA;have :=sw h (A.length+i) d hX
 rwa [set_mid A u C i d hi]at this
theorem Lk {u:List Nat}{i d:Nat}(h:i<u.length):(u.set i d).take (i+1)=u.take i++[d]:=by
 rw[pA (by simpa using h),List.take_set_of_le le0];simp
theorem Ng {u:List Nat}{i d:Nat} :(u.set i d).drop (i+1)=u.drop (i+1):=Oh (by omega)
theorem oK (v:List Nat) (i:Nat):val (v.take (i+1))=val (v.take i)+2^(32*i)*v.getD i 0:=by
 by_cases h:i<v.length
 .rw[iX v i h];simp [List.getD,h]
 .rw[dI (by omega),dI (by omega)]
  simp [List.getD,kV (mP h)]
theorem Lm {u u':List Nat}{i:Nat}(h:u'.drop i=u.drop i):u'.getD i 0=u.getD i 0:=by
 have :=congrArg (fun l=>l.getD 0 0) h
 simpa [List.getD] using this
def mr (u v:List Nat) (g i c bo:Nat) (u':List Nat):Prop:=
 u'.length=u.length/\aI u'/\c<4294967296/\bo<=1/\u'.drop i=u.drop i/\(v.length<i->c=0)/\
  val (u'.take i)+g*val (v.take i)=val (u.take i)+2^(32*i)*(bo+c)
theorem mr.start {u v:List Nat}(g:Nat) (hu:aI u):mr u v g 0 0 0 u:=⟨rfl,hu,by decide,by decide,rfl,fun _=>rfl,by simp [val]⟩
theorem mr.step {u v u':List Nat}{g i c bo C ui vi ui' bo':Nat}(h:mr u v g i c bo u') (hi:i<u.length) (hv:aI v) (hg:g<4294967296) (hui:ui=u'.getD i 0) (hvi:vi=v.getD i 0) (hC:C=c+g*vi)
  (hx:ui'+C%4294967296+bo=ui+4294967296*bo') (hu':ui' <4294967296) (hb':bo'<=1):mr u v g (i+1) (C/4294967296) bo' (u'.set i ui'):=by
 obtain⟨h1,h2,h3,h4,h5,h6,h7⟩:=h;have hv1:vi<4294967296:=by rw[hvi];exact hv.getD i
 obtain⟨-,hc'⟩:=Qd.carry_lt hC h3 hg hv1;have hl:=Qd.sub_limb hC rfl rfl hx;refine⟨by rw[uh];exact h1,u9 h2 _ _ hu',hc',hb',?_,?_,?_⟩
 .rw[Ng]
  have :=congrArg (fun l=>l.drop 1) h5
  simpa [qE] using this
 .intro h0
  have :vi=0:=by rw[hvi];simp [List.getD,kV (show v.length<=i by omega)]
  subst this;rw[hC];omega
 .rw[Lk (by omega),nh,dj,i_ (by omega),oK v,oK u,<-hvi,<-Lm h5,<-hui,kQ]
  generalize 2^(32*i)=W at *;have e:W*(bo+c+(ui'+g*vi))=W*(ui+4294967296*(bo'+C/4294967296)):=by rw[hl]
  generalize C/4294967296=c' at *;simp only[cP,fQ g W]at *;simp only[aF,fQ W 4294967296]at *;omega
theorem mr.fin {u v u':List Nat}{g c bo:Nat}(h:mr u v g u.length c bo u') (hl:u.length=v.length+1):val u'+g*val v=val u+2^(32*u.length)*bo:=by
 obtain⟨h1,h2,h3,h4,h5,h6,h7⟩:=h;rw[h6 (by omega),kW,dI (by omega),dI (by omega),dI (by omega)]at h7;exact h7
def mM (u v:List Nat) (i s:Nat) (u':List Nat):Prop:=
 u'.length=u.length/\aI u'/\s<=1/\u'.drop i=u.drop i/\val (u'.take i)+2^(32*i)*s=val (u.take i)+val (v.take i)
theorem mM.start {u v:List Nat}(hu:aI u):mM u v 0 0 u:=⟨rfl,hu,by decide,rfl,by simp [val]⟩
theorem mM.step {u v u':List Nat}{i s ui vi S:Nat}(h:mM u v i s u') (hi:i<u.length) (hv:aI v) (hui:ui=u'.getD i 0) (hvi:vi=v.getD i 0) (hS:S=s+ui+vi):mM u v (i+1) (S/4294967296) (u'.set i (S%4294967296)):=by
 obtain⟨h1,h2,h3,h4,h5⟩:=h;have hv1:vi<4294967296:=by rw[hvi];exact hv.getD i
 have hu1:ui<4294967296:=by rw[hui];exact h2.getD i
 refine⟨by rw[uh];exact h1,u9 h2 _ _ (ew _ (by decide)),by omega,?_,?_⟩
 .rw[Ng]
  have :=congrArg (fun l=>l.drop 1) h4
  simpa [qE] using this
 .rw[Lk (by omega),nh,dj,i_ (by omega),oK v,oK u,<-hvi,<-Lm h4,<-hui,kQ]
  generalize 2^(32*i)=W at *;have hdm:=kt S 4294967296;generalize S/4294967296=d at *;generalize S%4294967296=r at *;have e:W*(4294967296*d+r)=W*(s+ui+vi):=by rw[hdm,hS]
  simp only[cP]at *;simp only[aF,fQ W 4294967296]at *;omega
theorem mM.fin {u v u':List Nat}{s:Nat}(h:mM u v u.length s u') (hl:u.length=v.length+1):val u'+2^(32*u.length)*s=val u+val v:=by
 obtain⟨h1,h2,h3,h4,h5⟩:=h;rw[dI (by omega),dI (by omega),dI (by omega)]at h5;exact h5
theorem WT {u v:List Nat}{m:Nat}(hu:u.length=m+3) (hv:v.length=m+2) (hul:aI u) (hvl:aI v) (htop:2147483648<=v.getD (m+1) 0) (hlt:val u<val v*4294967296):
  Qd.Dat (2^(32*m)) (val (u.take m)) (val (v.take m)) (u.getD m 0) (u.getD (m+2) 0*4294967296+u.getD (m+1) 0) (v.getD m 0) (v.getD (m+1) 0) (val u) (val v):=by
 have a1:=fV (hul.take m);have a2:=fV (hvl.take m);rw[dj,i_ (by omega)]at a1 a2;refine⟨az _,a1,a2,hul.getD m,hvl.getD m,htop,hvl.getD (m+1),?_,?_,hlt⟩
 .have e:=oK u (m+2)
  rw[dI (by omega),oK u (m+1),oK u m,show m+2=(m+1)+1 from rfl,kQ (m+1),kQ m]at e;rw[e];generalize 2^(32*m)=W;generalize u.getD m 0=a;generalize u.getD (m+1) 0=b;generalize u.getD (m+1+1) 0=c;simp only[cP];simp only[aF,fQ W 4294967296,aW c];omega
 .have e:=oK v (m+1)
  rw[dI (by omega),oK v m,kQ m]at e;rw[e];generalize 2^(32*m)=W;simp only[cP];simp only[aF,fQ W 4294967296];omega
theorem Pn (C:Nat) (h:C<18446744073709551616):bits .and .u64 (C:Int) 4294967295=((C%4294967296:Nat):Int):=by
 rw[show(4294967295:Int)=((4294967295:Nat):Int) from rfl,bits_and_u64_nat _ _ h (by decide)];congr 1;exact zN C 32
structure IQ (A u C v:List Nat) (m j:Nat):Prop where
 hA:A.length=j
 hu:u.length=m+3
 hv:v.length=m+2
 ul:aI u
 vl:aI v
 top:2147483648<=v.getD (m+1) 0
 lt:val u<val v*4294967296
theorem VC (A u C v:List Nat) (m j g cu N cap base bv ov cv:Nat) (w:World) (HD:Hid (IQ A u C v m j))
  (HOWN:Hid (w.ownsRow base 102 1 (.slice (some ⟨g,0,none⟩) N cap) N (lc (A++(u++C))))) (hcu:m+3<=cu) (hcum:cu<=9223372036854775807) (hcv:m+2<=cv) (hcvm:cv<=9223372036854775807) (hj:j<=10000000000000)
  (hm:m<=10000000000000) (hbg:bv≠g) (HC:Hid (∀i,i<m+2->w.cell? ⟨bv,ov+i,none⟩=some (.int .u32 ((v.getD i 0:Nat):Int)))):
  Calls prog 142 #[.slice (some ⟨g,j,none⟩) (m+3) cu,.slice (some ⟨bv,ov,none⟩) (m+2) cv] w fun e w'=>
   e=.returned (.int .u32 ((val u/val v:Nat):Int))/\Kp g w w'/\∃u',u'.length=m+3/\aI u'/\val u'=val u%val v/\w'.ownsRow base 102 1 (.slice (some ⟨g,0,none⟩) N cap) N (lc (A++(u'++C))):=by
 have DAT:=hid (WT HD.out.hu HD.out.hv HD.out.ul HD.out.vl HD.out.top HD.out.lt);obtain⟨u0,hu0⟩:∃x,x=u.getD m 0:=⟨_,rfl⟩;obtain⟨u1,hu1⟩:∃x,x=u.getD (m+1) 0:=⟨_,rfl⟩;obtain⟨u2,hu2⟩:∃x,x=u.getD (m+2) 0:=⟨_,rfl⟩;obtain⟨v0,hv0⟩:∃x,x=v.getD m 0:=⟨_,rfl⟩;obtain⟨v1,hv1⟩:∃x,x=v.getD (m+1) 0:=⟨_,rfl⟩;have bu0:u0<4294967296:=by rw[hu0];exact HD.out.ul.getD _
 have bu1:u1<4294967296:=by rw[hu1];exact HD.out.ul.getD _
 have bu2:u2<4294967296:=by rw[hu2];exact HD.out.ul.getD _
 have bv0:v0<4294967296:=by rw[hv0];exact HD.out.vl.getD _
 have bv1:v1<4294967296:=by rw[hv1];exact HD.out.vl.getD _
 have bv1':2147483648<=v1:=by rw[hv1];exact HD.out.top
 have ru:∀i,i<m+3->w.cell? ⟨g,j+i,none⟩=some (.int .u32 ((u.getD i 0:Nat):Int)):=fun i hi=>by
  exact(Ax HOWN.out HD.out.hA i (by rw[HD.out.hu];exact hi)).1
 have cu0:=ru m (by omega);have cu1:=ru (m+1) (by omega);have cu2:=ru (m+2) (by omega);have cv0:=HC.out m (by omega);have cv1:=HC.out (m+1) (by omega);rw[<-hu0]at cu0;rw[<-hu1]at cu1;rw[<-hu2]at cu2;rw[<-hv0]at cv0;rw[<-hv1]at cv1;rw[<-hu0,<-hu1,<-hu2,<-hv0,<-hv1]at DAT;clear hu0 hu1 hu2 hv0 hv1 ru;obtain⟨T,hT⟩:∃T,T=u2*4294967296+u1:=⟨_,rfl⟩;rw[<-hT]at DAT;have bT:T<18446744073709551616:=by rw[hT];omega
 have eT:bits .or .u64 ((u2:Int)*4294967296) (u1:Int)=(T:Int):=by rw[zi _ _ (by omega) (by omega) (by omega) (by omega),hT];omega
 obtain⟨d,hd⟩:∃d,d=T/v1:=⟨_,rfl⟩;have ed:(T:Int)/(v1:Int)=(d:Int):=by rw[hd];exact(Int.natCast_ediv T v1).symm
 have bd:d<=18446744073709551615:=by rw[hd];exact ct (iG _ _) (by omega)
 obtain⟨g0,hg0⟩:∃g0,g0=min d 4294967295:=⟨_,rfl⟩;obtain⟨st1,st2⟩:=Qd.start DAT.out;rw[<-hd,<-hg0]at st1 st2;have bg0:g0<=4294967295:=by omega
 have eg0:(if(4294967295:Int)<(d:Int) then(4294967295:Int) else(d:Int))=(g0:Int):=by split <;> omega
 obtain⟨p0,hp0⟩:∃p,p=g0*v1:=⟨_,rfl⟩;rw[<-hp0]at st1 st2;have ep0:(g0:Int)*(v1:Int)=(p0:Int):=by rw[hp0];simp
 have ST:=hid st1;have bvz:((v1:Int)==0)=false:=by rw[aH];omega
 clear st1 hT hd hg0 hp0;go_enter func142,ntmps142;go_wp2;go_quiet (fail)
 go_wp2
 go_loopw [7,8] (fun gv rv wr=>∃gg r k:Nat,gv=.int .u64 ((gg:Nat):Int)/\rv=.int .u64 ((r:Nat):Int)/\r<=18446744073709551615/\Hid (Qd.GRel T v1 (val u) (val v) gg r)/\wr=w.drewN k)
  (fun gv _ _=>(intOf gv).toNat)
 case atStart=>exact⟨g0,T-p0,_,rfl,by first|rfl|(congr 1;omega),by omega,ST,rfl⟩
 case round=>
  obtain⟨gg,r,k,rfl,rfl,hr,HREL,rfl⟩:=hrel;have hgg:gg<=4294967295:=by have :=HREL.out.2.1;omega
  obtain⟨P,hP⟩:∃P,P=gg*v0:=⟨_,rfl⟩;have eP:(gg:Int)*(v0:Int)=(P:Int):=by rw[hP];simp
  have bP:P<=18446744065119617025:=by rw[hP];exact(eI (by omega) (by omega):gg*v0<=4294967295*4294967295)
  by_cases hstep:r<4294967296/\r*4294967296+u0<P
  .obtain⟨hr1,hr2⟩:=hstep
   obtain⟨S,hS⟩:∃S,S=r*4294967296+u0:=⟨_,rfl⟩;rw[<-hS]at hr2;have eS:bits .or .u64 ((r:Int)*4294967296) (u0:Int)=(S:Int):=by rw[zi _ _ (by omega) (by omega) (by omega) (by omega),hS];omega
   have d1:decide ((r:Int)<4294967296)=true:=by simp;omega
   have d2:decide ((S:Int)<(P:Int))=true:=by simp;omega
   have hgp:1<=gg:=by
    rcases fl gg with h0|h0
    .rw[h0,iq]at hP;omega
    .exact h0
   have hgq:gg-1+1=gg:=by omega
   have NEXT:=hid (Qd.step DAT.out (g:=gg-1) (r:=r) (by rw[hgq];exact HREL.out) (by rw[hgq,<-hP,<-hS];exact hr2));clear hS hP HREL hgq;go_wp2;go_quiet (fail)
   go_wp2;go_roundw
   case rel=>exact⟨gg-1,r+v1,_,by go_num,by go_num,by omega,NEXT,rfl⟩
   case measure=>simp [intOf] <;> omega
  .have gh:=hid (Qd.exit DAT.out HREL.out (by omega))
   have hcase:4294967296<=r\/(r<4294967296/\P<=r*4294967296+u0):=by omega
   clear hP HREL hstep DAT;rcases hcase with hr1|⟨hr1,hr2⟩
   case' inr=>
    obtain⟨S,hS⟩:∃S,S=r*4294967296+u0:=⟨_,rfl⟩;rw[<-hS]at hr2;have eS:bits .or .u64 ((r:Int)*4294967296) (u0:Int)=(S:Int):=by rw[zi _ _ (by omega) (by omega) (by omega) (by omega),hS];omega
    have d1:decide ((r:Int)<4294967296)=true:=by simp;omega
    have d2:decide (S<P)=false:=by simp;omega
    clear hS;go_wp2;go_quiet (fail)
    clear cu0 cu1 cu2 cv0 cv1 eT ed eg0 ep0 eP bvz eS bT bd bg0 st2 bP;go_wp2;clear d1 d2 hr1 hr2
   case' inl=>
    have d1:decide ((r:Int)<4294967296)=false:=by simp;omega
    go_wp2;go_quiet (fail)
    clear cu0 cu1 cu2 cv0 cv1 eT ed eg0 ep0 eP bvz bT bd bg0 st2 bP;go_wp2;clear d1 hr1
   all_goals
    go_loopw [9,10,83] (fun cr br iv wr=>∃(i c bo:Nat) (u':List Nat),i<=m+3/\iv=.int .i64 ((i:Nat):Int)/\cr=.int .u64 ((c:Nat):Int)/\br=.int .i64 ((bo:Nat):Int)/\c<4294967296/\bo<=1/\Hid (mr u v gg i c bo u')/\Hid (Kp g w wr)/\Hid (wr.ownsRow base 102 1 (.slice (some ⟨g,0,none⟩) N cap) N (lc (A++(u'++C)))))
     (fun _ _ iv _=>m+3-(intOf iv).toNat)
    case atStart=>exact⟨0,0,0,u,d_ _,rfl,rfl,rfl,by decide,by decide,hid (mr.start gg HD.out.ul),hid (Kp.refl g w).drewN,HOWN.out⟩
    case round=>
     obtain⟨i,c,bo,u',hi0,rfl,rfl,rfl,hc,hbo,REL,KP,OW⟩:=hrel;by_cases hi:i<m+3
     .obtain⟨ui,hui⟩:∃x,x=u'.getD i 0:=⟨_,rfl⟩
      have bui:ui<4294967296:=by rw[hui];exact REL.out.2.1.getD i
      obtain⟨cui,fui⟩:=Ax OW.out HD.out.hA i (by rw[REL.out.1,HD.out.hu];exact hi);rw[<-hui]at cui;obtain⟨vi,hvi⟩:∃x,x=v.getD i 0:=⟨_,rfl⟩;have bvi:vi<4294967296:=by rw[hvi];exact HD.out.vl.getD i
      obtain⟨Q,hQ⟩:∃Q,Q=gg*vi:=⟨_,rfl⟩;have eQ:(gg:Int)*(vi:Int)=(Q:Int):=by rw[hQ];simp
      have bQ:Q<=18446744065119617025:=by rw[hQ];exact(eI (by omega) (by omega):gg*vi<=4294967295*4294967295)
      obtain⟨C1,hC1⟩:∃C1,C1=c+gg*vi:=⟨_,rfl⟩;have bC1:C1<18446744073709551616:=by rw[hC1,<-hQ];omega
      have eC:(c:Int)+(Q:Int)=(C1:Int):=by rw[hC1,hQ];simp
      obtain⟨p,hp⟩:∃p,p=C1%4294967296:=⟨_,rfl⟩;have bp:p<4294967296:=by omega
      have ep:bits .and .u64 (C1:Int) 4294967295=(p:Int):=by rw[Pn _ bC1,hp]
      obtain⟨c1,hc1⟩:∃c1,c1=C1/4294967296:=⟨_,rfl⟩;have ec1:(C1:Int)/4294967296=(c1:Int):=by omega
      have bc1:c1<4294967296:=by rw[hc1];omega
      have NEXT:Hid (∀ui' bo',ui'+p+bo=ui+4294967296*bo'->ui' <4294967296->bo'<=1->mr u v gg (i+1) c1 bo' (u'.set i ui')):=by
       intro ui' bo' a1 a2 a3;rw[hc1];exact REL.out.step (by rw[HD.out.hu];exact hi) HD.out.vl (by omega) hui hvi hC1 (by rw[<-hp];exact a1) a2 a3
      have KPN:Hid (∀x,Kp g w (wr.setCell ⟨g,j+i,none⟩ x)):=fun x=>KP.out.setCell x
      have OWN:Hid (∀(d:Nat) (X:Int),X=(d:Int)->(wr.setCell ⟨g,j+i,none⟩ (.int .u32 X)).ownsRow base 102 1 (.slice (some ⟨g,0,none⟩) N cap) N (lc (A++(u'.set i d++C)))):=
       fun d X hX=>Gg OW.out HD.out.hA i d (by rw[REL.out.1,HD.out.hu];exact hi) hX
      by_cases hiv:i<m+2
      .have cvi:=(KP.out.cell bv (ov+i) hbg).trans (HC.out i hiv)
       rw[<-hvi]at cvi;by_cases hx:ui<p+bo
       .clear hui hvi hQ hC1 hp hc1 REL
        go_wp2;go_roundw
        case rel=>exact⟨i+1,c1,1,_,by omega,by go_num,by first|rfl|go_num,by first|rfl|go_num,bc1,by decide,NEXT.out (ui+4294967296-p-bo) 1 (by omega) (by omega) (by decide),KPN.out _,OWN.out _ _ (by omega)⟩
        case measure=>simp [intOf] <;> omega
       .clear hui hvi hQ hC1 hp hc1 REL
        go_wp2;go_roundw
        case rel=>exact⟨i+1,c1,0,_,by omega,by go_num,by first|rfl|go_num,by first|rfl|go_num,bc1,by decide,NEXT.out (ui-p-bo) 0 (by omega) (by omega) (by decide),KPN.out _,OWN.out _ _ (by omega)⟩
        case measure=>simp [intOf] <;> omega
      .have hv0:vi=0:=by rw[hvi];simp [List.getD,kV (show v.length<=i by rw[HD.out.hv];omega)]
       have hCc:C1=c:=by rw[hC1,hv0];omega
       rw[hCc]at ep ec1;by_cases hx:ui<p+bo
       .clear hui hvi hQ hC1 hp hc1 REL eC eQ hCc hv0
        go_wp2;go_roundw
        case rel=>exact⟨i+1,c1,1,_,by omega,by go_num,by first|rfl|go_num,by first|rfl|go_num,bc1,by decide,NEXT.out (ui+4294967296-p-bo) 1 (by omega) (by omega) (by decide),KPN.out _,OWN.out _ _ (by omega)⟩
        case measure=>simp [intOf] <;> omega
       .clear hui hvi hQ hC1 hp hc1 REL eC eQ hCc hv0
        go_wp2;go_roundw
        case rel=>exact⟨i+1,c1,0,_,by omega,by go_num,by first|rfl|go_num,by first|rfl|go_num,bc1,by decide,NEXT.out (ui-p-bo) 0 (by omega) (by omega) (by decide),KPN.out _,OWN.out _ _ (by omega)⟩
        case measure=>simp [intOf] <;> omega
     .obtain rfl:i=m+3:=by omega
      have hfin:=mr.fin (u:=u) (v:=v) (g:=gg) (c:=c) (bo:=bo) (by rw[HD.out.hu];exact REL.out) (by rw[HD.out.hu,HD.out.hv]);have hWM:=fV REL.out.2.1;have hVM:=fV HD.out.vl;have hu':=REL.out.1;rw[HD.out.hu]at hu';rw[hu']at hWM;rw[HD.out.hv]at hVM;rw[HD.out.hu]at hfin;have hul':=REL.out.2.1;have hbo2:bo=0\/bo=1:=by omega
      rcases hbo2 with rfl|rfl
      .obtain⟨q1,q2⟩:=Qd.done0 gh.out (by omega)
       have Q1:=hid q1;have Q2:=hid q2;have HU:=hid hu';have HL:=hid hul';clear q1 q2 hu' hul' hfin hWM hVM REL;go_wp2;go_ret;exact⟨by rw[<-Q1.out];first|rfl|go_num,KP.out,u',HU.out,HL.out,Q2.out,OW.out⟩
      .have FF:=hid hfin
       have WM:=hid (And.intro hWM (aX hVM (aG (n:=2) (by decide) (show 32*(m+2)<=32*(m+3) by omega))));have HU:=hid hu';have HL:=hid hul';clear hu' hul' hfin hWM hVM REL;go_wp2;clear hi hi0 hbo hc hr
       go_loopw [13,127] (fun sr iv wr=>∃(i s:Nat) (t:List Nat),i<=m+3/\iv=.int .i64 ((i:Nat):Int)/\sr=.int .u64 ((s:Nat):Int)/\s<=1/\Hid (mM u' v i s t)/\Hid (Kp g w wr)/\Hid (wr.ownsRow base 102 1 (.slice (some ⟨g,0,none⟩) N cap) N (lc (A++(t++C)))))
        (fun _ iv _=>m+3-(intOf iv).toNat)
       case atStart=>exact⟨0,0,u',d_ _,rfl,rfl,by decide,hid (mM.start HL.out),KP,OW⟩
       case round=>
        clear KP OW;obtain⟨i,s,t,hi0,rfl,rfl,hs,REL,KP,OW⟩:=hrel;by_cases hi:i<m+3
        .obtain⟨ui,hui⟩:∃x,x=t.getD i 0:=⟨_,rfl⟩
         have bui:ui<4294967296:=by rw[hui];exact REL.out.2.1.getD i
         obtain⟨cui,fui⟩:=Ax OW.out HD.out.hA i (by rw[REL.out.1,HU.out];exact hi);rw[<-hui]at cui;obtain⟨vi,hvi⟩:∃x,x=v.getD i 0:=⟨_,rfl⟩;have bvi:vi<4294967296:=by rw[hvi];exact HD.out.vl.getD i
         obtain⟨A1,hA1⟩:∃A1,A1=s+ui:=⟨_,rfl⟩;have eA:(s:Int)+(ui:Int)=(A1:Int):=by omega
         have bA:A1<=4294967296:=by omega
         obtain⟨S,hS⟩:∃S,S=A1+vi:=⟨_,rfl⟩;have eS:(A1:Int)+(vi:Int)=(S:Int):=by omega
         have bS:S<=8589934591:=by omega
         obtain⟨s1,hs1⟩:∃s1,s1=S/4294967296:=⟨_,rfl⟩;have es1:(S:Int)/4294967296=(s1:Int):=by omega
         have bs1:s1<=1:=by omega
         obtain⟨x1,hx1⟩:∃x1,x1=S%4294967296:=⟨_,rfl⟩;have ex1:(S:Int)%4294967296=(x1:Int):=by omega
         have NEXT:Hid (mM u' v (i+1) s1 (t.set i x1)):=by
          rw[hs1,hx1];exact REL.out.step (by rw[HU.out];exact hi) HD.out.vl hui hvi (by omega)
         have KPN:Hid (∀x,Kp g w (wr.setCell ⟨g,j+i,none⟩ x)):=fun x=>KP.out.setCell x
         have OWN:Hid (∀(X:Int),X=(x1:Int)->(wr.setCell ⟨g,j+i,none⟩ (.int .u32 X)).ownsRow base 102 1 (.slice (some ⟨g,0,none⟩) N cap) N (lc (A++(t.set i x1++C)))):=
          fun X hX=>Gg OW.out HD.out.hA i x1 (by rw[REL.out.1,HU.out];exact hi) hX
         by_cases hiv:i<m+2
         .have cvi:=(KP.out.cell bv (ov+i) hbg).trans (HC.out i hiv)
          rw[<-hvi]at cvi;clear hui hvi REL hA1 hS hs1 hx1;go_wp2;go_roundw
          case rel=>exact⟨i+1,s1,_,by omega,by go_num,by first|rfl|go_num,bs1,NEXT,KPN.out _,OWN.out _ (by first|rfl|omega)⟩
          case measure=>simp [intOf] <;> omega
         .have hv0:vi=0:=by rw[hvi];simp [List.getD,kV (show v.length<=i by rw[HD.out.hv];omega)]
          have hSA:S=A1:=by omega
          subst hSA;clear hui hvi REL hA1 hS hs1 hx1 hv0 eS;go_wp2;go_roundw
          case rel=>exact⟨i+1,s1,_,by omega,by go_num,by first|rfl|go_num,bs1,NEXT,KPN.out _,OWN.out _ (by first|rfl|omega)⟩
          case measure=>simp [intOf] <;> omega
        .obtain rfl:i=m+3:=by omega
         have hfin:=mM.fin (u:=u') (v:=v) (s:=s) (by rw[HU.out];exact REL.out) (by rw[HU.out,HD.out.hv]);have hwm:=fV REL.out.2.1;have ht:=REL.out.1;rw[HU.out]at ht;rw[ht]at hwm;rw[HU.out]at hfin;obtain⟨q1,q2,q3⟩:=Qd.done1 gh.out (by have :=FF.out;omega) WM.out.1 WM.out.2 hfin hwm;have Q2:=hid q2;have Q3:=hid q3;have HT:=hid ht;have HTL:=hid REL.out.2.1;clear q2 q3 ht hfin hwm REL;go_wp2;go_ret;exact⟨by rw[<-Q2.out];go_num,KP.out,t,HT.out,HTL.out,Q3.out,OW.out⟩
