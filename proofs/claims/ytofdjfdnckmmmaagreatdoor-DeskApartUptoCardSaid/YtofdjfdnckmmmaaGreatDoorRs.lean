import Derived.Test.YtofdjfdnckmmmaaGreatDoorBd
import Derived.Sort.WalkB12
import Derived.Lib.SlicesMore
set_option linter.all false
set_option maxHeartbeats 1600000
set_option maxRecDepth 1000000
open Go.Proofs.Tryz
namespace Go.Proofs.YtofdjfdnckmmmaaGreatDoor
open Go.RowKit Go.Lib Go.Sort Nt
abbrev dL:List UInt8->Value:=fun l=> .string ⟨l.toArray⟩
def fH (l:List (List UInt8)):List Value:=l.map dL
theorem M4:(prog.info? 9).map (fun i=>(i.zero,i.size,i.bytes))=some (some (.string ⟨#[]⟩),1,16):=by kernel_rfl
theorem kZ {w w':World}{base n:Nat}{T:TypeId}{v:Value}{xs:List Value}(h:w.ownsRow base T 1 v n xs) (hb:Below w.heap.size w w'):w'.ownsRow base T 1 v n xs:=by
 refine⟨h.1,?_⟩;rcases h.2 with h0|⟨g,cap,cur,rfl,h1,hg,h2⟩
 .exact Or.inl h0
 .exact Or.inr ⟨g,cap,cur,rfl,h1,by rw[hb.block g (mQ.1 hg).1];exact hg,h2⟩
theorem YO (w:World) (base:Nat):w.ownsRow base 9 1 (.slice none 0 0) ([]:List (List UInt8)).length (fH []):=World.ownsRow_nil _ _ _ _
theorem Cn {ops:Array Oper}{rest:List Oper}{o:Oper}{a:Act}{Q:Exit->Act->World->Prop}{w0:World}{X:ByteArray}(hgd:o.guard=none) (s x:Operand)
  (ho:o.op=.call { callee:= .builtin .append,args:= #[s,x],argTypes:= #[40,40] })
  (base:Nat) (hbase:base<=w0.heap.size) (v:Value) (l:List (List UInt8)) (hs:a.eval s=v) (hown:w0.ownsRow base 9 1 v l.length (fH l))
  (d:List UInt8) (hx:a.eval x=.slice (some ⟨w0.heap.size,0,none⟩) 1 1) (hX:X=⟨d.toArray⟩) (hl:l.length<=10000000)
  (h:∀v' w',w'.ownsRow base 9 1 v' (l++[d]).length (fH (l++[d]))->Below base w0 w'->(w0.alloc (.cells #[.string X] 9)).grownBy w' v.ownBlock->wpList prog ops Q rest (a.put o.dst v') w'):
  wpList prog ops Q (o::rest) a (w0.alloc (.cells #[.string X] 9)):=by
 obtain⟨i0,hi,hz0,hz1,hz2⟩:=info_parts M4;subst hX;refine wpList_append_own _ hgd s x 40 ho base 9 i0 (.string ⟨#[]⟩) 1 16 underlying40 hi hz0 hz1 hz2 rfl (by decide) v l.length (fH l) hs (hown.alloc _) ⟨w0.heap.size,0,none⟩ 1 1 [.string ⟨d.toArray⟩] hx rfl (cell_one_new _ _ _) (by intro u hu;simp at hu;subst hu;rfl) (by unfold maxLen;omega) (by omega) (by simp;omega) ?_;intro v' w1 hown1 hgrow _;refine h v' w1 ?_ ?_ hgrow
 .rw[ck]
  have :fH (l++[d])=fH l++[.string ⟨d.toArray⟩]:=by simp [fH]
  rw[this];exact hown1
 .refine((Below.refl base w0).alloc hbase _).trans (vQ hgrow (by simp;omega) ?_)
  intro k hk;exact(hown.lt k hk).1
theorem Q0 (blk off cap:Nat) (d:Array (List UInt8)) (w:World) (hH:Holds dL w blk off d) (hsz:d.size<=9223372036854775807):
  Calls prog 128 #[.slice (some ⟨blk,off,none⟩) d.size cap] w fun e w'=>e=.returned (.tuple #[])/\∃n,w'=putRow dL (Sort.ahead w n) blk off d.reverse:=by
 go_enter func128,ntmps128;go_wp2
 go_loopg [2,3] d.size (fun k s2 s3 wr=>∃(i jn:Nat) (jz:Int) (dk:Array (List UInt8)) (n:Nat),s2=.int .i64 i/\s3=.int .i64 jz/\((i:Int)<jz->jz=jn/\jn<d.size)/\(¬(i:Int)<jz->¬i<jn)/\jn-i<=k/\
  dk.size=d.size/\wr=putRow dL (Sort.ahead w n) blk off dk/\reverseLoop i jn dk=reverseLoop 0 (d.size-1) d)
 case atStart=>exact⟨0,d.size-1,(d.size:Int)-1,d,0,rfl,rfl,fun h=>⟨by omega,by omega⟩,fun h=>by omega,by omega,rfl,(putRow_self dL w blk off d hH).symm,rfl⟩
 case round=>
  obtain⟨i,jn,jz,dk,n,rfl,rfl,h1,h2,hk,hds,hwr,heq⟩:=hrel;by_cases hlt:(i:Int)<jz
  .obtain⟨rfl,hjn⟩:=h1 hlt
   have hij:i<jn:=by omega
   have hHk:Holds dL wr blk off dk:=by rw[hwr];exact holds_putRow dL _ blk off d dk (holds_ahead dL w n blk off d hH) hds
   obtain⟨ci,fi⟩:=hHk i (by omega);obtain⟨cj,fj⟩:=hHk jn (by omega);have A:Aside (wr=putRow dL (Sort.ahead w n) blk off dk):=hwr;clear hwr hHk hH h1 h2;go_wp2_with fail
   go_region
   go_wp2
   go_roundg (jn-1-(i+1))
   case measure=>omega
   case rel=>
    rw[reverseLoop,aj hij]at heq
    exact⟨i+1,jn-1,(jn:Int)-1,swp dk i jn,n+1,by simp,rfl,fun h=>⟨by omega,by omega⟩,fun h=>by omega,ae _,by rw[size_swp];exact hds,
     swap_world dL (by omega) (by omega) A.out (by first|rfl|simp [dL,Om,show jn<dk.size by omega]) (by first|rfl|simp [dL,Om,show i<dk.size by omega]),heq⟩
  .have hnot:=h2 hlt
   go_wp2
   go_end0
   refine⟨rfl,n,?_⟩;rw[reverseLoop,ag hnot]at heq;rw[<-Lib.reverseLoop_reverse,<-heq]
theorem Zt (a:Option Addr) (cap:Nat) (w:World):
  Calls prog 128 #[.slice a 0 cap] w fun e w'=>e=.returned (.tuple #[])/\w'=w:=by
 go_enter func128,ntmps128;go_wp2
 go_loopg [2,3] 0 (fun _ s2 s3 wr=>s2=.int .i64 0/\s3=.int .i64 (-1)/\wr=w)
 case atStart=>exact⟨rfl,rfl,rfl⟩
 case round=>
  obtain⟨rfl,rfl,rfl⟩:=hrel;go_wp2
  go_end0
  exact⟨rfl,rfl⟩
theorem ZX {w:World}{g:Nat}{cur:Array Value}{T:TypeId}{f:Nat × Nat}(d:Array (List UInt8)) (h:w.heap[g]?=some (.cells cur T f)):(putRow dL w g 0 d).heap[g]?=some (.cells (putCells dL 0 d cur) T f):=by
 unfold putRow mapBlock;simp [zY,h,onCells]
theorem Te {w:World}{base g:Nat}(n:Nat) (d:Array (List UInt8)) (hb:base<=g):Below base w (putRow dL (Sort.ahead w n) g 0 d):=by
 refine⟨rfl,rfl,rfl,?_,fun k hk=>?_⟩
 .unfold putRow mapBlock Sort.ahead;simp
 .unfold putRow mapBlock Sort.ahead
  simp [zY,show g≠k by omega]
theorem ad9 (d:Array (List UInt8)) (cur:Array Value) (h:d.size<=cur.size):(putCells dL 0 d cur).toList.take d.size=d.toList.map dL:=by
 apply List.ext_getElem?;intro i;rw[zO];by_cases hi:i<d.size
 .have hc:i<cur.size:=by omega
  rw[aj hi];simp [putCells,hi,hc]
 .rw[ag hi]
  simp [mP hi]
theorem OK {base:Nat}(v:Value) (l:List (List UInt8)) (w:World) (h:w.ownsRow base 9 1 v l.length (fH l)):
  Calls prog 128 #[v] w fun e w'=>e=.returned (.tuple #[])/\w'.ownsRow base 9 1 v l.length (fH l.reverse)/\Below base w w':=by
 rcases h.2 with⟨rfl,h0⟩|⟨g,cap,cur,rfl,hb,hg,h1,h2,h3,h4⟩
 .refine(Zt none 0 w).mono ?_
  rintro e w' ⟨rfl,rfl⟩;have :l=[]:=gp.1 h0;subst this;exact⟨rfl,h,Below.refl _ _⟩
 .have hm:cap<=9223372036854775807:=by unfold maxLen at h2;omega
  have hH:Holds dL w g 0 l.toArray:=by
   intro j hj;have hj2:j<l.length:=by simpa using hj
   refine⟨?_,?_⟩
   .have :=h.cells (g:=g) (by simp [Value.ownBlock]) j (dL l[j]) (by simp [fH,hj2])
    rw[show(⟨g,0,none⟩:Addr).add j=⟨g,0+j,none⟩ from by unfold Addr.add;split <;> simp_all]at this;rw[this];simp [hj2]
   .simp [World.frozen?,hg]
  have hr:=Q0 g 0 cap l.toArray w hH (by simp;omega);rw[show l.toArray.size=l.length by simp]at hr;refine hr.mono ?_;rintro e w' ⟨rfl,n,rfl⟩;refine⟨rfl,⟨by simp [fH],Or.inr ⟨g,cap,_,rfl,hb,ZX _ hg,h1,h2,?_,?_⟩⟩,Te n _ hb⟩
  .simp [putCells];omega
  .have :=ad9 l.toArray.reverse cur (by simp;omega)
   rw[fI];rw[show l.toArray.reverse.size=l.length by simp]at this;rw[this];simp [fH]
