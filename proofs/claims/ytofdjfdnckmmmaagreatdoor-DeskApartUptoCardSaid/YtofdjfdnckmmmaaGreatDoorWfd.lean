import Derived.Test.YtofdjfdnckmmmaaGreatDoorWst
import Derived.Test.YtofdjfdnckmmmaaGreatDoorHr
set_option linter.all false
set_option maxHeartbeats 4000000
set_option maxRecDepth 100000
open Go.Proofs.Tryz
open Go.Lib (hid)
namespace Go.Proofs.YtofdjfdnckmmmaaGreatDoor
open Go.RowKit Nt Fm Fl
def wA (c:UInt8) (s:List UInt8):List UInt8:=s.takeWhile (fun b=> !(b==c))
def wB (c:UInt8) (s:List UInt8):List UInt8:=s.dropWhile (fun b=> !(b==c))
theorem Jy (c:UInt8) (s:List UInt8):wA c s++wB c s=s:=wy
theorem Ds (c:UInt8) (s:List UInt8):c ∉ wA c s:=by
 unfold wA
 induction s with
 |nil=>simp
 |cons x s ih=>
  by_cases h:x=c
  .rw[uk (by simp [h])];simp
  .rw[wj (by simp [h])]
   intro h2;rcases iI.1 h2 with h3|h3
   .exact h h3.symm
   .exact ih h3
theorem IH (c:UInt8) (s:List UInt8):wB c s=[]\/∃b,wB c s=c::b:=by
 unfold wB
 induction s with
 |nil=>exact Or.inl rfl
 |cons x s ih=>
  by_cases h:x=c
  .right
   exact⟨s,by rw[qJ (by simp [h]),h]⟩
  .rw[sj (by simp [h])]
   exact ih
theorem ae6 (c:UInt8) (s:List UInt8):(wB c s=[]/\wA c s=s/\Lib.indexByte s c= -1)\/(wB c s≠[]/\(wA c s).length<s.length/\Lib.indexByte s c=((wA c s).length:Int)):=by
 have h:=Jy c s;rcases IH c s with g|⟨b,g⟩
 .left
  rw[g,n9]at h;refine⟨g,h,?_⟩;have :=Ds c s;rw[h]at this;exact Gs s this
 .right
  rw[g]at h;refine⟨by rw[g];simp,?_,?_⟩
  .have :=congrArg List.length h
   rw[ck,ez]at this;omega
  .conv=>lhs;rw[<-h]
   exact Iq _ _ (Ds c s)
theorem TO (c:UInt8) (s:List UInt8):decide (0<=Lib.indexByte s c)=decide (c∈s):=by
 congr 1;apply propext;rcases ae6 c s with⟨g1,g2,g3⟩|⟨g1,g2,g3⟩
 .rw[g3]
  have :=Ds c s;rw[g2]at this;exact⟨fun h=>absurd h (by decide),fun h=>absurd h this⟩
 .rw[g3]
  refine⟨fun _=>?_,fun _=>by omega⟩;rw[<-Jy c s];rcases IH c s with g|⟨b,g⟩
  .exact absurd g g1
  .rw[g];simp
structure kH where
 verb:Int
 mi:Bool
 pl:Bool
 bl:Bool
 ze:Bool
 al:Bool
 wd:Int
 pr:Int
def kH.v (f:kH):Value:= .agg #[.int .i64 f.verb,.bool f.mi,.bool f.pl,.bool f.bl,.bool f.ze,.bool f.al,.int .i64 f.wd,.int .i64 f.pr]
def a8 (w:World) (b:Nat) (T:TypeId) (v:Int) (mi pl bl ze al:Bool) (wd pr:Int):Prop:=w.heap[b]?=some (.cells #[.int .i64 v,.bool mi,.bool pl,.bool bl,.bool ze,.bool al,.int .i64 wd,.int .i64 pr] T (0,0))
theorem a8.new (w:World) (T:TypeId) (v:Int) (mi pl bl ze al:Bool) (wd pr:Int):a8 (w.alloc (.cells #[.int .i64 v,.bool mi,.bool pl,.bool bl,.bool ze,.bool al,.int .i64 wd,.int .i64 pr] T)) w.heap.size T v mi pl bl ze al wd pr:=heap_alloc_new w _
theorem a8.lt {w:World}{b:Nat}{T:TypeId}{v:Int}{mi pl bl ze al:Bool}{wd pr:Int}(h:a8 w b T v mi pl bl ze al wd pr):b<w.heap.size:=(mQ.1 h).1
theorem a8.below {w w':World}{b:Nat}{T:TypeId}{v:Int}{mi pl bl ze al:Bool}{wd pr:Int}(h:a8 w b T v mi pl bl ze al wd pr) (hb:Below w.heap.size w w'):a8 w' b T v mi pl bl ze al wd pr:=(hb.block b h.lt).trans h
theorem a8.cells {w:World}{b:Nat}{T:TypeId}{v:Int}{mi pl bl ze al:Bool}{wd pr:Int}(h:a8 w b T v mi pl bl ze al wd pr):
  w.cell? ⟨b,0,none⟩=some (.int .i64 v)/\w.cell? ⟨b,1,none⟩=some (.bool mi)/\w.cell? ⟨b,2,none⟩=some (.bool pl)/\w.cell? ⟨b,3,none⟩=some (.bool bl)/\w.cell? ⟨b,4,none⟩=some (.bool ze)/\w.cell? ⟨b,5,none⟩=some (.bool al)/\w.cell? ⟨b,6,none⟩=some (.int .i64 wd)/\w.cell? ⟨b,7,none⟩=some (.int .i64 pr):=by
 unfold a8 at h;refine⟨?_,?_,?_,?_,?_,?_,?_,?_⟩ <;> simp [World.cell?,h]
def oH (f:kH) (x:Int):List UInt8:=if 9223372036854775808<=x/\ak x≠5 then [45] else if f.pl=true then [43] else if f.bl=true then [32] else []
theorem YM (v:Int) (mi pl bl ze al:Bool) (wd pr:Int) (x:Int) (x0:0<=x) (x1:x<=18446744073709551615) (w:World):
  Calls prog 23 #[.agg #[.int .i64 v,.bool mi,.bool pl,.bool bl,.bool ze,.bool al,.int .i64 wd,.int .i64 pr],.int .u64 x] w fun e w'=>e=.returned (.string ⟨(oH ⟨v,mi,pl,bl,ze,al,wd,pr⟩ x).toArray⟩)/\Below w.heap.size w w':=by
 have CL:=hid (fun w'=>fB x x0 x1 w')
 have hcase:((x/9223372036854775808==1)=true/\(((ak x !=5)=true/\oH ⟨v,mi,pl,bl,ze,al,wd,pr⟩ x=[45])\/((ak x !=5)=false/\oH ⟨v,mi,pl,bl,ze,al,wd,pr⟩ x=if pl=true then [43] else if bl=true then [32] else [])))\/
   ((x/9223372036854775808==1)=false/\oH ⟨v,mi,pl,bl,ze,al,wd,pr⟩ x=if pl=true then [43] else if bl=true then [32] else []):=by
  unfold oH;by_cases h:9223372036854775808<=x
  .left
   refine⟨by rw[dV];omega,?_⟩;by_cases h5:ak x=5
   .right;simp [h5]
   .left;simp [h,h5]
  .right
   refine⟨by rw[aH];omega,?_⟩;simp [h]
 generalize oH ⟨v,mi,pl,bl,ze,al,wd,pr⟩ x=H at *;generalize ak x=c at *;rcases hcase with⟨k1,⟨k2,rfl⟩|⟨k2,rfl⟩⟩|⟨k1,rfl⟩ <;> cases pl <;> cases bl
 all_goals
  go_enter func23,ntmps23;go_wp2_with (go_at_call 8;refine(CL.out _).mono ?_;rintro e w1 ⟨rfl,rfl⟩)
  all_goals first
   |(go_ret;exact⟨rfl,by go_grown⟩;done)
   |(exfalso;simp_all;done)
   |trace_state
