import Derived.Test.YtofdjfdnckmmmaaGreatDoorHead
import Derived.Test.YtofdjfdnckmmmaaGreatDoorIgl
import Derived.Deep.DeepHandedRow
import Derived.Lib.LaidU8
set_option linter.all false
set_option maxRecDepth 100000
open Go.Proofs.Tryz
namespace Go.Proofs.YtofdjfdnckmmmaaGreatDoor
open Go.ChangeShapes Go.WideShapes Go.ChangeAt Go.RowKit
theorem EC {P:Program}{W:World}{name:String}{k:IntKind}{zs:List Int}{g:Nat}{t e:TypeId}{n:Nat}
  (hg:P.globalNamed name=some g) (hty:(P.globals[g]?).map (·.type)=some t) (ht:P.underlying t=some (.array n e)) (he:P.underlying e=some (.int k)) (hce:P.cellsOf e=1) (hct:P.cellsOf t=n)
  (h:Lib.VarReads P W name (Lib.tabData k zs)):Lib.TabIs P W name k zs:=by
 obtain⟨g',t',cs,fuel,p,hg',ht',hvar,hd⟩:=h;obtain rfl:=od (hg.symm.trans hg');obtain rfl:=od (hty.symm.trans ht');unfold Lib.TabIs;rw[hvar,<-Lib.cells_of_tab ht he hce hct hd]
theorem Mg {P:Program}{W:World}{name:String}{g:Nat}{t:TypeId}{nm:String}{d:DataW Unit}(hg:P.globalNamed name=some g) (hty:(P.globals[g]?).map (·.type)=some t) (ht:∃x,P.underlying t=some (.interface x))
  (h:Lib.VarReads P W name (.iface nm d)):∃u v,W.cell? ⟨g,0,none⟩=some (.iface u v):=by
 obtain⟨g',t',cs,fuel,p,hg',ht',hvar,hd⟩:=h;obtain rfl:=od (hg.symm.trans hg');obtain rfl:=od (hty.symm.trans ht');obtain⟨x,hx⟩:=ht
 have hc:∃u v,cs.toList=[.iface u v]:=by
  generalize cs.toList=l at hd;cases fuel with
  |zero=>simp [DataW.trod]at hd
  |succ n=>
   simp only[DataW.trod,hx]at hd;split at hd <;> simp_all
 obtain⟨u,v,hl⟩:=hc;refine⟨u,v,?_⟩;unfold World.var? at hvar;rw[hg]at hvar;simp only[Option.bind_some]at hvar;split at hvar
 .rename_i c T f hh
  cases hvar
  rw[Lib.cell_of_heap hh,<-ai4,hl];rfl
 .cases hvar
theorem We (j:Nat) (h:j<32):(([0,1,28,2,29,14,24,3,30,22,20,15,25,17,4,8,31,27,13,23,21,19,16,7,26,12,18,6,11,5,10,9]:List Int).getD j 0)=((Lib.deBruijn32tab.getD j 0:Nat):Int):=by
 have :∀j:Fin 32,(([0,1,28,2,29,14,24,3,30,22,20,15,25,17,4,8,31,27,13,23,21,19,16,7,26,12,18,6,11,5,10,9]:List Int).getD j 0)=((Lib.deBruijn32tab.getD j 0:Nat):Int):=by decide+kernel
 exact this ⟨j,h⟩
theorem BL {W:World}{l:List (String × DataW Unit)}(hl:l=[("math/bits.deBruijn32tab",Rows.laid_math_bits_deBruijn32tab),("math/bits.deBruijn64tab",Rows.laid_math_bits_deBruijn64tab),("internal/strconv.uint64pow10",Rows.laid_internal_strconv_uint64pow10),("unicode/utf8.acceptRanges",Rows.laid_unicode_utf8_acceptRanges),("strconv.ErrRange",Rows.laid_strconv_ErrRange),("strconv.ErrSyntax",Rows.laid_strconv_ErrSyntax),("unicode/utf8.first",Rows.laid_unicode_utf8_first)])
  (h:laidMetH prog l W) (hsh:W.ShapedOpen prog):Dk W:=by
 have h2:laidMet prog l W:=by subst hl;exact h
 have R:=fun n d (hm:(n,d)∈l)=>Lib.laidMet.reads h2 hm
 have g32:prog.globalNamed "math/bits.deBruijn32tab" =some 1:=by kernel_rfl
 have g64:prog.globalNamed "math/bits.deBruijn64tab" =some 7:=by kernel_rfl
 have t32:Lib.TabIs prog W "math/bits.deBruijn32tab" .u8 [0,1,28,2,29,14,24,3,30,22,20,15,25,17,4,8,31,27,13,23,21,19,16,7,26,12,18,6,11,5,10,9]:=EC g32 (t:=177) (by kernel_rfl) underlying177 underlying5 (by kernel_rfl) (by kernel_rfl) (R _ _ (by rw[hl];exact mT ..))
 have t64:Lib.TabIs prog W "math/bits.deBruijn64tab" .u8 [0,1,56,2,57,49,28,3,61,58,42,50,38,29,17,4,62,47,59,36,45,43,51,22,53,39,33,30,24,18,12,5,63,55,48,27,60,41,37,16,46,35,44,21,52,32,23,11,54,26,40,15,34,20,31,10,25,14,19,9,13,8,7,6]:=EC g64 (t:=257) (by kernel_rfl) underlying257 underlying5 (by kernel_rfl) (by kernel_rfl) (R _ _ (by rw[hl];exact n8 _ (mT ..)))
 have t10:Lib.TabIs prog W "internal/strconv.uint64pow10" .u64 Lib.pow10Tab:=EC (g:=6) (by kernel_rfl) (t:=234) (by kernel_rfl) underlying234 underlying24 (by kernel_rfl) (by kernel_rfl) (R _ _ (by rw[hl];exact n8 _ (n8 _ (mT ..))))
 have e1:=Mg (W:=W) (name:= "strconv.ErrSyntax") (g:=4) (by kernel_rfl) (t:=42) (by kernel_rfl) ⟨_,underlying42⟩ (R "strconv.ErrSyntax" _ (by rw[hl];simp only[iI];exact Or.inr (Or.inr (Or.inr (Or.inr (Or.inr (Or.inl rfl)))))))
 have e2:=Mg (W:=W) (name:= "strconv.ErrRange") (g:=5) (by kernel_rfl) (t:=42) (by kernel_rfl) ⟨_,underlying42⟩ (R "strconv.ErrRange" _ (by rw[hl];simp only[iI];exact Or.inr (Or.inr (Or.inr (Or.inr (Or.inl rfl))))))
 refine⟨fun j hj=>?_,t10,Um hsh,t64.cell g64 15 (by decide),e1,e2⟩;rw[<-We j hj];exact t32.cell g32 j hj
noncomputable def pf (os:Os):World:=
 let N:=(World.settled prog os).heap.size
 let w0:=World.holding prog os ⟨#[.cells #[.string ⟨#[118,97,108,117,101,32,111,117,116,32,111,102,32,114,97,110,103,101]⟩] 251,.cells #[.string ⟨#[105,110,118,97,108,105,100,32,115,121,110,116,97,120]⟩] 251],#[],[]⟩
 let put (h:Array Obj) (g:Nat) (cs:Array Value):Array Obj:=h.modify g fun
  | .cells _ t frozen=> .cells cs t frozen
  |o=>o
 let h1:=put w0.heap 1 #[.int .u8 0,.int .u8 1,.int .u8 28,.int .u8 2,.int .u8 29,.int .u8 14,.int .u8 24,.int .u8 3,.int .u8 30,.int .u8 22,.int .u8 20,.int .u8 15,.int .u8 25,.int .u8 17,.int .u8 4,.int .u8 8,.int .u8 31,.int .u8 27,.int .u8 13,.int .u8 23,.int .u8 21,.int .u8 19,.int .u8 16,.int .u8 7,.int .u8 26,.int .u8 12,.int .u8 18,.int .u8 6,.int .u8 11,.int .u8 5,.int .u8 10,.int .u8 9]
 let h2:=put h1 7 #[.int .u8 0,.int .u8 1,.int .u8 56,.int .u8 2,.int .u8 57,.int .u8 49,.int .u8 28,.int .u8 3,.int .u8 61,.int .u8 58,.int .u8 42,.int .u8 50,.int .u8 38,.int .u8 29,.int .u8 17,.int .u8 4,.int .u8 62,.int .u8 47,.int .u8 59,.int .u8 36,.int .u8 45,.int .u8 43,.int .u8 51,.int .u8 22,.int .u8 53,.int .u8 39,.int .u8 33,.int .u8 30,.int .u8 24,.int .u8 18,.int .u8 12,.int .u8 5,.int .u8 63,.int .u8 55,.int .u8 48,.int .u8 27,.int .u8 60,.int .u8 41,.int .u8 37,.int .u8 16,.int .u8 46,.int .u8 35,.int .u8 44,.int .u8 21,.int .u8 52,.int .u8 32,.int .u8 23,.int .u8 11,.int .u8 54,.int .u8 26,.int .u8 40,.int .u8 15,.int .u8 34,.int .u8 20,.int .u8 31,.int .u8 10,.int .u8 25,.int .u8 14,.int .u8 19,.int .u8 9,.int .u8 13,.int .u8 8,.int .u8 7,.int .u8 6]
 let h3:=put h2 6 #[.int .u64 1,.int .u64 10,.int .u64 100,.int .u64 1000,.int .u64 10000,.int .u64 100000,.int .u64 1000000,.int .u64 10000000,.int .u64 100000000,.int .u64 1000000000,.int .u64 10000000000,.int .u64 100000000000,.int .u64 1000000000000,.int .u64 10000000000000,.int .u64 100000000000000,.int .u64 1000000000000000,.int .u64 10000000000000000,.int .u64 100000000000000000,.int .u64 1000000000000000000,.int .u64 10000000000000000000]
 let h4:=put h3 3 ((List.range 16).flatMap fun i=>[Value.int .u8 (Lib.accLo i),Value.int .u8 (Lib.accHi i)]).toArray
 let h5:=put h4 5 #[.iface 249 (.pointer (some ⟨N+0,0,none⟩))]
 let h6:=put h5 4 #[.iface 249 (.pointer (some ⟨N+1,0,none⟩))]
 let h7:=put h6 2 (Lib.firstTab.map fun z=>Value.int .u8 z).toArray
 { w0 with heap:=h7 }
