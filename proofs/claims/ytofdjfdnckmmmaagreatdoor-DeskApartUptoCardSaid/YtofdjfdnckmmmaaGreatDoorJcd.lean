import Derived.Test.YtofdjfdnckmmmaaGreatDoorJab
import Derived.Test.YtofdjfdnckmmmaaGreatDoorLz
import Derived.Test.YtofdjfdnckmmmaaGreatDoorHr
import Derived.Shelf.Strings.Cut
import Derived.Shelf.Strings.FieldsFuncAny
import Derived.Shelf.Strings.Fields
set_option linter.all false
set_option maxHeartbeats 8000000
set_option maxRecDepth 100000
open Go.Proofs.Tryz
open Go.Lib (hid decDigits)
namespace Go.Proofs.YtofdjfdnckmmmaaGreatDoor
open Go.Shelf Go.RowKit Go.Lib
theorem Gw {l:List ByteArray}{m:List (List UInt8)}(h:l.map (·.data.toList)=m):l.map Value.string=fH m:=by
 subst h;unfold fH;rw[Ff];apply List.map_congr_left;intro a _;rfl
theorem Tryz.laysSplit:Go.Proofs.Lays.n146 prog Tryz.RN:= { Tryz.laysReplace,Tryz.laysJoin with
 f146:=aA func32 (by kernel_rfl)
 f221:=aA func67 (by kernel_rfl)
 f268:=aA func109 (by kernel_rfl) }
theorem WI:Tryz.RN.f 146=32:=by kernel_rfl
theorem W9:Tryz.RN.g 1=0:=by kernel_rfl
theorem Uj:Tryz.RN.t 9=9:=by kernel_rfl
theorem DI (c:UInt8) (s:ByteArray) (w:World) (hs:s.size<=4000000) (hm:ot w):
  Calls prog 32 #[.string s,.string ⟨#[c]⟩] w fun e w'=>e=.returned (.slice (some ⟨w.heap.size,0,none⟩) (aR c s.data.toList).length (aR c s.data.toList).length)/\w'=w.alloc (.cells (fH (aR c s.data.toList)).toArray 9):=by
 obtain⟨m,hm⟩:=hm;have h:=Any.strings_Split Tryz.laysSplit (by kernel_rfl) s ⟨#[c]⟩ m w (by omega) (by rw[W9];exact hm) (ae 1);rw[WI,Uj]at h;have e1:=af3 c s
 have e2:countB s ⟨#[c]⟩+1=(aR c s.data.toList).length:=by
  rw[<-splitB_all ⟨#[c]⟩ (ae 1) 0 _ s rfl,<-e1,qK]
 rw[Gw e1]at h;refine h.mono ?_;rintro e w' ⟨rfl,rfl⟩;exact⟨by rw[<-e2],rfl⟩
theorem Tryz.laysCut:Go.Proofs.Lays.n145 prog Tryz.RN:= { Tryz.laysIndexL with
 f145:=aA func37 (by kernel_rfl)
 f220:=aA func71 (by kernel_rfl)
 t59:=underlying74
 a59:=isAgg74
 z59:=sizeOf74
 v59:=zeroValue74 }
theorem Sv:Tryz.RN.f 145=37:=by kernel_rfl
theorem Po:Tryz.RN.g 1=0:=by kernel_rfl
theorem Yi (s:ByteArray) (w:World) (hs:s.size<=1000000) (hm:ot w):
  Calls prog 37 #[.string s,.string ⟨#[59]⟩] w fun e w'=>(∃(t:ByteArray) (b:Bool),e=.returned (.tuple #[.string ⟨(s.data.toList.takeWhile (· !=59)).toArray⟩,.string t,.bool b]))/\Below w.heap.size w w':=by
 obtain⟨m,hm⟩:=hm;have h:=Any.strings_Cut Tryz.laysCut s ⟨#[59]⟩ m w (by omega) (by rw[Po];exact hm);rw[Sv]at h;refine h.mono ?_;rintro e w' ⟨rfl,n,rfl⟩;refine⟨⟨⟨(Lib.cut s.data.toList [59]).2.1.toArray⟩,(Lib.cut s.data.toList [59]).2.2,?_⟩,dh br0⟩;rw[show(ByteArray.mk #[59]).data.toList=[59] from rfl,ZD]
theorem Tryz.laysFieldsF:Go.Proofs.Lays.n229 prog Tryz.RN:= { Tryz.laysSplit with
 f229:=aA func38 (by kernel_rfl)
 t40:=underlying77
 a40:=isAgg77
 z40:=sizeOf77
 v40:=zeroValue77
 t152:=underlying113
 a152:=isAgg113
 z152:=sizeOf113
 v152:=zeroValue113
 t154:=underlying115
 a154:=isAgg115
 z154:=sizeOf115
 v154:=zeroValue115 }
theorem Vi:Tryz.RN.f 229=38:=by kernel_rfl
theorem Xu:Tryz.RN.t 9=9:=by kernel_rfl
theorem OZ (x:Nat) (w:World):Calls prog 39 #[.int .i32 (x:Int)] w fun e w'=>e=.returned (.bool (kN x))/\∃q,w'=w.drewN q:=by
 obtain⟨a,ha⟩:∃a,a=((x:Int)==32):=⟨_,rfl⟩;obtain⟨b,hb⟩:∃b,b=((x:Int)==9):=⟨_,rfl⟩
 have e:kN x=(a || b):=by
  unfold kN;rw[ha,hb,uj];simp only[jR,dV];omega
 rw[e];have ha':=ha.symm;have hb':=hb.symm;clear e ha hb;cases a <;> cases b
 all_goals
  go_enter func39,ntmps39;go_wp2;go_ret;exact⟨rfl,0,rfl⟩
theorem YF (s:ByteArray) (w:World) (hs:s.size<=1000000):
  Calls prog 38 #[.string s,.func (.func 39) #[] #[]] w fun e w'=>∃A,e=.returned (.slice (some ⟨A,0,none⟩) (cB [] s.data.toList).length (cB [] s.data.toList).length)/\w.heap.size<=A/\
   w'.ownsRow w.heap.size 9 1 (.slice (some ⟨A,0,none⟩) (cB [] s.data.toList).length (cB [] s.data.toList).length) (cB [] s.data.toList).length (fH (cB [] s.data.toList))/\Below w.heap.size w w':=by
 have h:=Any.strings_FieldsFunc_runes Tryz.laysFieldsF 39 #[] (enters_of func39 (by kernel_rfl) rfl) kN s w (by omega) (fun W x hx hb=>OZ x W) (by kernel_rfl) (by kernel_rfl);rw[Vi,Xu]at h;have e:=O_ s;have e2:(goFieldsP kN s).length=(cB [] s.data.toList).length:=by rw[<-e,qK]
 rw[Gw e,e2]at h;exact h
theorem wI (s p:ByteArray) (w:World):
  Calls prog 45 #[.string s,.string p] w fun e w'=>e=.returned (.tuple #[.string ⟨(Lib.trimPrefix s.data.toList p.data.toList).toArray⟩,.bool (Lib.hasPrefix s.data.toList p.data.toList)])/\w'=w:=by
 have h:=Any.strings_CutPrefix Tryz.laysCutPrefix s p w;rw[Ly]at h;exact h
theorem Tryz.laysHasPrefixD:Go.Proofs.Lays.n99 prog Tryz.RN:= { Tryz.laysRepeat with
 }
theorem Qj:Tryz.RN.f 99=55:=by kernel_rfl
theorem xM (s p:ByteArray) (w:World):
  Calls prog 55 #[.string s,.string p] w fun e w'=>e=.returned (.bool (Lib.hasPrefix s.data.toList p.data.toList))/\w'=w:=by
 have h:=Any.strings_HasPrefix Tryz.laysHasPrefixD s p w;rw[Qj]at h;exact h
theorem Tryz.laysHasSuffixD:Go.Proofs.Lays.n100 prog Tryz.RN:= { Tryz.laysIndexL with
 f100:=aA func19 (by kernel_rfl)
 f207:=aA func44 (by kernel_rfl) }
theorem TW:Tryz.RN.f 100=19:=by kernel_rfl
theorem Vq (s p:ByteArray) (w:World) (hs:s.size<=1000000000):
  Calls prog 19 #[.string s,.string p] w fun e w'=>e=.returned (.bool (Lib.hasSuffix s.data.toList p.data.toList))/\w'=w:=by
 have h:=Any.strings_HasSuffix Tryz.laysHasSuffixD s p w (by omega);rw[TW]at h;exact h
def pZ (w:World):Prop:=(∃te pe,w.cell? ⟨4,0,none⟩=some (.iface te pe))/\∃te pe,w.cell? ⟨5,0,none⟩=some (.iface te pe)
theorem pZ.below {w w':World}(h:pZ w) (hb:Below w.heap.size w w'):pZ w':=by
 obtain⟨⟨t1,p1,h1⟩,⟨t2,p2,h2⟩⟩:=h;exact⟨⟨t1,p1,(hb.cell (World.block_lt_of_cell? _ _ h1)).trans h1⟩,⟨t2,p2,(hb.cell (World.block_lt_of_cell? _ _ h2)).trans h2⟩⟩
structure Dk (w:World):Prop where
 t32:aQ w
 t10:b_ w
 mx:ot w
 t64:w.cell? ⟨7,15,none⟩=some (.int .u8 4)
 er:pZ w
theorem Dk.below {w w':World}(h:Dk w) (hb:Below w.heap.size w w'):Dk w':=
 ⟨h.t32.below hb,h.t10.below hb,h.mx.below hb,(hb.cell (p:=⟨7,15,none⟩) (World.block_lt_of_cell? w ⟨7,15,none⟩ h.t64)).trans h.t64,h.er.below hb⟩
theorem Dk.alloc {w:World}(h:Dk w) (o:Obj):Dk (w.alloc o):=h.below (br0.alloc le0 o)
theorem Dk.drew {w:World}(h:Dk w):Dk w.drew:=h.below br0.drew
theorem OJ (w:World):Calls prog 225 #[.int .i64 16] w fun e w'=>e=.returned (.bool true)/\w=w':=by
 have h:bits BinOp.and IntKind.i64 16 15=0:=by decide
 go_enter func225,ntmps225;go_wp2;go_ret;exact⟨rfl,rfl⟩
theorem Ze (w:World) (hc:w.cell? ⟨7,15,none⟩=some (.int .u8 4)):Calls prog 240 #[.int .u64 16] w fun e w'=>e=.returned (.int .i64 4)/\w=w':=by
 have h:IntKind.u64.wrap (bits BinOp.and IntKind.u64 16 (IntKind.u64.wrap (-16))*285870213051353865)/288230376151711744=15:=by decide
 go_enter func240,ntmps240;go_wp2;go_ret;exact⟨rfl,rfl⟩
theorem Sd (w:World) (hc:w.cell? ⟨7,15,none⟩=some (.int .u8 4)):Calls prog 226 #[.int .u64 16] w fun e w'=>e=.returned (.int .i64 4)/\w=w':=by
 go_enter func226,ntmps226;go_wp2_with (go_at_call 240;refine(Ze _ hc).mono ?_;rintro e w1 ⟨rfl,rfl⟩)
 go_ret;exact⟨rfl,rfl⟩
def qY (x m:Nat):List Value:=List.replicate (65-m) (.int .u8 0)++(cV x m).map fun(b:UInt8)=>Value.int .u8 (b.toNat:Int)
theorem X_ (x m j:Nat) (h:j<65-m):(qY x m).toArray[j]?=some (.int .u8 0):=by
 simp only[qY,ai6];rw[E_ (by simpa using h),ah4,aj h]
theorem KV:∀(m x:Nat),cV x (m+1)=qC (x/16^m%16)::cV x m
 | 0,x=>by simp [cV]
 |m+1,x=>by
  rw[cV,KV m (x/16),cV,i'];congr 2;rw[zU,bH,aW]
theorem Si (x m:Nat) (h:m<65):(qY x m).toArray.setIfInBounds (64-m) (.int .u8 ((qC (x/16^m%16)).toNat:Int))=(qY x (m+1)).toArray:=by
 rw[bj];congr 1;unfold qY;obtain⟨k,hk⟩:∃k,65-m=k+1:=⟨64-m,by omega⟩;rw[hk,show 64-m=k by omega,show 65-(m+1)=k by omega,N0,KV,ur,px,ah6 _ _ (by simp)];simp
theorem Ij {w:World}{b:Nat}{cur:Array Value}{T:TypeId}{f:Nat × Nat}(h:w.heap[b]?=some (.cells cur T f)) (k:Nat) (v:Value):(w.setCell ⟨b,k,none⟩ v).heap[b]?=some (.cells (cur.setIfInBounds k v) T f):=by
 simp [World.setCell,zY,h]
theorem Qy (y:Nat) (h:y<18446744073709551616):bits BinOp.and IntKind.u64 (y:Int) 15=((y%16:Nat):Int):=by
 rw[show(15:Int)=((15:Nat):Int) from rfl,bits_and_u64_nat _ _ h (by decide)];congr 1;exact zN y 4
def nj:ByteArray:=⟨#[48,49,50,51,52,53,54,55,56,57,97,98,99,100,101,102,103,104,105,106,107,108,109,110,111,112,113,114,115,116,117,118,119,120,121,122]⟩
theorem Hp (d:Nat) (h:d<16) (hs:d<nj.size):nj[d]'hs=qC d:=by
 have :d=0\/d=1\/d=2\/d=3\/d=4\/d=5\/d=6\/d=7\/d=8\/d=9\/d=10\/d=11\/d=12\/d=13\/d=14\/d=15:=by omega
 rcases this with h|h|h|h|h|h|h|h|h|h|h|h|h|h|h|h <;> subst h <;> rfl
theorem WN (x:Nat) (hx:x<18446744073709551616) (w:World) (h64:w.cell? ⟨7,15,none⟩=some (.int .u8 4)):
  Calls prog 190 #[.slice none 0 0,.int .u64 (x:Int),.int .i64 16,.bool false,.bool false] w fun e w'=>(∃n,1<=n/\n<=16/\x<16^n/\e=.returned (.tuple #[.slice none 0 0,.string ⟨(cV x n).toArray⟩]))/\Below w.heap.size w w':=by
 have P2:=hid (fun w'=>OJ w');have TZ:=hid (fun(o:Obj)=>Sd (w.alloc o) (((Below.refl w.heap.size w).alloc le0 o).cell (p:=⟨7,15,none⟩) (World.block_lt_of_cell? w ⟨7,15,none⟩ h64) |>.trans h64));clear h64;go_enter func190,ntmps190
 go_wp2_with (first
  |(go_at_call 225;refine(P2.out _).mono ?_;rintro e w1 ⟨rfl,rfl⟩)
  |(go_at_call 226;refine(TZ.out _).mono ?_;rintro e w1 ⟨rfl,rfl⟩))
 go_loopw [1,13] (fun u i wr=>∃(m y k:Nat),u=.int .u64 (y:Int)/\i=.int .i64 (k:Int)/\k+m=65/\m<=15/\Hid (y=x/16^m/\True)/\y<18446744073709551616/\Hid (wr.heap[w.heap.size]?=some (.cells (qY x m).toArray 235 (0,0)))/\Hid (Below w.heap.size w wr))
  (fun u _ _=>(RowKit.intOf u).toNat)
 case atStart=>exact⟨0,x,65,rfl,rfl,by omega,by omega,hid ⟨by simp,trivial⟩,hx,hid (by rw[(Go.MapKept.heap_alloc _ _).1];rfl),hid (br0.alloc le0 _)⟩
 case round=>
  obtain⟨m,y,k,rfl,rfl,hkm,hm,hy,hy2,hH,B⟩:=hrel;obtain⟨j,rfl⟩:∃j,k=j+1:=⟨k-1,by omega⟩;have hc:wr.cell? ⟨w.heap.size,j,none⟩=some (.int .u8 0):=by rw[Lib.cell_of_heap hH.out];exact X_ x m j (by omega)
  have hz:wr.frozen? ⟨w.heap.size,j,none⟩=false:=Lib.frozen_of_heap hH.out j;have hput:=Si x m (by omega);rw[show 64-m=j by omega]at hput
  have hdv:((nj[y%16]'(aX (ew y (by omega)) (by decide))).toNat:Int)=((qC (x/16^m%16)).toNat:Int):=by
   rw[Hp _ (ew _ (by omega)),hy.out.1]
  have hand:=Qy y hy2;by_cases h16:16<=y
  .go_wp2
   have hm1:m+1<=15:=by
    have h1:16*16^m<=x:=by
     have :=(qF (fN (n:=m) (show 0<16 by omega))).1 (hy.out.1 ▸ h16);exact this
    refine Nat.not_lt.1 fun h=>?_
    have h2:(16:Nat)^15<=16^m:=aG (by omega) (by omega);have h3:(16:Nat)^15=1152921504606846976:=by decide
    omega
   have hp:=(congrArg (fun z=>some (Obj.cells z 235 (0,0))) (hdv ▸ hput));refine⟨⟨m+1,y/16,j,rfl,rfl,by omega,hm1,hid ⟨?_,trivial⟩,by omega,hid ((Ij hH.out j _).trans hp),hid (B.out.setCell le0 _)⟩,by simp only[RowKit.intOf];omega⟩;rw[hy.out.1,zU,bH]
  .have hy16:y%16=y:=lV (by omega)
   have hal:prog.arrayLen 235=65:=by simp [Program.arrayLen,underlying235]
   have hsl:∀W,(Instr.sliceAt 235 (.pointer (some ⟨w.heap.size,0,none⟩)) (some (.int .i64 (j:Int))) none none).run prog W=.ok (.slice (some ⟨w.heap.size,j,none⟩) (m+1) (m+1)) W:=fun W=>by
    rw[run_sliceAt_array_l W 235 ⟨w.heap.size,0,none⟩ (by simp [Program.arrayLen,Program.elem,underlying235]) .i64 (j:Int) (by omega) (by rw[hal];omega)];go_simp;omega
   have hlt:y<nj.size:=aX (ET.1 h16) (by decide)
   have hdy:(((nj[y]'hlt).toNat:Nat):Int)=((qC (x/16^m%16)).toNat:Int):=by
    rw[Hp _ (ET.1 h16),<-hy.out.1,hy16]
   have hp:=(congrArg (fun z=>some (Obj.cells z 235 (0,0))) hput);rw[<-hdy]at hp;have hp2:=(Ij hH.out j _).trans hp;have hBs:=B.out.setCell (p:=⟨w.heap.size,j,none⟩) le0 (.int .u8 (((nj[y]'hlt).toNat:Nat):Int))
   have hcv:(convert 37 9 (.slice (some ⟨w.heap.size,j,none⟩) (m+1) (m+1))).run prog (wr.setCell ⟨w.heap.size,j,none⟩ (.int .u8 (((nj[y]'hlt).toNat:Nat):Int)))=.ok (.string ⟨(cV x (m+1)).toArray⟩) (wr.setCell ⟨w.heap.size,j,none⟩ (.int .u8 (((nj[y]'hlt).toNat:Nat):Int))):=by
    have h:=run_convert_bytes_back (P:=prog) (wr.setCell ⟨w.heap.size,j,none⟩ (.int .u8 (((nj[y]'hlt).toNat:Nat):Int))) 37 9 5 ⟨w.heap.size,j,none⟩ (m+1) (cV x (m+1)) underlying37 underlying5 underlying9 (fun i hi=>by
     rw[show(⟨w.heap.size,j,none⟩:Addr).add i=⟨w.heap.size,j+i,none⟩ from by unfold Addr.add;split <;> simp_all];rw[Lib.cell_of_heap hp2];rw[sJ]at hi;simp only[qY,ai6];rw[E' (by simp;omega)];simp only[E8];rw[show j+i-(65-(m+1))=i by omega,Fh,fO (by rw[sJ];exact hi)];rfl)
    rw[sJ]at h;exact h
   have h15:x<16^(m+1):=by
    have :=(lU (fN (n:=m) (show 0<16 by omega))).1 (hy.out.1 ▸ (ET.1 h16));rw[bH,aW];exact this
   have H15:=hid h15;have HB:=hid hBs;simp only[nj]at hcv HB;clear hdv hput hand hp hp2 hBs hal hdy hy H15 hH B;go_wp2;go_ret2;exact⟨⟨m+1,by omega,by omega,h15,rfl⟩,HB.out⟩
open Go.Shelf Go.RowKit Go.Lib Go.Sort
theorem Tryz.laysWriteS:Go.Proofs.Lays.n166 prog Tryz.RN:= { Tryz.laysRepeat with
 }
theorem Tryz.laysBString:Go.Proofs.Lays.n169 prog Tryz.RN:= { Tryz.laysRepeat with
 }
theorem SB:Tryz.RN.f 166=13:=by kernel_rfl
theorem TF:Tryz.RN.f 169=17:=by kernel_rfl
theorem VI:Builder.Extra prog Tryz.RN:= {
 sizeBuilder:=by kernel_rfl
 liesBuilder:=by kernel_rfl
 t5:=underlying5
 a5:=isAgg5
 z5:=sizeOf5
 v5:=zeroValue5
 infoByte:=by kernel_rfl
 cellsByte:=by kernel_rfl
 sizeByte:=by kernel_rfl
 neB5:=by decide }
theorem QP:Builder.Extra prog Tryz.RN:= {
 sizeBuilder:=by kernel_rfl
 liesBuilder:=by kernel_rfl
 t5:=underlying5
 a5:=isAgg5
 z5:=sizeOf5
 v5:=zeroValue5
 infoByte:=by kernel_rfl
 cellsByte:=by kernel_rfl
 sizeByte:=by kernel_rfl
 neB5:=by decide }
def kR (B b:Nat) (l:List UInt8) (w:World):Prop:=IsBuilder 39 5 B b (byteCells l) w
theorem LY {T e:TypeId}{B b:Nat}{p:Value}{bs:List Value}{w w':World}(h:BuilderAt T e B b p bs w) (hb:Below w.heap.size w w'):BuilderAt T e B b p bs w':=by
 obtain⟨hB,v,hk,hown,hne⟩:=h;exact⟨hB,v,by rw[hb.block b (mQ.1 hk).1];exact hk,kZ hown hb,hne⟩
theorem kR.below {B b:Nat}{l:List UInt8}{w w':World}(h:kR B b l w) (hb:Below w.heap.size w w'):kR B b l w':=
 h.elim (fun h=> .inl (LY h hb)) (fun h=> .inr (LY h hb))
theorem IE (B b:Nat) (l s:List UInt8) (S:ByteArray) (hS:S=⟨s.toArray⟩) (w:World) (h:kR B b l w) (hl:l.length+s.length<=140737488355328) (hB:B<=w.heap.size):
  Calls prog 13 #[.pointer (some ⟨b,0,none⟩),.string S] w fun e w'=>(∃n:Int,e=.returned (.tuple #[.int .i64 n,.nilIface]))/\kR B b (l++s) w'/\Below B w w':=by
 subst hS;have hc:=Any.Builder_WriteString Tryz.laysWriteS VI B b (byteCells l) ⟨s.toArray⟩ w h (by rw[byteCells_length];exact hl) hB;rw[SB]at hc;refine hc.mono ?_;rintro e w' ⟨rfl,h1,h2⟩;refine⟨⟨_,rfl⟩,.inr ?_,h2⟩;have e1:byteCells l++strCells ⟨s.toArray⟩=byteCells (l++s):=by simp [byteCells,strCells]
 rw[e1]at h1;exact h1
theorem No (B b:Nat) (l:List UInt8) (w:World) (h:kR B b l w) (hB:B<=w.heap.size):
  Calls prog 17 #[.pointer (some ⟨b,0,none⟩)] w fun e w'=>e=.returned (.string ⟨l.toArray⟩)/\Below B w w':=by
 have hc:=Any.Builder_String_any Tryz.laysBString QP B b l w h hB;rw[TF]at hc;exact hc
def Wr (w:World) (A:Nat) (l:List (List UInt8)):Prop:= ∀(j:Nat) x,l[j]?=some x->w.cell? ⟨A,j,none⟩=some (dL x)
theorem Wr.lt {w:World}{A:Nat}{l:List (List UInt8)}(h:Wr w A l) (h0:l≠[]):A<w.heap.size:=by
 cases l with
 |nil=>exact absurd rfl h0
 |cons x t=>exact World.block_lt_of_cell? w ⟨A,0,none⟩ (h 0 x rfl)
theorem Wr.below {w w':World}{A B:Nat}{l:List (List UInt8)}(h:Wr w A l) (hb:Below B w w') (hA:A<B):Wr w' A l:=fun j x hx=>(hb.cell (p:=⟨A,j,none⟩) hA).trans (h j x hx)
def oA (l:List (List UInt8)) (o:List UInt8):Prop:=o.length<=1000000/\∀(w:World) (A:Nat),Dk w->Wr w A l->A<w.heap.size->
 Calls prog 40 #[.slice (some ⟨A,0,none⟩) l.length l.length] w (fa w o)
def iY (A:Nat × Nat) (l:List (List UInt8)):Value:= .slice (some ⟨A.1,0,none⟩) l.length A.2
structure mK (K:Nat->Nat->Prop) (w:World) (v:Value) (bl:List (Nat × Nat)) (L:List (List (List UInt8))):Prop where
 len:bl.length=L.length
 ne:∀l∈L,l≠[]
 cells:∀(j:Nat) A l,bl[j]?=some A->L[j]?=some l->v.ownBlock≠some A.1/\Wr w A.1 l/\K A.2 l.length
def fW (bl:List (Nat × Nat)) (L:List (List (List UInt8))):List Value:=List.zipWith iY bl L
theorem Wi:(prog.info? 40).map (fun i=>(i.zero,i.size,i.bytes))=some (some (.slice none 0 0),1,24):=by kernel_rfl
theorem Ma {ops:Array Oper}{rest:List Oper}{o:Oper}{a:Act}{Q:Exit->Act->World->Prop}{w0:World}{Y:Value}(hgd:o.guard=none) (s x:Operand)
  (ho:o.op=.call { callee:= .builtin .append,args:= #[s,x],argTypes:= #[33,33] })
  (base:Nat) (hbase:base<=w0.heap.size) (v:Value) (xs:List Value) (hs:a.eval s=v) (hown:w0.ownsRow base 40 1 v xs.length xs)
  (A:Nat × Nat) (l:List (List UInt8)) (hx:a.eval x=.slice (some ⟨w0.heap.size,0,none⟩) 1 1) (hY:Y=iY A l) (hl:xs.length<=10000000)
  (h:∀v' w',w'.ownsRow base 40 1 v' (xs++[iY A l]).length (xs++[iY A l])->Below base w0 w'->(w0.alloc (.cells #[iY A l] 40)).grownBy w' v.ownBlock->wpList prog ops Q rest (a.put o.dst v') w'):
  wpList prog ops Q (o::rest) a (w0.alloc (.cells #[Y] 40)):=by
 subst hY;obtain⟨i0,hi,hz0,hz1,hz2⟩:=info_parts Wi;refine wpList_append_own _ hgd s x 33 ho base 40 i0 (.slice none 0 0) 1 24 underlying33 hi hz0 hz1 hz2 rfl (by decide) v xs.length xs hs (hown.alloc _) ⟨w0.heap.size,0,none⟩ 1 1 [iY A l] hx rfl (cell_one_new _ _ _) (by intro u hu;simp at hu;subst hu;rfl) (by unfold maxLen;omega) (by omega) (by simp;omega) ?_;intro v' w1 hown1 hgrow _;refine h v' w1 ?_ ?_ hgrow
 .rw[ck];exact hown1
 .refine((Below.refl base w0).alloc hbase _).trans (vQ hgrow (by simp;omega) ?_)
  intro k hk;exact(hown.lt k hk).1
theorem CH {bl:List (Nat × Nat)}{L:List (List (List UInt8))}(h:bl.length=L.length) (A:Nat × Nat) (l:List (List UInt8)):fW (bl++[A]) (L++[l])=fW bl L++[iY A l]:=by
 unfold fW;rw[List.zipWith_append h];rfl
theorem qT {bl:List (Nat × Nat)}{L:List (List (List UInt8))}(h:bl.length=L.length):(fW bl L).length=L.length:=by
 unfold fW;rw[List.length_zipWith,h,Nat.min_self]
theorem Mc {bl:List (Nat × Nat)}{L:List (List (List UInt8))}{j:Nat}{A:Nat × Nat}{l:List (List UInt8)}(hA:bl[j]?=some A) (hl:L[j]?=some l):(fW bl L)[j]?=some (iY A l):=by
 unfold fW;rw[List.getElem?_zipWith,hA,hl]
theorem mK.push {K:Nat->Nat->Prop}{w w':World}{v v':Value}{base:Nat}{bl:List (Nat × Nat)}{L:List (List (List UInt8))}(h:mK K w v bl L) (A:Nat × Nat) (l:List (List UInt8)) (h0:l≠[]) (hA:Wr w A.1 l) (hA2:v.ownBlock≠some A.1) (hK:K A.2 l.length)
  (hg:(w.alloc (.cells #[iY A l] 40)).grownBy w' v.ownBlock) (hv:w'.ownsRow base 40 1 v' (fW bl L++[iY A l]).length (fW bl L++[iY A l])):mK K w' v' (bl++[A]) (L++[l]):=by
 have keep:∀A' l',l'≠[]->v.ownBlock≠some A'->Wr w A' l'->v'.ownBlock≠some A'/\Wr w' A' l':=by
  intro A' l' h0 hne hw;have hlt:=hw.lt h0
  have hw':Wr w' A' l':=by
   intro j x hx;have h1:=hw j x hx
   have h2:w'.heap[A']?=w.heap[A']?:=by
    rw[hg.block A' (by simp;omega) (fun e=>hne e.symm)];exact Below.heap_alloc _ _ _ hlt
   exact(World.cell?_of_block (w:=w) h2).trans h1
  refine⟨fun e=>?_,hw'⟩
  obtain⟨m,c,hm⟩:∃(m:Nat × Nat) (c:List (List UInt8)),(fW bl L++[iY A l])[0]?=some (iY m c):=by
   rw[<-CH h.len];cases bl with
   |nil=>
    cases L with
    |nil=>exact⟨A,l,rfl⟩
    |cons _ _=>have :=h.len;simp at this
   |cons b t=>
    cases L with
    |nil=>have :=h.len;simp at this
    |cons d r=>exact⟨b,d,rfl⟩
  have h3:=hv.cells e 0 _ hm;cases l' with
  |nil=>exact h0 rfl
  |cons x r=>
   have h4:=hw' 0 x rfl;have e0:(⟨A',0,none⟩:Addr).add 0=⟨A',0,none⟩:=by unfold Addr.add;rfl
   rw[e0,h4]at h3;simp [iY,dL]at h3
 refine⟨by simp [h.len],fun m hm=>?_,fun j B m hB hm=>?_⟩
 .rcases gF.1 hm with h1|h1
  .exact h.ne m h1
  .simp at h1;subst h1;exact h0
 .by_cases hj:j<bl.length
  .rw[E_ hj]at hB
   rw[E_ (by rw[<-h.len];exact hj)]at hm;obtain⟨g1,g2,g3⟩:=h.cells j B m hB hm;obtain⟨k1,k2⟩:=keep B.1 m (h.ne m (qI hm)) g1 g2;exact⟨k1,k2,g3⟩
  .have :j=bl.length:=by
    have :=(iH.1 hB).1;simp at this;omega
   subst this;rw[E' le0,si]at hB;rw[h.len,E' le0,si]at hm;simp at hB hm;subst hB hm;obtain⟨k1,k2⟩:=keep A.1 l h0 hA2 hA;exact⟨k1,k2,hK⟩
theorem mK.below {K:Nat->Nat->Prop}{w w':World}{v:Value}{bl:List (Nat × Nat)}{L:List (List (List UInt8))}(h:mK K w v bl L) (hb:Below w.heap.size w w'):mK K w' v bl L:=
 ⟨h.len,h.ne,fun j A l h1 h2=>by
  obtain⟨g1,g2,g3⟩:=h.cells j A l h1 h2;exact⟨g1,g2.below hb (g2.lt (h.ne l (qI h2))),g3⟩⟩
def aY (ps:List (List UInt8)):List (List (List UInt8)):=(ps.map fun s=>cB [] (s.takeWhile (· !=59))).filter (!·.isEmpty)
theorem JW (ps:List (List UInt8)) (i:Nat) (p:List UInt8) (hp:ps[i]?=some p):aY (ps.take (i+1))=aY (ps.take i)++(if(cB [] (p.takeWhile (· !=59))).isEmpty=true then [] else [cB [] (p.takeWhile (· !=59))]):=by
 have hi:=(iH.1 hp).1;rw[pA hi];have :ps[i]=p:=(iH.1 hp).2;rw[this];unfold aY;rw[Ot,List.filter_append];congr 1;simp [Ou]
theorem DN (ps:List (List UInt8)):(aY ps).length<=ps.length:=by
 unfold aY;refine ct (ai7 _ _) ?_;rw[qK];exact ae _
theorem tp (c:UInt8):∀(l:List UInt8) (p:List UInt8),p∈aR c l->p.length<=l.length
 | [],p,h=>by simp [aR]at h;subst h;exact ae _
 |b::t,p,h=>by
  have ih:=tp c t;rw[aR]at h;split at h
  .rcases iI.1 h with h|h
   .subst h;simp
   .have :=ih p h;simp;omega
  .split at h
   .rename_i x xs e
    rw[e]at ih;rcases iI.1 h with h|h
    .subst h;have :=ih x (by simp);simp;omega
    .have :=ih p (by simp [h]);simp;omega
   .simp at h;subst h;simp
theorem vT {p:UInt8->Bool} :∀l:List UInt8,(l.takeWhile p).length<=l.length:=fun l=>(On p).length_le
theorem JV {w:World}{base:Nat}{A:Nat × Nat}{l:List (List UInt8)}(h:w.ownsRow base 9 1 (iY A l) l.length (fH l)):Wr w A.1 l:=by
 intro j x hx;have :=h.cells (g:=A.1) rfl j (dL x) (by simp [fH,hx]);rw[show(⟨A.1,0,none⟩:Addr).add j=⟨A.1,0+j,none⟩ from by unfold Addr.add;split <;> simp_all,jw]at this;exact this
theorem ad7 (o:List UInt8):(⟨o.toArray⟩++⟨#[10]⟩:ByteArray)=⟨(o++[10]).toArray⟩:=by apply eK;simp [lY]
def qa:List UInt8:=[101,114,114,111,114,32,50,10]
def runT (outs:List (List UInt8)):List UInt8:=(outs.map (· ++[10])).flatten
theorem Wp (outs:List (List UInt8)) (i:Nat) (o:List UInt8) (ho:outs[i]?=some o):runT (outs.take (i+1))=runT (outs.take i)++(o++[10]):=by
 have hi:=(iH.1 ho).1;rw[pA hi,(iH.1 ho).2];simp [runT]
theorem I8 (outs:List (List UInt8)) (h:∀o∈outs,o.length<=1000000):(runT outs).length<=1000001*outs.length:=by
 induction outs with
 |nil=>simp [runT]
 |cons o t ih=>
  have h1:=ih (fun x hx=>h x (by simp [hx]));have h2:=h o (by simp);simp [runT]at *;omega
theorem JU (t:List UInt8) (S:ByteArray) (hS:S=⟨t.toArray⟩) (hl:t.length<=16384) (outs:List (List UInt8)) (hlen:outs.length=(aY (aR 10 t)).length) (R:List UInt8) (hn:((aY (aR 10 t)).length<=100/\R=runT outs)\/(100<(aY (aR 10 t)).length/\R=qa))
  (hT:∀(j:Nat) l o,(aY (aR 10 t))[j]?=some l->outs[j]?=some o->oA l o) (w:World) (hD:Dk w):
  Calls prog 16 #[.string S] w (fa w R):=by
 have es:S.data.toList=t:=by rw[hS]
 have SP:=DI 10 S w (by rw[hS];show t.toArray.size<=_;simp;omega) hD.mx;rw[es]at SP;have hzS:S.size=t.length:=by rw[hS];rfl
 have HSub:=hid (tp 10 t);have hPl:=vZ 10 t;generalize aR 10 t=P at *;obtain⟨np,hnp⟩:∃np,np=P.length:=⟨_,rfl⟩;rw[<-hnp]at SP hPl;have SP2:=hid SP;have HT:=hid hT;have HD:=hid hD;have HP:=hid hnp;have HLN:=hid hlen;unfold fa;clear SP hT hD hnp hlen es hS;go_enter func16,ntmps16;go_wp2_with (go_at_call 32;refine SP2.out.mono ?_;rintro e w1 ⟨rfl,hw1⟩;have HW1:=hid hw1;clear hw1)
 have hs1:w1.heap.size=w.heap.size+1:=by rw[HW1.out];simp
 have HB1:Hid (Below w.heap.size w w1):=hid (by rw[HW1.out];exact br0.alloc le0 _)
 have HC:Hid (∀(j:Nat) x,P[j]?=some x->w1.cell? ⟨w.heap.size,j,none⟩=some (dL x)):=hid (by
  intro j x hx;rw[HW1.out]
  show(World.alloc _ _).cell? _=_
  simp [fH,hx])
 go_loopw [3,16] (fun v iv wr=>∃(i:Nat) (bl:List (Nat × Nat)),iv=.int .i64 (i:Int)/\i<=np/\Hid (wr.ownsRow w1.heap.size 40 1 v (fW bl (aY (P.take i))).length (fW bl (aY (P.take i)))/\mK (fun c n=>c=n) wr v bl (aY (P.take i)))/\Hid (Below w1.heap.size w1 wr))
  (fun _ iv _=>np-(RowKit.intOf iv).toNat)
 case atStart=>exact⟨0,[],rfl,by omega,hid ⟨World.ownsRow_nil _ _ _ _,⟨rfl,by simp [aY],by simp⟩⟩,hid br0⟩
 case round=>
  obtain⟨i,bl,rfl,hi,hR,B⟩:=hrel;have hsz:=B.out.size;obtain⟨L,hL⟩:∃L,L=aY (P.take i):=⟨_,rfl⟩;rw[<-hL]at hR
  obtain⟨ao,ln,cp,rfl⟩:∃ao ln cp,u3=.slice ao ln cp:=by
   rcases hR.out.1.2 with⟨h,_⟩|⟨g,c,cur,h,_⟩
   .exact⟨_,_,_,h⟩
   .exact⟨_,_,_,h⟩
  by_cases hin:i<np
  .obtain⟨p,hp⟩:∃p,P[i]?=some p:=⟨_,fO (by rw[<-HP.out];exact hin)⟩
   obtain⟨T,hTT⟩:∃T:ByteArray,T=⟨p.toArray⟩:=⟨_,rfl⟩
   have hc:wr.cell? ⟨w.heap.size,i,none⟩=some (.string T):=by
    rw[B.out.cell (p:=⟨w.heap.size,i,none⟩) (by show w.heap.size<_;omega),HC.out i p hp,hTT]
   have hpl:p.length<=16384:=ct (HSub.out p (qI hp)) hl;have D1:=hid (HD.out.below (af HB1.out le0 B.out));have CU:=Yi T wr (by rw[hTT];show p.toArray.size<=_;simp;omega) D1.out.mx;rw[show T.data.toList=p by rw[hTT]]at CU;obtain⟨q,hq⟩:∃q,q=p.takeWhile (· !=59):=⟨_,rfl⟩
   rw[<-hq]at CU;have hql:q.length<=16384:=by rw[hq];exact ct (vT _) hpl
   obtain⟨Q,hQ⟩:∃Q:ByteArray,Q=⟨q.toArray⟩:=⟨_,rfl⟩;rw[<-hQ]at CU;have FF:=fun w'=>YF Q w' (by rw[hQ];show q.toArray.size<=_;simp;omega)
   simp only[show Q.data.toList=q by rw[hQ]]at FF;obtain⟨ws,hws⟩:∃ws,ws=cB [] q:=⟨_,rfl⟩;simp only[<-hws]at FF;have hst:=JW P i p hp;rw[<-hq,<-hws,<-hL]at hst;have HST:=hid hst;have CUH:=hid CU;have FFH:=hid FF
   have HLL:Hid (L.length<=100000/\True):=hid ⟨by
    rw[hL];refine ct (DN _) ?_;rw[dj,<-HP.out];omega,trivial⟩
   clear hst CU FF hws hQ hq hTT hp hL hpl hql;by_cases h0:ws=[]
   .subst h0
    go_wp2_with (first
     |(go_at_call 37;refine CUH.out.mono ?_;rintro e w2 ⟨⟨tt,bb,rfl⟩,hb⟩;have B2:=bt0 B hb;have b2:=hid hb;clear hb CUH)
     |(go_at_call 38;refine(FFH.out _).mono ?_;rintro e w3 ⟨A,rfl,hA,hown,hb⟩;have B3:=bt0 B2 hb;have b3:=bt0 b2 hb;clear hb hown FFH))
    refine⟨⟨i+1,bl,rfl,by omega,hid ?_,B3⟩,by simp only[RowKit.intOf];omega⟩;have e:=HST.out;simp only[List.isEmpty_nil,cQ,n9]at e;rw[e];exact⟨kZ hR.out.1 b3.out,hR.out.2.below b3.out⟩
   .have hpos:0<ws.length:=ai8.2 h0
    have hposz:(0:Int)<(ws.length:Int):=by omega
    have H0:=hid h0;have hLx:Hid ((fW bl L).length<=10000000/\True):=hid ⟨by rw[qT hR.out.2.len];have :=HLL.out.1;omega,trivial⟩;clear h0
    go_wp2_with (first
     |(go_at_call 37;refine CUH.out.mono ?_;rintro e w2 ⟨⟨tt,bb,rfl⟩,hb⟩;have B2:=bt0 B hb;have b2:=hid hb;clear hb CUH)
     |(go_at_call 38;refine(FFH.out _).mono ?_;rintro e w3 ⟨A,rfl,hA,hown,hb⟩;have B3:=bt0 B2 hb;have b3:=bt0 b2 hb;have WR:=hid (JV (A:=(A,ws.length)) hown);have hz3:=B3.out.size;have O3:=hid (kZ hR.out.1 b3.out);have N3:=hid (hR.out.2.below b3.out);have hAO:Hid ((Value.slice ao ln cp).ownBlock≠some A/\True):=hid ⟨fun ee=>(by have h1:=(hR.out.1.lt A ee).2;have h2:=b2.out.size;omega),trivial⟩;clear hb hown FFH)
     |(at_builtin;refine Ma rfl _ _ rfl w1.heap.size hz3 _ (fW bl L) rfl O3.out (A,ws.length) ws rfl rfl hLx.out.1 ?_;intro v5 w5 ho5 hb5 hg5;have O5:=hid ho5;have N5:=hid (N3.out.push (A,ws.length) ws H0.out WR.out hAO.out.1 rfl hg5 ho5);have B5:=hid (B3.out.trans hb5);clear ho5 hb5 hg5))
    refine⟨⟨i+1,bl++[(A,ws.length)],rfl,by omega,hid ?_,B5⟩,by simp only[RowKit.intOf];omega⟩;have e:=HST.out;rw[ag (by simpa using H0.out)]at e;rw[e,CH hR.out.2.len];exact⟨O5.out,N5.out⟩
  .have hLP:L=aY P:=by rw[hL,dI (by rw[<-HP.out];omega)]
   rw[<-hLP]at hn;have hlo:outs.length=L.length:=by rw[hLP];exact HLN.out
   have HT2:=HT.out;rw[<-hLP]at HT2
   have hln:ln=L.length:=by
    have e:=qT hR.out.2.len;rcases hR.out.1.2 with⟨h,h0⟩|⟨g,c,cur,h,_⟩
    .cases h;omega
    .cases h;exact e
   subst hln;rcases hn with⟨hLn,rfl⟩|⟨hLn,rfl⟩
   case inr=>
    have hBx:=hid (af HB1.out le0 B.out);obtain⟨n,hnn⟩:∃n,n=L.length:=⟨_,rfl⟩;rw[<-hnn]at hLn hR ⊢;have hLi:(100:Int)<(n:Int):=by omega
    clear hL hLP HT2 hnn hlo HT hPl HSub SP2 HC;go_wp2;go_ret;exact⟨rfl,hBx.out⟩
   obtain⟨n,hnn⟩:∃n,n=L.length:=⟨_,rfl⟩;rw[<-hnn]at hLn hlo;have HTe:=hid HT2;have Hlo:=hid hlo;have Hnn:=hid hnn;have hnz:(n:Int)<=100:=by omega
   have hBx:=hid (af HB1.out le0 B.out)
   have HO:Hid (∀o∈outs,o.length<=1000000):=hid (by
    intro o ho;obtain⟨j,hj⟩:=Oq.1 ho;have hjl:j<L.length:=by rw[<-hnn,<-hlo];exact(iH.1 hj).1
    exact(HT2 j _ o (fO hjl) hj).1)
   rw[<-hnn]at hR ⊢;clear hL hLP HT2 hnn hlo HT hPl HSub SP2 HC;have b0:Hid (kR wr.heap.size wr.heap.size (runT (outs.take 0)) (wr.alloc (.cells #[.pointer none,.slice none 0 0] 39))):=hid (.inl ⟨ae _,.slice none 0 0,(Go.MapKept.heap_alloc _ _).1,World.ownsRow_nil _ _ _ _,by simp [Value.ownBlock]⟩);go_wp2;generalize wr=wl at *;go_loopw [41] (fun iv w2=>∃i:Nat,iv=.int .i64 (i:Int)/\i<=n/\Hid (kR wl.heap.size wl.heap.size (runT (outs.take i)) w2)/\Hid (Below wl.heap.size wl w2)) (fun iv _=>n-(RowKit.intOf iv).toNat)
   case atStart=>exact⟨0,rfl,by omega,b0,hid (br0.alloc le0 _)⟩
   case round=>
    obtain⟨i,rfl,hi2,hb,B2⟩:=hrel;by_cases hin2:i<n
    .have hil:i<L.length:=by rw[<-Hnn.out];exact hin2
     obtain⟨l,hl'⟩:∃l,L[i]?=some l:=⟨_,fO hil⟩;obtain⟨A,hA⟩:∃A,bl[i]?=some A:=⟨_,fO (by rw[hR.out.2.len];exact hil)⟩;obtain⟨o,ho⟩:∃o,outs[i]?=some o:=⟨_,fO (by rw[Hlo.out];exact hin2)⟩
     obtain⟨g,rfl⟩:∃g,ao=some ⟨g,0,none⟩:=by
      rcases hR.out.1.2 with⟨h,h0⟩|⟨g,c,cur,h,_⟩
      .rw[qT hR.out.2.len]at h0;omega
      .exact⟨g,by injection h⟩
     have hgl:=(hR.out.1.lt g rfl).2
     have hc:wr.cell? ⟨g,i,none⟩=some (iY A l):=by
      have c1:=hR.out.1.cells (g:=g) rfl i _ (Mc hA hl');rw[show(⟨g,0,none⟩:Addr).add i=⟨g,0+i,none⟩ from by unfold Addr.add;split <;> simp_all,jw]at c1;exact(B2.out.cell (p:=⟨g,i,none⟩) hgl).trans c1
     obtain⟨g1,g2,g3⟩:=hR.out.2.cells i A l hA hl';obtain⟨A,cA⟩:=A;obtain rfl:cA=l.length:=g3;replace hc:wr.cell? ⟨g,i,none⟩=some (.slice (some ⟨A,0,none⟩) l.length l.length):=hc;replace g2:Wr wl A l:=g2;have hAlt:=g2.lt (hR.out.2.ne l (qI hl'));have TL:=HTe.out i l o hl' ho;have LN:=TL.2 wr A (HD.out.below (af hBx.out le0 B2.out)) (g2.below B2.out hAlt) (aX hAlt B2.out.size);unfold fa at LN;have LNH:=hid LN;have ho6:=TL.1
     have hrl:(runT (outs.take i)).length<=1000001*100:=by
      have h1:=I8 (outs.take i) (fun x hx=>HO.out x (kU hx));rw[dj]at h1;omega
     have WS:=hid (fun S' hS' w' h hB=>IE wl.heap.size wl.heap.size (runT (outs.take i)) (o++[10]) S' hS' w' h (by rw[ck];simp;omega) hB);have hst:=hid (Wp outs i o ho);clear g1 g2 TL LN hrl hl' hA ho
     go_wp2_with (first
      |(go_at_call 40;refine LNH.out.mono ?_;rintro e w3 ⟨rfl,hb3⟩;have B3:=bt0 B2 hb3;have b3:=hid (hb.out.below hb3);clear hb3 LNH)
      |(go_at_call 13;refine(WS.out _ (ad7 o) _ b3.out B3.out.size).mono ?_;rintro e w4 ⟨⟨nn,rfl⟩,h4,hb4⟩;have H4:=hid h4;have B4:=hid (B3.out.trans hb4);clear h4 hb4))
     exact⟨⟨i+1,rfl,by omega,hid (by rw[hst.out];exact H4.out),B4⟩,by simp only[RowKit.intOf];omega⟩
    .have hie:outs.take i=outs:=dI (by rw[Hlo.out];omega)
     rw[hie]at hb;have BS:=hid (No wl.heap.size wl.heap.size (runT outs) wr hb.out B2.out.size);go_wp2_with (go_at_call 17;refine BS.out.mono ?_;rintro e w4 ⟨rfl,hb4⟩;have B4:=hid (B2.out.trans hb4);clear hb4)
     go_ret;exact⟨rfl,af hBx.out le0 B4.out⟩
theorem QS (t:List UInt8) (S:ByteArray) (hS:S=⟨t.toArray⟩) (hl:t.length<=16384) (outs:List (List UInt8)) (hlen:outs.length=(aY (aR 10 t)).length) (hn:(aY (aR 10 t)).length<=100)
  (hT:∀(j:Nat) l o,(aY (aR 10 t))[j]?=some l->outs[j]?=some o->oA l o) (w:World) (hD:Dk w):
  Calls prog 16 #[.string S] w (fa w (runT outs)):=JU t S hS hl outs hlen _ (Or.inl ⟨hn,rfl⟩) hT w hD
theorem ac4 (S:ByteArray) (hl:16384<S.size) (w:World):Calls prog 16 #[.string S] w (fa w qa):=by
 have hz:(16384:Int)<(S.size:Int):=by omega
 unfold fa;go_enter func16,ntmps16;go_wp2;go_ret;exact⟨rfl,Below.refl _ _⟩
open Go.Shelf Go.RowKit Go.Lib
def lO (k:Nat):List UInt8:=[101,114,114,111,114,32]++decDigits k
theorem Zl (p:Addr) (w:World):
  CallsD prog 72 #[.pointer (some p)] .returning w fun e u' w'=>e=.returned (.tuple #[])/\u'=.returning/\w'=w:=by
 refine callsD_of_wpS func72 rfl fun c₀ cs hu=>?_
 apply wpS_seq;apply wpS_region;simp [wpOpsS,go_sem,recoverD,hu,ntmps72,Exit.thenS];simp only[se,Ok,ai9,aj0,List.push_toArray,aj1,ku,i',Array.setIfInBounds,Ov];refine wpS_of_wp ?_;go_wp2;cases c₀
 simp_all [bodyPostS,results,Tryz.results72]
theorem RW (p:Addr) (x:ByteArray) (k:Nat) (hk:k<1000000000) (older:List PanicEntry) (w:World) (hc:w.cell? p=some (.string x)) (hz:w.frozen? p=false) (hT10:b_ w):
  CallsD prog 72 #[.pointer (some p)] (.panicking ({ v:= .iface 27 (.int .i64 (k:Int)),recovered:=false } ::older)) w fun e u' w'=>
   e=.returned (.tuple #[])/\u'=.panicking ({ v:= .iface 27 (.int .i64 (k:Int)),recovered:=true } ::older)/\∃w1,Below w.heap.size w w1/\w'=w1.setCell p (.string ⟨(lO k).toArray⟩):=by
 have IT:=hid (DQ k hk w hT10);have hta:∀(n:Int) (w:World),(Instr.typeAssert (.iface 27 (.int .i64 n)) 20 27 true).run prog w=.ok (.tuple #[.int .i64 n,.bool true]) w:=fun _ _=>rfl
 have hlt:=World.block_lt_of_cell? w p hc
 have hdl:(decDigits k).length<=1000:=by
  have h1:=qR (show k<=999999999 by omega);have h2:(decDigits 999999999).length=9:=by decide+kernel
  omega
 obtain⟨D,hDD⟩:∃D:ByteArray,D=⟨(decDigits k).toArray⟩:=⟨_,rfl⟩;rw[<-hDD]at IT;have hzD:D.size<=1000:=by rw[hDD];exact hdl
 have HDD:=hid hDD;clear hT10 hDD hdl;refine callsD_of_wpS func72 rfl fun c₀ cs hu=>?_
 apply wpS_seq;apply wpS_region;simp [wpOpsS,go_sem,recoverD,hu,ntmps72,Exit.thenS];simp only[se,Ok,ai9,aj0,List.push_toArray,aj1,ku,i',Array.setIfInBounds,Ov];refine wpS_of_wp ?_;go_wp2_with (go_at_call 73;refine IT.out.mono ?_;rintro e w1 ⟨rfl,hb⟩;have B:=hid hb;have hc1:=(hb.cell (p:=p) hlt).trans hc;have hz1:=(hb.frozen (p:=p) hlt).trans hz;clear hb)
 have e:(⟨#[101,114,114,111,114,32]⟩++D:ByteArray)=⟨(lO k).toArray⟩:=by
  rw[HDD.out];apply eK;simp [lY,lO]
 rw[e];cases c₀
 simp [bodyPostS,results,Tryz.results72];exact⟨w1,B.out,rfl⟩
theorem Et (A:Nat) (l:List (List UInt8)) (o:List UInt8) (w:World) (hc:Calls prog 74 #[.slice (some ⟨A,0,none⟩) l.length l.length] (w.alloc (.cells #[.string ⟨#[]⟩] 9)) (fa (w.alloc (.cells #[.string ⟨#[]⟩] 9)) o)):
  Calls prog 40 #[.slice (some ⟨A,0,none⟩) l.length l.length] w (fa w o):=by
 have hmf:∀(fn:Fn) (first cap:Array Value) (w:World),(Instr.makeFunc fn first cap).run prog w=.ok (.func fn first cap) w:=fun _ _ _ _=>rfl
 have CM:=hid hc;unfold fa at CM ⊢;have h0:(w.alloc (.cells #[.string ⟨#[]⟩] 9)).cell? ⟨w.heap.size,0,none⟩=some (.string ⟨#[]⟩):=by simp
 have f0:(w.alloc (.cells #[.string ⟨#[]⟩] 9)).frozen? ⟨w.heap.size,0,none⟩=false:=by simp
 have H0:=hid (And.intro h0 f0);clear hc h0 f0
 go_enter_defers func40,ntmps40
 go_wp2_with (go_at_call 74;refine CM.out.mono ?_;rintro e w1 ⟨rfl,hb⟩;have B:=hid hb;have hc1:=(hb.cell (p:=⟨w.heap.size,0,none⟩) (by simp)).trans H0.out.1;have hz1:=(hb.frozen (p:=⟨w.heap.size,0,none⟩) (by simp)).trans H0.out.2;clear hb)
 refine leaves_cons (f:=72) (args:= #[.pointer (some ⟨w.heap.size,0,none⟩)]) (by simp) (by simp [go_sem]) ?_;refine(Zl ⟨w.heap.size,0,none⟩ _).mono ?_;rintro e u' w'' ⟨rfl,rfl,rfl⟩;have hcs:(w1.setCell ⟨w.heap.size,0,none⟩ (.string ⟨o.toArray⟩)).cell? ⟨w.heap.size,0,none⟩=some (.string ⟨o.toArray⟩):=World.cell?_setCell_same _ _ _ hc1;simp [Leaves,settle,results,Tryz.results40,go_sem,hcs];exact(((Below.refl w.heap.size w).alloc le0 _).trans (B.out.mono (by simp))).setCell le0 _
theorem Jr (A:Nat) (l:List (List UInt8)) (k:Nat) (hk:k<1000000000) (w:World) (hT10:b_ w) (hc:Calls prog 74 #[.slice (some ⟨A,0,none⟩) l.length l.length] (w.alloc (.cells #[.string ⟨#[]⟩] 9)) (fun e w'=>e=.panicked [{ v:= .iface 27 (.int .i64 (k:Int)),recovered:=false }]/\Below (w.alloc (.cells #[.string ⟨#[]⟩] 9)).heap.size (w.alloc (.cells #[.string ⟨#[]⟩] 9)) w')):
  Calls prog 40 #[.slice (some ⟨A,0,none⟩) l.length l.length] w (fa w (lO k)):=by
 have hmf:∀(fn:Fn) (first cap:Array Value) (w:World),(Instr.makeFunc fn first cap).run prog w=.ok (.func fn first cap) w:=fun _ _ _ _=>rfl
 have CM:=hid hc;unfold fa;have h0:(w.alloc (.cells #[.string ⟨#[]⟩] 9)).cell? ⟨w.heap.size,0,none⟩=some (.string ⟨#[]⟩):=by simp
 have f0:(w.alloc (.cells #[.string ⟨#[]⟩] 9)).frozen? ⟨w.heap.size,0,none⟩=false:=by simp
 have H0:=hid (And.intro h0 f0);clear hc h0 f0
 go_enter_defers func40,ntmps40
 go_wp2_with (go_at_call 74;refine CM.out.mono ?_;rintro e w1 ⟨rfl,hb⟩;have B:=hid hb;have hc1:=(hb.cell (p:=⟨w.heap.size,0,none⟩) (by simp)).trans H0.out.1;have hz1:=(hb.frozen (p:=⟨w.heap.size,0,none⟩) (by simp)).trans H0.out.2;clear hb)
 refine leaves_cons (f:=72) (args:= #[.pointer (some ⟨w.heap.size,0,none⟩)]) (by simp) (by simp [go_sem]) ?_;refine(RW ⟨w.heap.size,0,none⟩ ⟨#[]⟩ k hk [] _ hc1 hz1 (hT10.below ((((Below.refl w.heap.size w).alloc le0 _)).trans (B.out.mono (by simp))))).mono ?_;rintro e u' w'' ⟨rfl,rfl,w2,hb2,rfl⟩;have hcs:(w2.setCell ⟨w.heap.size,0,none⟩ (.string ⟨(lO k).toArray⟩)).cell? ⟨w.heap.size,0,none⟩=some (.string ⟨(lO k).toArray⟩):=World.cell?_setCell_same _ _ _ ((hb2.cell (p:=⟨w.heap.size,0,none⟩) (World.block_lt_of_cell? _ _ hc1)).trans hc1);simp [Leaves,settle,results,Tryz.results40,go_sem,hcs];have hb1:=((Below.refl w.heap.size w).alloc le0 (.cells #[.string ⟨#[]⟩] 9)).trans (B.out.mono (by simp));exact(hb1.trans (hb2.mono hb1.size)).setCell le0 _
open Go.Lib
def tb (b:UInt8):UInt8:=if b=9 then 32 else b
theorem Ie {l:List UInt8}(h:(9:UInt8) ∉ l):l.map tb=l:=by
 induction l with
 |nil=>rfl
 |cons b l ih=>
  simp at h;rw[ur,ih h.2,tb,ag (fun e=>h.1 e.symm)]
theorem K8:∀(n:Nat) (l:List UInt8),l.length<=n->replaceK [9] [32] (Lib.count l [9]) l=l.map tb
 |n,l,hn=>by
  rcases vw 9 l with⟨h1,h2⟩|⟨m,t,h1,h2,h3⟩
  .rw[count_miss h1,Ie h2];rfl
  .rw[count_hit (by simp) h3,r_,replaceK_hit _ _ _ _ _ h3]
   have e1:l.take m.length=m:=by rw[h1];simp
   have e2:l.drop (m.length+[(9:UInt8)].length)=t:=by rw[h1];simp
   rw[e1,e2];cases n with
   |zero=>rw[h1]at hn;simp at hn
   |succ n=>
    rw[K8 n t (by rw[h1]at hn;simp at hn;omega),h1,Ot,ur,Ie h2];simp [tb]
theorem Vr (l:List UInt8):Lib.replaceAll l [9] [32]=l.map tb:=by
 unfold Lib.replaceAll Lib.replace Lib.replaceNum;rw[ag (by decide),aj (Or.inl (by decide))];exact K8 _ l le0
theorem ya (c:UInt8) (l:List UInt8):∃x xs,aR c l=x::xs:=by
 cases l with
 |nil=>exact⟨_,_,rfl⟩
 |cons b t=>
  rw[aR];split
  .exact⟨_,_,rfl⟩
  .split
   .exact⟨_,_,rfl⟩
   .exact⟨_,_,rfl⟩
theorem CF:∀(q cur x:List UInt8) (xs:List (List UInt8)),aR 32 (q.map tb)=x::xs->((cur++x)::xs).filter (fun w=> !w.isEmpty)=cB cur q
 | [],cur,x,xs,h=>by
  simp [aR]at h;obtain⟨rfl,rfl⟩:=h;cases cur <;> simp [cB]
 |b::t,cur,x,xs,h=>by
  obtain⟨y,ys,hy⟩:=ya 32 (t.map tb);rw[ur,aR]at h;by_cases hb:b=32\/b=9
  .have e:tb b=32:=by rcases hb with rfl|rfl <;> rfl
   rw[aj e,hy]at h;injection h with h1 h2
   subst h1 h2;rw[cB,aj hb,<-CF t [] y ys hy];cases cur <;> simp [Ou]
  .have e:tb b=b:=by unfold tb;rw[ag (fun e=>hb (Or.inr e))]
   rw[e,ag (fun e=>hb (Or.inl e)),hy]at h;injection h with h1 h2
   subst h1 h2;rw[cB,ag hb,<-CF t (cur++[b]) y ys hy];simp
theorem XZ (q:List UInt8):(aR 32 (q.map tb)).filter (fun w=> !w.isEmpty)=cB [] q:=by
 obtain⟨x,xs,h⟩:=ya 32 (q.map tb);rw[h,<-CF q [] x xs h];rfl
theorem ad1 (c:UInt8) (s:ByteArray):∃r,(splitB ⟨#[c]⟩ 0 (min 2 (s.size+1)-1) s).map (·.data.toList)=s.data.toList.takeWhile (· !=c)::r:=by
 rw[splitB_data]
 show ∃r,splitK [c] 0 _ s.data.toList=_
 have hz:=size_eq s;generalize s.data.toList=l at *;by_cases h0:s.size=0
 .have :l=[]:=List.eq_nil_of_length_eq_zero (by omega)
  subst this;rw[h0];exact⟨[],rfl⟩
 .rw[show min 2 (s.size+1)-1=0+1 by omega,splitK]
  rcases vw c l with⟨h1,h2⟩|⟨m,t,h1,h2,h3⟩
  .rw[h1,aj (by decide),Av h2]
   exact⟨[],rfl⟩
  .rw[h3,ag (by rw[dV];omega),h1,Aa (by intro b hb;simp;exact fun e=>h2 (e ▸ hb))]
   simp [splitK]
theorem Hv (a b:List (List UInt8)):aY (a++b)=aY a++aY b:=by simp [aY]
theorem At (c:UInt8):∀a b:List UInt8,aR c (a++c::b)=aR c a++aR c b
 | [],b=>by simp [aR]
 |x::a,b=>by
  obtain⟨y,ys,hy⟩:=ya c a;rw[i',aR,At c a b,hy];by_cases h:x=c
  .rw[aj h,aR,aj h,hy];rfl
  .rw[ag h,aR,ag h,hy];rfl
theorem ZI {a:List UInt8}(h:a=[]\/∃a',a=a'++[10]) (b:List UInt8):aY (aR 10 (a++b))=aY (aR 10 a)++aY (aR 10 b):=by
 rcases h with rfl|⟨a',rfl⟩
 .rfl
 .rw[px,List.singleton_append,At,At,Hv,Hv,px]
  rfl
theorem Aq:∀(q cur:List UInt8),Nb cur->∀w∈cB cur q,w≠[]/\∀b∈w,(b≠32/\b≠9)/\(b∈cur\/b∈q)
 | [],cur,hc,w,hw=>by
  rw[cB]at hw;split at hw
  .cases hw
  .rename_i h
   simp at hw;subst hw;exact⟨h,fun b hb=>⟨hc b hb,Or.inl hb⟩⟩
 |d::t,cur,hc,w,hw=>by
  rw[cB]at hw;split at hw
  .rcases gF.1 hw with h|h
   .split at h
    .cases h
    .rename_i h0
     simp at h;subst h;exact⟨h0,fun b hb=>⟨hc b hb,Or.inl hb⟩⟩
   .obtain⟨h1,h2⟩:=Aq t [] (fun b hb=>by cases hb) w h
    refine⟨h1,fun b hb=>⟨(h2 b hb).1,?_⟩⟩;rcases(h2 b hb).2 with k|k
    .cases k
    .exact Or.inr (n8 _ k)
  .rename_i hd
   obtain⟨h1,h2⟩:=Aq t (cur++[d]) (fun b hb=>by
    rcases gF.1 hb with k|k
    .exact hc b k
    .simp at k;subst k;exact⟨fun e=>hd (Or.inl e),fun e=>hd (Or.inr e)⟩) w hw
   refine⟨h1,fun b hb=>⟨(h2 b hb).1,?_⟩⟩;rcases(h2 b hb).2 with k|k
   .rcases gF.1 k with k|k
    .exact Or.inl k
    .simp at k;subst k;exact Or.inr (by simp)
   .exact Or.inr (n8 _ k)
theorem ID (c:UInt8):∀(l p:List UInt8),p∈aR c l->c ∉ p
 | [],p,h=>by simp [aR]at h;subst h;simp
 |b::t,p,h=>by
  obtain⟨y,ys,hy⟩:=ya c t;have ih:=ID c t;rw[aR]at h;split at h
  .rcases iI.1 h with h|h
   .subst h;simp
   .exact ih p h
  .rename_i hb
   rw[hy]at h ih;rcases iI.1 h with h|h
   .subst h
    intro k;rcases iI.1 k with k|k
    .exact hb k.symm
    .exact ih y (by simp) k
   .exact ih p (by simp [h])
theorem Dc {p:UInt8->Bool} :∀ {l:List UInt8}{b:UInt8},b∈l.takeWhile p->p b=true/\b∈l
 |c::l,b,h=>by
  rw[List.takeWhile_cons]at h;split at h
  .rcases iI.1 h with h|h
   .subst h;exact⟨by assumption,by simp⟩
   .exact⟨(Dc h).1,by simp [(Dc h).2]⟩
  .cases h
theorem AZ:∀(q cur w:List UInt8),w∈cB cur q->w.length<=cur.length+q.length
 | [],cur,w,h=>by
  rw[cB]at h;split at h
  .cases h
  .simp at h;subst h;simp
 |d::t,cur,w,h=>by
  rw[cB]at h;split at h
  .rcases gF.1 h with h|h
   .split at h
    .cases h
    .simp at h;subst h;simp
   .have :=AZ t [] w h;simp at this ⊢;omega
  .have :=AZ t (cur++[d]) w h;simp at this ⊢;omega
theorem G9 (t:List UInt8):∀l∈aY (aR 10 t),l≠[]/\∀w∈l,Wd w/\w.length<=t.length:=by
 intro l hl;unfold aY at hl;obtain⟨h1,h2⟩:=Ow.1 hl;obtain⟨p,hp,rfl⟩:=wv.1 h1;refine⟨by intro e;rw[e]at h2;simp at h2,fun w hw=>?_⟩;obtain⟨k1,k2⟩:=Aq _ [] (fun b hb=>by cases hb) w hw
 have hb:∀b∈w,b∈p.takeWhile (· !=59):=fun b hb=>by
  rcases(k2 b hb).2 with k|k
  .cases k
  .exact k
 refine⟨⟨k1,fun b hbw=>?_⟩,?_⟩
 .obtain⟨m1,m2⟩:=Dc (hb b hbw)
  refine⟨fun e=>ID 10 t p hp (e ▸ m2),by simpa using m1,(k2 b hbw).1.1,(k2 b hbw).1.2⟩
 .have h1:=AZ _ [] w hw
  have h2:=vT (p:=(· !=59)) p
  have h3:=tp 10 t p hp;simp at h1;omega
theorem Bd:∀(q cur:List UInt8),(cB cur q).length<=q.length+1
 | [],cur=>by rw[cB];split <;> simp
 |d::t,cur=>by
  have h1:=Bd t [];have h2:=Bd t (cur++[d]);rw[cB];split
  .rw[ck,ez]
   have :(if cur=[] then([]:List (List UInt8)) else [cur]).length<=1:=by split <;> simp
   omega
  .simp only[ez];omega
theorem L_ (t:List UInt8):∀l∈aY (aR 10 t),l.length<=t.length+1:=by
 intro l hl;unfold aY at hl;obtain⟨p,hp,rfl⟩:=wv.1 (Ow.1 hl).1;have h1:=Bd (p.takeWhile (· !=59)) []
 have h2:=vT (p:=(· !=59)) p
 have h3:=tp 10 t p hp;omega
def rR (l:List (List UInt8)):List UInt8:=9::(Lib.join l [32,32]++[32,59,32,115,111,10,10])
def gl (L:List (List (List UInt8))):List UInt8:=(L.map rR).flatten
theorem LO:∀(r:List (List UInt8)) (x:List UInt8),Wd x->(∀w∈r,Wd w)->cB x (Lib.joinTail [32,32] r++[32])=x::r
 | [],x,hx,_=>by simp [Lib.joinTail,cB,hx.1]
 |y::r,x,hx,hr=>by
  have hy:=hr y (by simp);have e:Lib.joinTail [32,32] (y::r)++[32]=32::32::(y++(Lib.joinTail [32,32] r++[32])):=by simp [Lib.joinTail]
  rw[e,cB,aj (Or.inl rfl),ag hx.1,cB,aj (Or.inl rfl),aj rfl,vP y [] _ hy.nb,ku,ku,LO r y hy (fun w hw=>hr w (by simp [hw]))];rfl
theorem Js {c:UInt8}(hc:c≠32):∀l:List (List UInt8),(∀w∈l,c ∉ w)->c ∉ Lib.join l [32,32]
 | [],_=>by simp [Lib.join_nil]
 |x::r,h=>by
  rw[Lib.join_cons];intro k;rcases gF.1 k with k|k
  .exact h x (by simp) k
  .unfold Lib.joinTail at k
   rw[List.mem_flatten]at k;obtain⟨z,hz,kz⟩:=k;obtain⟨y,hy,rfl⟩:=wv.1 hz;rcases gF.1 kz with k|k
   .simp at k;exact hc k
   .exact h y (by simp [hy]) k
theorem SI (l:List (List UInt8)) (h0:l≠[]) (hl:∀w∈l,Wd w) (r:List UInt8):aY (aR 10 (rR l++r))=l::aY (aR 10 r):=by
 cases l with
 |nil=>exact absurd rfl h0
 |cons x xs=>
  have n59:(59:UInt8) ∉ 9::Lib.join (x::xs) [32,32]++[32]:=by
   intro k;rcases gF.1 k with k|k
   .rcases iI.1 k with k|k
    .exact absurd k (by decide)
    .exact Js (by decide) _ (fun w hw=>(hl w hw).n59) k
   .simp at k
  have n10:(10:UInt8) ∉ (9::Lib.join (x::xs) [32,32]++[32])++[59,32,115,111]:=by
   intro k;rcases gF.1 k with k|k
   .rcases gF.1 k with k|k
    .rcases iI.1 k with k|k
     .exact absurd k (by decide)
     .exact Js (by decide) _ (fun w hw=>(hl w hw).n10) k
    .simp at k
   .simp at k
  have e:rR (x::xs)++r=((9::Lib.join (x::xs) [32,32]++[32])++[59,32,115,111])++10::([]++10::r):=by simp [rR]
  rw[e,zy 10 _ _ n10,zy 10 [] _ (by simp)]
  have e1:((9::Lib.join (x::xs) [32,32]++[32])++[59,32,115,111]).takeWhile (· !=59)=9::Lib.join (x::xs) [32,32]++[32]:=by
   rw[Aa (by intro b hb;simp;exact fun e=>n59 (e ▸ hb))];simp
  have e2:cB [] (9::Lib.join (x::xs) [32,32]++[32])=x::xs:=by
   have hx:=hl x (by simp);rw[Lib.join_cons,i',cB,aj (Or.inr rfl),aj rfl,ku,px,vP x [] _ hx.nb,ku];exact LO xs x hx (fun w hw=>hl w (by simp [hw]))
  unfold aY;rw[ur,ur,e1,e2];rfl
theorem KM:∀(L:List (List (List UInt8))),(∀l∈L,l≠[]/\∀w∈l,Wd w)->aY (aR 10 (gl L))=L
 | [],_=>rfl
 |l::L,h=>by
  have e:gl (l::L)=rR l++gl L:=rfl;rw[e,SI l (h l (by simp)).1 (h l (by simp)).2,KM L (fun m hm=>h m (by simp [hm]))]
theorem KU:∀(outs:List (List UInt8)),(∀o∈outs,(10:UInt8) ∉ o)->(runT outs).count 10=outs.length
 | [],_=>rfl
 |o::outs,h=>by
  have e:runT (o::outs)=o++[10]++runT outs:=by simp [runT]
  rw[e,List.count_append,List.count_append,KU outs (fun x hx=>h x (by simp [hx])),List.count_eq_zero.2 (h o (by simp))];simp;omega
theorem MW (a b:List (List UInt8)):runT (a++b)=runT a++runT b:=by simp [runT]
theorem UR (outs:List (List UInt8)):runT outs=[]\/∃s,runT outs=s++[10]:=by
 rcases List.eq_nil_or_concat outs with rfl|⟨a,o,rfl⟩
 .exact Or.inl rfl
 .refine Or.inr ⟨runT a++o,?_⟩
  rw[List.concat_eq_append,MW];simp [runT]
open Go.Shelf Go.RowKit Go.Lib Go.Sort
theorem Tryz.laysSplitN:Go.Proofs.Lays.n147 prog Tryz.RN:= { Tryz.laysSplit with
 f147:=aA func34 (by kernel_rfl) }
theorem Zu:Tryz.RN.f 147=34/\Tryz.RN.g 1=0/\Tryz.RN.t 9=9:=⟨by kernel_rfl,by kernel_rfl,by kernel_rfl⟩
theorem Q9 (s:ByteArray) (w:World) (hs:s.size<=4000000) (hm:ot w):
  Calls prog 34 #[.string s,.string ⟨#[59]⟩,.int .i64 2] w fun e w'=>(∃n c,e=.returned (.slice (some ⟨w.heap.size,0,none⟩) n c)/\1<=n)/\w'.cell? ⟨w.heap.size,0,none⟩=some (dL (s.data.toList.takeWhile (· !=59)))/\Below w.heap.size w w':=by
 obtain⟨m,hm⟩:=hm;obtain⟨f,g,t⟩:=Zu;have h:=Any.strings_SplitN Tryz.laysSplitN (by kernel_rfl) s ⟨#[59]⟩ 2 m w (by omega) (by rw[g];exact hm) (by decide) (by decide) (by decide);rw[f,t]at h;obtain⟨r,hr⟩:=ad1 59 s;generalize splitB ⟨#[59]⟩ 0 (min 2 (s.size+1)-1) s=D at *;cases D with
 |nil=>simp at hr
 |cons x xs=>
  simp only[ur,Fb]at hr;refine h.mono ?_;rintro e w' ⟨rfl,rfl⟩;refine⟨⟨_,_,rfl,by simp⟩,?_,br0.alloc le0 _⟩;rw[<-hr.1];simp [cellsOf]
theorem Tryz.laysReplAll:Go.Proofs.Lays.n155 prog Tryz.RN:= { Tryz.laysReplace with
 f155:=aA func33 (by kernel_rfl) }
theorem Pm:Tryz.RN.f 155=33/\Tryz.RN.g 1=0:=⟨by kernel_rfl,by kernel_rfl⟩
theorem Xn:Builder.Extra prog Tryz.RN:= {
 sizeBuilder:=by kernel_rfl
 liesBuilder:=by kernel_rfl
 t5:=underlying5
 a5:=isAgg5
 z5:=sizeOf5
 v5:=zeroValue5
 infoByte:=by kernel_rfl
 cellsByte:=by kernel_rfl
 sizeByte:=by kernel_rfl
 neB5:=by decide }
theorem U0 (s:ByteArray) (w:World) (hs:s.size<=4000000) (hm:ot w):
  Calls prog 33 #[.string s,.string ⟨#[9]⟩,.string ⟨#[32]⟩] w (fa w (s.data.toList.map tb)):=by
 obtain⟨m,hm⟩:=hm;obtain⟨f,g⟩:=Pm;have hc:=countB_le ⟨#[9]⟩ (by decide) s.size s le0;have h:=Any.strings_ReplaceAll Tryz.laysReplAll Xn s ⟨#[9]⟩ ⟨#[32]⟩ m w (by omega) (by rw[g];exact hm) (by decide) (by show s.size+countB s ⟨#[9]⟩*1<=_;omega);rw[f,show(ByteArray.mk #[9]).data.toList=[9] from rfl,show(ByteArray.mk #[32]).data.toList=[32] from rfl,Vr]at h;exact h
theorem Tg {w:World}{b c n:Nat}{T:TypeId}{v:Value}{xs:List Value}(h:w.ownsRow b T 1 v n xs) (hc:c<=b):w.ownsRow c T 1 v n xs:=
 ⟨h.1,h.2.imp id fun⟨g,cp,cur,h1,h2,h3⟩=>⟨g,cp,cur,h1,ct hc h2,h3⟩⟩
def oj (M:List (List UInt8)) (j:Nat):List (List UInt8):=(M.take j).filter fun w=> !w.isEmpty
theorem QH {M:List (List UInt8)}{j:Nat}{x:List UInt8}(h:M[j]?=some x):oj M (j+1)=oj M j++(if x=[] then [] else [x]):=by
 unfold oj;have hj:=(iH.1 h).1;rw[pA hj,(iH.1 h).2,List.filter_append];cases x <;> simp [Ou]
theorem SK (t:List UInt8) (S:ByteArray) (hS:S=⟨t.toArray⟩) (hl:t.length<=4000000) (w:World) (hD:Dk w):
  Calls prog 11 #[.string S] w fun e w'=>∃v bl,e=.returned (.tuple #[v,.int .i64 ((aY (aR 10 t)).length:Int)])/\w'.ownsRow w.heap.size 40 1 v (fW bl (aY (aR 10 t))).length (fW bl (aY (aR 10 t)))/\mK (fun c n=>n<=c) w' v bl (aY (aR 10 t))/\Below w.heap.size w w':=by
 have es:S.data.toList=t:=by rw[hS]
 have SP:=DI 10 S w (by rw[hS];show t.toArray.size<=_;simp;omega) hD.mx;rw[es]at SP;have HSub:=hid (tp 10 t);have hPl:=vZ 10 t;generalize aR 10 t=P at *;obtain⟨np,hnp⟩:∃np,np=P.length:=⟨_,rfl⟩;rw[<-hnp]at SP hPl;have SP2:=hid SP;have HD:=hid hD;have HP:=hid hnp;clear SP hD hnp es hS;go_enter func11,ntmps11;go_wp2_with (go_at_call 32;refine SP2.out.mono ?_;rintro e w1 ⟨rfl,hw1⟩;have HW1:=hid hw1;clear hw1)
 have hs1:w1.heap.size=w.heap.size+1:=by rw[HW1.out];simp
 have HB1:Hid (Below w.heap.size w w1):=hid (by rw[HW1.out];exact br0.alloc le0 _)
 have HC:Hid (∀(j:Nat) x,P[j]?=some x->w1.cell? ⟨w.heap.size,j,none⟩=some (dL x)):=hid (by
  intro j x hx;rw[HW1.out]
  show(World.alloc _ _).cell? _=_
  simp [fH,hx])
 go_loopw [4,13] (fun v iv wr=>∃(i:Nat) (bl:List (Nat × Nat)),iv=.int .i64 (i:Int)/\i<=np/\Hid (wr.ownsRow w1.heap.size 40 1 v (fW bl (aY (P.take i))).length (fW bl (aY (P.take i)))/\mK (fun c n=>n<=c) wr v bl (aY (P.take i)))/\Hid (Below w1.heap.size w1 wr))
  (fun _ iv _=>np-(RowKit.intOf iv).toNat)
 case atStart=>exact⟨0,[],rfl,by omega,hid ⟨World.ownsRow_nil _ _ _ _,⟨rfl,by simp [aY],by simp⟩⟩,hid br0⟩
 case round=>
  obtain⟨i,bl,rfl,hi,hR,B⟩:=hrel;have hsz:=B.out.size;obtain⟨L,hL⟩:∃L,L=aY (P.take i):=⟨_,rfl⟩;rw[<-hL]at hR
  obtain⟨ao,ln,cp,rfl⟩:∃ao ln cp,u4=.slice ao ln cp:=by
   rcases hR.out.1.2 with⟨h,_⟩|⟨g,c,cur,h,_⟩
   .exact⟨_,_,_,h⟩
   .exact⟨_,_,_,h⟩
  by_cases hin:i<np
  .obtain⟨p,hp⟩:∃p,P[i]?=some p:=⟨_,fO (by rw[<-HP.out];exact hin)⟩
   obtain⟨T,hTT⟩:∃T:ByteArray,T=⟨p.toArray⟩:=⟨_,rfl⟩
   have hc:wr.cell? ⟨w.heap.size,i,none⟩=some (.string T):=by
    rw[B.out.cell (p:=⟨w.heap.size,i,none⟩) (by show w.heap.size<_;omega),HC.out i p hp,hTT]
   have hpl:p.length<=4000000:=ct (HSub.out p (qI hp)) hl;have D1:=hid (HD.out.below (af HB1.out le0 B.out));have SN:=Q9 T wr (by rw[hTT];show p.toArray.size<=_;simp;omega) D1.out.mx;rw[show T.data.toList=p by rw[hTT]]at SN;obtain⟨q,hq⟩:∃q,q=p.takeWhile (· !=59):=⟨_,rfl⟩
   rw[<-hq]at SN;have hql:q.length<=4000000:=by rw[hq];exact ct (vT _) hpl
   obtain⟨Q,hQ⟩:∃Q:ByteArray,Q=⟨q.toArray⟩:=⟨_,rfl⟩;rw[show dL q=.string Q by rw[hQ]]at SN;have RA:=fun w' (hb:Below wr.heap.size wr w')=>U0 Q w' (by rw[hQ];show q.toArray.size<=_;simp;omega) (D1.out.below hb).mx
   simp only[show Q.data.toList=q by rw[hQ]]at RA;obtain⟨R,hRR⟩:∃R:ByteArray,R=⟨(q.map tb).toArray⟩:=⟨_,rfl⟩;unfold fa at RA;simp only[<-hRR]at RA;have S3:=fun w' (hb:Below wr.heap.size wr w')=>DI 32 R w' (by rw[hRR];show(q.map tb).toArray.size<=_;simp;omega) (D1.out.below hb).mx
   simp only[show R.data.toList=q.map tb by rw[hRR]]at S3;have hW:=XZ q;have hMl:=vZ 32 (q.map tb);rw[qK]at hMl;obtain⟨M,hM⟩:∃M,M=aR 32 (q.map tb):=⟨_,rfl⟩;rw[<-hM]at hW hMl;simp only[<-hM]at S3;have hst:=JW P i p hp;rw[<-hq,<-hL]at hst;have HST:=hid hst;have HWF:=hid hW;have SNH:=hid SN;have RAH:=hid RA;have S3H:=hid S3;obtain⟨nm,hnm⟩:∃nm,nm=M.length:=⟨_,rfl⟩;rw[<-hnm]at hMl;have HNM:=hid hnm
   have HLL:Hid (L.length<=5000000/\True):=hid ⟨by
    rw[hL];refine ct (DN _) ?_;rw[dj,<-HP.out];omega,trivial⟩
   have hnmz:nm<=4000001:=by omega
   simp only[<-hnm]at S3H;clear hst SN RA S3 hW hM hRR hQ hq hTT hp hL hpl hql hnm hMl
   go_wp2_with (first
    |(go_at_call 34;refine SNH.out.mono ?_;rintro e w2 ⟨⟨n2,c2,rfl,hn2⟩,hc2,hb⟩;have b2:=hid hb;have hn2z:(1:Int)<=(n2:Int):=(by omega);clear hb SNH)
    |(go_at_call 33;refine(RAH.out _ b2.out).mono ?_;rintro e w3 ⟨rfl,hb⟩;have b3:=bt0 b2 hb;clear hb RAH)
    |(go_at_call 32;refine(S3H.out _ b3.out).mono ?_;rintro e w4 ⟨rfl,hw4⟩;have b4:Hid (Below wr.heap.size wr w4):=hid (by rw[hw4];exact b3.out.alloc b3.out.size _);have hz4:w4.heap.size=w3.heap.size+1:=(by rw[hw4];simp);have HC4:Hid (∀(j:Nat) x,M[j]?=some x->w4.cell? ⟨w3.heap.size,j,none⟩=some (dL x)):=hid (by
       intro j x hx;rw[hw4]
       show(World.alloc _ _).cell? _=_
       simp [fH,hx])
      clear hw4 S3H))
   generalize wr=wl at *
   go_loopw [7,25] (fun v jv wq=>∃(j:Nat),jv=.int .i64 (j:Int)/\j<=nm/\Hid (wq.ownsRow w4.heap.size 9 1 v (oj M j).length (fH (oj M j)))/\Hid (Below w4.heap.size w4 wq))
    (fun _ jv _=>nm-(RowKit.intOf jv).toNat)
   case atStart=>exact⟨0,rfl,by omega,hid (World.ownsRow_nil _ _ _ _),hid br0⟩
   case round=>
    obtain⟨j,rfl,hj,hO,B2⟩:=hrel;have hz5:=B2.out.size
    obtain⟨ao2,ln2,cp2,rfl⟩:∃ao ln cp,u7=.slice ao ln cp:=by
     rcases hO.out.2 with⟨h,_⟩|⟨g,c,cur,h,_⟩
     .exact⟨_,_,_,h⟩
     .exact⟨_,_,_,h⟩
    by_cases hjn:j<nm
    .obtain⟨x,hx⟩:∃x,M[j]?=some x:=⟨_,fO (by rw[<-HNM.out];exact hjn)⟩
     obtain⟨X,hX⟩:∃X:ByteArray,X=⟨x.toArray⟩:=⟨_,rfl⟩
     have hc5:wr.cell? ⟨w3.heap.size,j,none⟩=some (.string X):=by
      rw[B2.out.cell (p:=⟨w3.heap.size,j,none⟩) (by show w3.heap.size<_;omega),HC4.out j x hx,hX]
     have hst:=hid (QH hx);have HX:=hid hX
     have hll:Hid ((oj M j).length<=10000000/\True):=hid ⟨by
      refine ct (ai7 _ _) ?_;rw[dj];omega,trivial⟩
     by_cases h0:x=[]
     .have hXe:X.toList.isEmpty=true:=by rw[hX,h0,ByteArray.toList_eq];rfl
      have H0:=hid h0;clear hx hX h0;go_wp2;exact⟨⟨j+1,rfl,by omega,hid (by rw[hst.out,aj H0.out,n9];exact hO.out),B2⟩,by simp only[RowKit.intOf];omega⟩
     .have hXe:X.toList.isEmpty=false:=by
       rw[hX,ByteArray.toList_eq];cases x with
       |nil=>exact absurd rfl h0
       |cons a b=>rfl
      have H0:=hid h0;clear hx hX h0;go_wp2_with (at_builtin;refine Cn rfl _ _ rfl w4.heap.size hz5 _ (oj M j) rfl hO.out x rfl HX.out hll.out.1 ?_;intro v5 w5 ho5 hb5 hg5;have O5:=hid ho5;have B5:=hid (B2.out.trans hb5);clear ho5 hb5 hg5)
      exact⟨⟨j+1,rfl,by omega,hid (by rw[hst.out,ag H0.out];exact O5.out),B5⟩,by simp only[RowKit.intOf];omega⟩
    .have hje:oj M j=cB [] q:=by
      unfold oj;rw[dI (by rw[<-HNM.out];omega)];exact HWF.out
     rw[hje]at hO;obtain⟨W,hW⟩:∃W,W=cB [] q:=⟨_,rfl⟩;have hst:=HST.out;rw[<-hW]at hO hst
     have hln:ln2=W.length:=by
      rcases hO.out.2 with⟨h,h0⟩|⟨g,c,cur,h,_⟩
      .cases h;omega
      .cases h;rfl
     subst hln;have bx:=hid (af b4.out le0 B2.out);have HS:=hid hst;have OX:=hid (kZ hR.out.1 bx.out);have NX:=hid (hR.out.2.below bx.out);have BX:=hid (af B.out le0 bx.out);clear hst hje hW;by_cases h0:W=[]
     .subst h0
      go_wp2;refine⟨⟨i+1,bl,rfl,by omega,hid ?_,BX⟩,by simp only[RowKit.intOf];omega⟩;have e:=HS.out;simp only[List.isEmpty_nil,cQ,n9]at e;rw[e];exact⟨OX.out,NX.out⟩
     .have hpos:0<W.length:=ai8.2 h0
      have hposz:(0:Int)<(W.length:Int):=by omega
      have H0:=hid h0
      obtain⟨g,rfl,hg,hcap⟩:∃g,ao2=some ⟨g,0,none⟩/\w4.heap.size<=g/\W.length<=cp2:=by
       rcases hO.out.2 with⟨h,h1⟩|⟨g,c,cur,h,h1,h2,h3,_⟩
       .omega
       .cases h;exact⟨g,rfl,h1,h3⟩
      have hLx:Hid ((fW bl L).length<=10000000/\True):=hid ⟨by rw[qT hR.out.2.len];have :=HLL.out.1;omega,trivial⟩;have WR:=hid (JV (A:=(g,cp2)) hO.out);have hAO:Hid ((Value.slice ao ln cp).ownBlock≠some g/\True):=hid ⟨fun ee=>(by have h1:=(hR.out.1.lt g ee).2;have h2:=b4.out.size;omega),trivial⟩;have HCAP:=hid hcap;have hz6:=BX.out.size;clear h0 hg hcap;go_wp2_with (at_builtin;refine Ma rfl _ _ rfl w1.heap.size hz6 _ (fW bl L) rfl OX.out (g,cp2) W rfl rfl hLx.out.1 ?_;intro v5 w5 ho5 hb5 hg5;have O5:=hid ho5;have N5:=hid (NX.out.push (g,cp2) W H0.out WR.out hAO.out.1 HCAP.out hg5 ho5);have B5:=hid (BX.out.trans hb5);clear ho5 hb5 hg5)
      refine⟨⟨i+1,bl++[(g,cp2)],rfl,by omega,hid ?_,B5⟩,by simp only[RowKit.intOf];omega⟩;have e:=HS.out;rw[ag (by simpa using H0.out)]at e;rw[e,CH hR.out.2.len];exact⟨O5.out,N5.out⟩
  .have hLP:L=aY P:=by rw[hL,dI (by rw[<-HP.out];omega)]
   have hln:ln=L.length:=by
    have e:=qT hR.out.2.len;rcases hR.out.1.2 with⟨h,h0⟩|⟨g,c,cur,h,_⟩
    .cases h;omega
    .cases h;exact e
   subst hln;rw[hLP]at hR ⊢;have HLP:=hid hLP;clear hL hLP;go_wp2;go_ret2;exact⟨_,_,rfl,Tg hR.out.1 HB1.out.size,hR.out.2,af HB1.out le0 B.out⟩
