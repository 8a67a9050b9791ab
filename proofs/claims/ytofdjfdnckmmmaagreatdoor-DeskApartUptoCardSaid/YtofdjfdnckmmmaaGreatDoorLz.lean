import Derived.Test.YtofdjfdnckmmmaaGreatDoorLb
import Derived.Test.YtofdjfdnckmmmaaGreatDoorDa
import Derived.Shelf.Strings.Replace
import Derived.Shelf.Strings.SlTrimAscii
set_option linter.all false
open Go.Proofs.Tryz
namespace Go.Proofs.YtofdjfdnckmmmaaGreatDoor
open Go.Shelf Go.RowKit Go.Lib
theorem Tryz.laysIndexM:Go.Proofs.LaysM.n143 prog Tryz.RN:= { Tryz.laysContains,Tryz.laysItoa with
 i146:=by kernel_rfl
 m1:=by kernel_rfl
 s1_3:=fun w h=>Go.Proofs.cell_of_shapedOpen_int (zero:= #[.int .i64 0]) (t:=3) h (gY (by kernel_rfl)) (by kernel_rfl) rfl (by kernel_rfl) (by kernel_rfl) underlying3 }
def ot (w:World):Prop:= ∃m:Int,w.cell? ⟨0,0,none⟩=some (.int .i64 m)
theorem ag3:Tryz.RN.g 1=0:=by kernel_rfl
theorem Um {w:World}(h:w.ShapedOpen prog):ot w:=by
 have :=Tryz.laysIndexM.s1_3 w h;rw[ag3]at this;exact this
theorem ot.below {w w':World}(h:ot w) (hb:Below w.heap.size w w'):ot w':=by
 obtain⟨m,hm⟩:=h;exact⟨m,(hb.cell (p:=⟨0,0,none⟩) (World.block_lt_of_cell? w ⟨0,0,none⟩ hm)).trans hm⟩
theorem Tryz.laysReplace:Go.Proofs.Lays.n154 prog Tryz.RN:= { Tryz.laysRepeat,Tryz.laysContains with
 f138:=aA func18 (by kernel_rfl)
 f154:=aA func68 (by kernel_rfl)
 f195:=aA func41 (by kernel_rfl)
 f197:=aA func110 (by kernel_rfl)
 f218:=aA func42 (by kernel_rfl)
 f260:=aA func143 (by kernel_rfl)
 t21:=underlying21
 a21:=isAgg21
 z21:=sizeOf21
 v21:=zeroValue21
 t105:=underlying151
 a105:=isAgg151
 z105:=sizeOf151
 v105:=zeroValue151
 t119:=underlying198
 a119:=isAgg198
 z119:=sizeOf198
 t138:=underlying200
 a138:=isAgg200
 z138:=sizeOf200
 v138:=zeroValue200
 t139:=underlying201
 a139:=isAgg201
 z139:=sizeOf201
 v139:=zeroValue201
 g3:=by kernel_rfl
 g4:=by kernel_rfl }
theorem Tryz.laysTrim:Go.Proofs.Lays.n160 prog Tryz.RN:= { Tryz.laysReplace with
 f119:=aA func221 (by kernel_rfl)
 f120:=aA func239 (by kernel_rfl)
 f137:=aA func47 (by kernel_rfl)
 f151:=aA func135 (by kernel_rfl)
 f152:=aA func182 (by kernel_rfl)
 f160:=aA func169 (by kernel_rfl)
 f227:=aA func94 (by kernel_rfl)
 f228:=aA func134 (by kernel_rfl)
 f231:=aA func93 (by kernel_rfl)
 f232:=aA func174 (by kernel_rfl)
 f233:=aA func95 (by kernel_rfl)
 f234:=aA func175 (by kernel_rfl)
 f235:=aA func96 (by kernel_rfl)
 f236:=aA func176 (by kernel_rfl)
 f271:=aA func218 (by kernel_rfl)
 t116:=underlying134
 a116:=isAgg134
 z116:=sizeOf134
 t117:=underlying135
 a117:=isAgg135
 z117:=sizeOf135
 v117:=zeroValue135
 t124:=underlying138
 a124:=isAgg138
 z124:=sizeOf138
 v124:=zeroValue138 }
theorem Ul:Tryz.RN.f 160=169:=by kernel_rfl
theorem Di (s:ByteArray) (cs:List UInt8) (hcs:cs.all (fun b=>decide (b.toNat<128))=true) (hl:cs.length<=1000) (w:World) (hs:s.size<=1000000000):
  Calls prog 169 #[.string s,.string ⟨cs.toArray⟩] w fun e w'=>e=.returned (.string ⟨(Lib.trimS s.data.toList cs).toArray⟩)/\Below w.heap.size w w':=by
 have h:=Any.strings_Trim_laid Tryz.laysTrim (by kernel_rfl) s ⟨cs.toArray⟩ w (by omega) (by show cs.toArray.size<_;simp;omega) (by
  intro j b hj;exact gY (n_.1 hcs b (qI hj)))
 rw[Ul]at h;exact h
