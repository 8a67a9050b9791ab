import Derived.Test.YtofdjfdnckmmmaaGreatDoorLb
import Derived.Shelf.Strings.Trim
import Derived.Shelf.Small.Strs
import Derived.Shelf.Strings.Prefix
set_option linter.all false
open Go.Proofs.Tryz
namespace Go.Proofs.YtofdjfdnckmmmaaGreatDoor
open Go.Shelf Go.RowKit Go.Lib
theorem Tryz.laysIndexByteS:Go.Proofs.Lays.n137 prog Tryz.RN:= { Tryz.laysIndexL with
 f137:=aA func47 (by kernel_rfl) }
theorem Yo:Tryz.RN.f 137=47:=by kernel_rfl
theorem Az (s:ByteArray) (c:Int) (w:World):
  Calls prog 47 #[.string s,.int .u8 c] w fun e w'=>e=.returned (.int .i64 (Lib.indexByte s.data.toList c.toNat.toUInt8))/\w'=w:=by
 have h:=Any.strings_IndexByte Tryz.laysIndexByteS s c w;rw[Yo]at h;exact h
theorem Tryz.laysTrimSuffix:Go.Proofs.Lays.n102 prog Tryz.RN:= { Tryz.laysIndexL with
 f102:=aA func130 (by kernel_rfl)
 f207:=aA func44 (by kernel_rfl)
 f209:=aA func173 (by kernel_rfl) }
theorem Uu:Tryz.RN.f 102=130:=by kernel_rfl
theorem Pc (s p:ByteArray) (w:World) (hs:s.size<=1000000):
  Calls prog 130 #[.string s,.string p] w fun e w'=>e=.returned (.string ⟨(Lib.trimSuffix s.data.toList p.data.toList).toArray⟩)/\w'=w:=by
 have h:=Any.strings_TrimSuffix Tryz.laysTrimSuffix s p w (by omega);rw[Uu]at h;exact h
theorem Tryz.laysTrimRightW:Go.Proofs.Lays.n162 prog Tryz.RN:= { Tryz.laysIndexL with
 f119:=aA func221 (by kernel_rfl)
 f120:=aA func239 (by kernel_rfl)
 f137:=aA func47 (by kernel_rfl)
 f151:=aA func135 (by kernel_rfl)
 f152:=aA func182 (by kernel_rfl)
 f162:=aA func131 (by kernel_rfl)
 f197:=aA func110 (by kernel_rfl)
 f227:=aA func94 (by kernel_rfl)
 f228:=aA func134 (by kernel_rfl)
 f232:=aA func174 (by kernel_rfl)
 f234:=aA func175 (by kernel_rfl)
 f236:=aA func176 (by kernel_rfl)
 f260:=aA func143 (by kernel_rfl)
 f271:=aA func218 (by kernel_rfl)
 t0:=underlying0
 a0:=isAgg0
 z0:=sizeOf0
 v0:=zeroValue0
 t21:=underlying21
 a21:=isAgg21
 z21:=sizeOf21
 v21:=zeroValue21
 t105:=underlying151
 a105:=isAgg151
 z105:=sizeOf151
 v105:=zeroValue151
 t116:=underlying134
 a116:=isAgg134
 z116:=sizeOf134
 t117:=underlying135
 a117:=isAgg135
 z117:=sizeOf135
 v117:=zeroValue135
 t119:=underlying198
 a119:=isAgg198
 z119:=sizeOf198
 t124:=underlying138
 a124:=isAgg138
 z124:=sizeOf138
 v124:=zeroValue138
 t138:=underlying200
 a138:=isAgg200
 z138:=sizeOf200
 v138:=zeroValue200
 t139:=underlying201
 a139:=isAgg201
 z139:=sizeOf201
 v139:=zeroValue201
 g3:=by kernel_rfl
 g4:=by kernel_rfl }
theorem ag9:Tryz.RN.f 162=131:=by kernel_rfl
theorem Zw (S:ByteArray) (hl:S.size<=1000000) (w:World):
  Calls prog 131 #[.string S,.string ⟨#[48]⟩] w fun e w'=>e=.returned (.string ⟨(Lib.trimRightB S.data.toList 48).toArray⟩)/\w'=w:=by
 have h:=Any.strings_TrimRight_one Tryz.laysTrimRightW S 48 (by decide) w (by omega);rw[ag9]at h;exact h
