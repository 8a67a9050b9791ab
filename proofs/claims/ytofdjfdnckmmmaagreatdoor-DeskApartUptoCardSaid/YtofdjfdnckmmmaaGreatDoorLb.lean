import Derived.Test.YtofdjfdnckmmmaaGreatDoorDo
import Derived.Shelf.Strings.Search3
import Derived.Test.YtofdjfdnckmmmaaGreatDoorLys
set_option linter.all false
open Go.Proofs.Tryz
namespace Go.Proofs.YtofdjfdnckmmmaaGreatDoor
open Go.Shelf Go.RowKit Go.Lib
theorem Tryz.laysIndexL:Go.Proofs.Lays.n219 prog Tryz.RN:= {
 mixed:=by kernel_rfl
 f217:=aA func77 (by kernel_rfl)
 f219:=aA func75 (by kernel_rfl)
 f224:=aA func124 (by kernel_rfl)
 f225:=aA func123 (by kernel_rfl)
 f266:=aA func126 (by kernel_rfl)
 f267:=aA func125 (by kernel_rfl)
 f314:=aA func171 (by kernel_rfl)
 t3:=underlying3
 a3:=isAgg3
 z3:=sizeOf3
 v3:=zeroValue3
 t4:=underlying4
 a4:=isAgg4
 z4:=sizeOf4
 v4:=zeroValue4
 t5:=underlying5
 a5:=isAgg5
 z5:=sizeOf5
 v5:=zeroValue5
 t9:=underlying9
 a9:=isAgg9
 z9:=sizeOf9
 v9:=zeroValue9
 t46:=underlying89
 a46:=isAgg89
 z46:=sizeOf89
 v46:=zeroValue89
 t51:=underlying102
 a51:=isAgg102
 z51:=sizeOf102
 v51:=zeroValue102
 t146:=underlying128
 a146:=isAgg128
 z146:=sizeOf128
 v146:=zeroValue128
 g1:=by kernel_rfl }
theorem Pa (a b:List UInt8) (k:Nat) (hk:k=a.length):(⟨(a++b).toArray⟩:ByteArray).extract 0 k=⟨a.toArray⟩:=by
 subst hk;apply eK;simp [ir]
theorem Tryz.laysContains:Go.Proofs.Lays.n144 prog Tryz.RN:= { Tryz.laysIndexL with
 f143:=aA func43 (by kernel_rfl)
 f144:=aA func53 (by kernel_rfl) }
theorem VG:Tryz.RN.f 144=53:=by kernel_rfl
theorem Ns (s:ByteArray) (c:UInt8) (w:World):
  Calls prog 53 #[.string s,.string ⟨#[c]⟩] w fun e w'=>e=.returned (.bool (decide (0<=Lib.indexByte s.data.toList c)))/\w'=w:=by
 have h:=Any.strings_Contains_one Tryz.laysContains s c w;rw[VG]at h;exact h
