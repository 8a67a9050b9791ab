import Derived.Test.YtofdjfdnckmmmaaGreatDoorAx
import Derived.Test.YtofdjfdnckmmmaaGreatDoorChecked
import Derived.WalkLawsBesides
import Derived.WalkSpells
import Derived.Handy
import Derived.Lib.Hide
import Derived.Shelf.Small.Bits
set_option linter.all false
set_option maxHeartbeats 4000000
set_option maxRecDepth 100000
open Go.Proofs.Tryz
namespace Go.Proofs.YtofdjfdnckmmmaaGreatDoor
open Go.RowKit
theorem xY (i:Nat) (h:i<Lib.len8tab.size):(Lib.len8tab[i].toNat:Int)=(Lib.bitLen i:Int)/\Lib.bitLen i<=8:=by
 rw[Lib.len8tab_size]at h;have h1:=Lib.len8_of (i:Int) (by omega) (by omega);have h2:=Lib.bitLen_le8' (i:Int) (by omega) (by omega);rw[gf]at h1 h2;refine⟨?_,h2⟩;rw[<-h1];unfold Lib.len8;rw[gf,getElem?_pos Lib.len8tab i (by rw[Lib.len8tab_size];exact h)];rfl
theorem QO (x:Int) (h0:0<=x) (h1:x<=4294967295) (w:World):
  Calls prog 136 #[.int .u32 x] w fun e w'=>e=.returned (.int .i64 (Lib.bitLen x.toNat))/\w'=w:=by
 have hsz:256<=Lib.len8tab.size:=by decide
 go_enter func136,ntmps136;go_wp2;all_goals (go_ret;refine⟨congrArg Ending.returned (congrArg (Value.int IntKind.i64) ?_),rfl⟩)
 .obtain⟨e1,e2⟩:=xY (x/65536/256).toNat (by omega)
  have e:(x/65536/256).toNat=x.toNat/16777216:=by omega
  have s:=Lib.bitLen_shift24 x.toNat (by omega) (by omega);simp only[e1];rw[e]at e2 ⊢;rw[IntWalk.wrap64_in (Lib.bitLen (x.toNat/16777216):Int) (by omega),IntWalk.wrap64_in _ (by omega)];omega
 .obtain⟨e1,e2⟩:=xY (x/65536).toNat (by omega)
  have e:(x/65536).toNat=x.toNat/65536:=by omega
  have s:=Lib.bitLen_shift16 x.toNat (by omega) (by omega);simp only[e1];rw[e]at e2 ⊢;rw[IntWalk.wrap64_in (Lib.bitLen (x.toNat/65536):Int) (by omega),IntWalk.wrap64_in _ (by omega)];omega
 .obtain⟨e1,e2⟩:=xY (x/256).toNat (by omega)
  have e:(x/256).toNat=x.toNat/256:=by omega
  have s:=Lib.bitLen_shift8 x.toNat (by omega) (by omega);simp only[e1];rw[e]at e2 ⊢;rw[IntWalk.wrap64_in (Lib.bitLen (x.toNat/256):Int) (by omega),IntWalk.wrap64_in _ (by omega)];omega
 .obtain⟨e1,e2⟩:=xY x.toNat (by omega)
  simp only[e1];rw[IntWalk.wrap64_in (Lib.bitLen x.toNat:Int) (by omega),IntWalk.wrap64_in _ (by omega)]
theorem K7 (x:Int) (h0:0<=x) (h1:x<=4294967295) (w:World):
  Calls prog 97 #[.int .u32 x] w fun e w'=>e=.returned (.int .i64 (32-(Lib.bitLen x.toNat:Int)))/\w'=w:=by
 have l:=Lib.bitLen_le x.toNat 32 (by omega) (by omega);go_enter func97,ntmps97;go_wp2_with (go_at_call 136;refine(QO x h0 h1 _).mono ?_;rintro e w' ⟨rfl,rfl⟩)
 go_ret;exact⟨rfl,rfl⟩
