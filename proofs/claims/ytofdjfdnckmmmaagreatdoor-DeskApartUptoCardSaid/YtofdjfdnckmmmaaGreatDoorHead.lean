import Derived.Test.YtofdjfdnckmmmaaGreatDoorAx
import Derived.Test.YtofdjfdnckmmmaaGreatDoorRows
import Derived.WalkKit
import Derived.JoinedCond
set_option linter.all false
set_option maxRecDepth 100000
open Go.Proofs.Tryz
namespace Go.Proofs.YtofdjfdnckmmmaaGreatDoor
open Go
theorem CN (a r:List Char) (h:a.all (· !=Char.ofNat 32)=true):wordsSigns (a++Char.ofNat 32::r)=a::wordsSigns r:=by
 induction a with
 |nil=>rfl
 |cons c a ih=>
  simp only[pq,lT]at h;have hc:c≠Char.ofNat 32:=by have :=h.1;simpa using this
  rw[i',wordsSigns,ih h.2];exact hc
theorem ac2 {os:List String}{w:List Char}{ws:List (List Char)}(h:os.all (fun o=> !(w==o.toList))=true):stripLifts os (w::ws)=([],w::ws):=by
 induction os with
 |nil=>rfl
 |cons o os ih=>
  simp only[pq,lT]at h;rw[stripLifts,ag (by have :=h.1;simpa using this),ih h.2]
def rj (P:Program):Prop:= ∃s rest,wordsSigns P.initOrder.toList= "harness".toList::s:: "cut".toList::rest/\isSumSigns s=true
theorem TY {P:Program}(l:List Char) (hl:P.initOrder=String.ofList l) (h1:l.take 8= "harness".toList++[Char.ofNat 32]) (h2:isSumSigns ((l.drop 8).take 64)=true)
  (h2':((l.drop 8).take 64).all (· !=Char.ofNat 32)=true) (h3:(l.drop 72).take 5=Char.ofNat 32:: "cut".toList++[Char.ofNat 32]):rj P:=by
 refine⟨(l.drop 8).take 64,wordsSigns (l.drop 77),?_,h2⟩
 have e:l= "harness".toList++Char.ofNat 32::((l.drop 8).take 64++Char.ofNat 32::("cut".toList++Char.ofNat 32::l.drop 77)):=by
  have e1:=(nX 8 l).symm;have e2:=(nX 64 (l.drop 8)).symm;have e3:=(nX 5 ((l.drop 8).drop 64)).symm;rw[qE,qE]at e3;rw[qE]at e2
  have e4:l.drop (8+64)=Char.ofNat 32::("cut".toList++Char.ofNat 32::l.drop 77):=by
   rw[e3,show(8+64)=72 from rfl,h3];simp
  rw[e4]at e2;rw[h1,e2]at e1
  simpa using e1
 rw[hl,String.toList_ofList]
 conv=>lhs;rw[e]
 rw[CN _ _ (by decide),CN _ _ h2',CN _ _ (by decide)]
theorem ym {P:Program}(h:rj P):∃rest,behindMainWord (wordsSigns P.initOrder.toList)= "cut".toList::rest:=by
 obtain⟨s,rest,h1,h2⟩:=h;refine⟨rest,?_⟩;rw[h1,behindMainWord,h2];simp
theorem GK (rest:List (List Char)):stripLifts liftWords ("cut".toList::rest)=([],"cut".toList::rest):=ac2 (by decide+kernel)
theorem Sx {P:Program}(h:rj P):P.headLifts=[]:=by
 obtain⟨rest,h⟩:=ym h;unfold Program.headLifts;rw[h,GK];rfl
theorem XO {P:Program}(h:rj P):P.liftsFinal=false:=by
 have hl:=Sx h;obtain⟨rest,h⟩:=ym h;unfold Program.liftsFinal;rw[h,hl];rfl
theorem XH {P:Program}(h:rj P):P.make=some .cut:=by
 obtain⟨rest,h⟩:=ym h;unfold Program.make;rw[h];rfl
theorem WO {P:Program}(h:rj P) (h1:P.laysLater=false) (h2:P.bearsReflect=false) (h3:P.doorFits []=true):P.mayEnter=true:=by
 obtain⟨rest,h⟩:=ym h;unfold Program.mayEnter;rw[h];simp only[GK,h1,h2,h3];rfl
theorem head:rj prog:=TY _ rfl (by kernel_rfl) (by kernel_rfl) (by kernel_rfl) (by kernel_rfl)
theorem enter:prog.mayEnter=true:=WO head (by kernel_rfl) (by kernel_rfl) (by kernel_rfl)
theorem finals:prog.liftsFinal=false:=XO head
theorem made:prog.make=some .cut:=XH head
theorem laidOuts:laidOutB prog=true:=by kernel_rfl
theorem mapsRows:mapsRowed prog=true:=by kernel_rfl
theorem plainKeysB:prog.plainKeys=true:=by kernel_rfl
theorem heard:prog.stopsHeard=true:=by kernel_rfl
