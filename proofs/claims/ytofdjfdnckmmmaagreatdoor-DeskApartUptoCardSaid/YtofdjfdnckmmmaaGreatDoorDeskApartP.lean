import Derived.Test.YtofdjfdnckmmmaaGreatDoorCards
import Derived.Test.YtofdjfdnckmmmaaGreatDoorTie
import Derived.Test.YtofdjfdnckmmmaaGreatDoorIv
import Derived.Test.YtofdjfdnckmmmaaGreatDoorDeskApartW
set_option linter.all false
set_option maxHeartbeats 4000000
set_option maxRecDepth 100000
open Go.Proofs.Tryz
namespace Go.Proofs.YtofdjfdnckmmmaaGreatDoor.deskApart
open Go.ChangeShapes Go.WideShapes Go.ChangeAt Go.RowKit
theorem contract (H:Type) (enc:TypeId × Value->H) (W:World) (base:Nat) (args:Array Value) (ds gs:List (DataW H)) (before:List MemPlace)
  (hval0:∀(j:Nat) t v,Tryz.f6.params[j]?=some t->args[j]?=some v->Value.okWide prog W .any base t v)
  (hW:DataW.Whole enc prog Tryz.f6.params.toList Rows.deskApartSpec.vars false W args.toList ds gs before) (hk:Rows.uptoSmall H (ds++gs)=true) (hL:laidMetH prog Rows.deskApartUptoRow.laid W) (hsh:W.ShapedOpen prog):
  Calls prog 6 args W fun e W'=>∃v,e=.returned v/\Rows.deskApartSpec.post enc prog Tryz.f6 false true false false W args v W':=by
 have hD:=BL (l:=Rows.deskApartUptoRow.laid) rfl hL hsh;have hval:∀(j:Nat) t v,Tryz.f6.params[j]?=some t->args[j]?=some v->Value.okWide prog W .any base t v:=hval0;have hW':=hW;obtain⟨p,q,hA0,hV,rfl,hfz,hnd⟩:=hW;have hA:DataW.TrodAll enc prog W 0 (fun _=>true) true Tryz.f6.params.toList args.toList ds p:=hA0;rw[params6]at hA hval;obtain⟨v0,vs0,d0,ds0,p0,q0,hargs,rfl,rfl,h0,r0⟩:=trodAll_cons hA;obtain⟨v1,vs1,d1,ds1,p1,q1,rfl,rfl,rfl,h1,r1⟩:=trodAll_cons r0;obtain⟨rfl,rfl,rfl⟩:=trodAll_nil r1;obtain rfl:args= #[v0,v1]:=by cases args;simp_all
 obtain⟨rfl,rfl⟩:=trodVars_none hV;have k0:=h0;have lt0:∀x∈p0,x.block<W.heap.size:=by obtain⟨m,hm⟩:=k0;exact DataW.trod_lt m _ _ _ hm
 obtain⟨s0,rfl,rfl,rfl,w0⟩:=Go.ChangeMaps.open_string underlying9 (hval 0 9 v0 rfl rfl) h0;have k1:=h1;have lt1:∀x∈p1,x.block<W.heap.size:=by obtain⟨m,hm⟩:=k1;exact DataW.trod_lt m _ _ _ hm
 obtain⟨s1,rfl,rfl,rfl,w1⟩:=Go.ChangeMaps.open_string underlying9 (hval 1 9 v1 rfl rfl) h1;clear hA0 hval0;have hb:=gY hk;simp only[Rows.uptoBulkAll,Rows.uptoBulk,i',ku]at hb;have hs0:=Lib.size_eq s0;have hs1:=Lib.size_eq s1;refine(ae9 s0 s1 (by omega) (by omega) W hD).mono fun e W' ⟨he,bel⟩=>?_
 subst he;exact⟨_,rfl,_,_,_,[],_,[],hW',trodAll_mk1 (shut_bool underlying4 _),(trodAll_cons_mk (Below.trod laidOuts (by kernel_rfl) (gY (by kernel_rfl)) k0 bel lt0) (trodAll_cons_mk (Below.trod laidOuts (by kernel_rfl) (gY (by kernel_rfl)) k1 bel lt1) trodAll_mk0)),rfl,bel.frame _,fun h=>by cases h⟩
theorem laid_met (os:Os):laidMet prog Rows.deskApartUptoRow.laid ((pf os).forCall (fun _ _=> 0) ⟨#[],#[.string ⟨#[]⟩,.string ⟨#[]⟩],[]⟩).memory:=
 laidMet_of_run' 8 (by kernel_rfl) (by kernel_rfl)
theorem reads (os:Os) {H:Type}(enc:TypeId × Value->H):∃places,DataW.whole enc prog ((pf os).forCall (fun _ _=> 0) ⟨#[],#[.string ⟨#[]⟩,.string ⟨#[]⟩],[]⟩).memory Tryz.f6.params.toList Rows.deskApartSpec.vars false (#[.string ⟨#[]⟩,.string ⟨#[]⟩]:Array Value).toList 8=some ([.lit (.string []),.lit (.string [])],[],places):=
 ⟨[],by kernel_rfl⟩
theorem lifted (os:Os) (started:os.Started) (H:Type) (enc:TypeId × Value->H) (F:Stop.Interp):
  ReturnsInHanded {} Tryz.checked os 6 .any ((Rows.OpenSpec.upto Rows.deskApartSpec).preRow enc prog Tryz.f6 Rows.deskApartUptoRow.domain false Rows.deskApartUptoRow.laid) (((Rows.OpenSpec.upto Rows.deskApartSpec).at F).post enc prog Tryz.f6 false true false false):=by
 obtain⟨places,hx⟩:=reads os enc
 refine returnsInHanded_of_row (C:=Tryz.checked) (s:=Rows.OpenSpec.upto Rows.deskApartSpec) (show ownKnob prog.godebug=none by kernel_rfl) started (by kernel_rfl) func6
  (witness_row_at (enc:=enc) (C:=Tryz.checked) false (pf os) #[.string ⟨#[]⟩,.string ⟨#[]⟩] rfl (by kernel_rfl) (by kernel_rfl) (by kernel_rfl)
   (OpenSpec.preRow_of_cond 8 hx (by kernel_rfl) (fun k hk=>by cases hk;kernel_rfl) (by kernel_rfl) (laid_met os))) ?_
 intro W base args ds gs before hval hW _ hcond _ hL hsh _;exact contract H enc W base args ds gs before hval hW (hcond _ rfl) hL hsh
theorem closed:joinedFacts prog 6 Tryz.f6 (Rows.OpenSpec.upto Rows.deskApartSpec).bare Rows.deskApartUptoRow=true:=by
 unfold joinedFacts;rw[enter,finals,made,laidOuts,mapsRows,plainKeysB,heard]
 kernel_rfl
theorem said:Rows.DeskApartUptoSaid:=
 OpenClaim.holds_of_cond 6 Tryz.f6 rfl rfl rfl rfl rfl rfl rfl ⟨rfl,rfl,rfl,rfl,rfl⟩ rfl rfl rfl rfl rfl (by kernel_rfl) func6 closed
  (gY (by kernel_rfl)) (by unfold Func.isWrapper;first|(rw[aj (by decide+kernel)];kernel_rfl)|(rw[ag (by decide+kernel)];exact⟨rfl,rfl⟩))
  (fun os started H enc _ F=>by rw[OpenClaim.pre_eq_preRow];exact lifted os started H enc F)
theorem plain (f:FuncId) (fn:Func) (hf:Tryz.pinned.checked.prog.funcNamed "ulpwright/ulpkeep.DeskApart" =some f) (hfn:Tryz.pinned.checked.prog.funcs[f]?=some fn):
  true=Tryz.pinned.checked.prog.looks []/\∀(j:Nat) t,fn.params[j]?=some t->Tryz.pinned.checked.prog.wantsStandIn t=false:=by
 obtain rfl:f=6:=od ((show prog.funcNamed "ulpwright/ulpkeep.DeskApart" =some 6 by kernel_rfl).symm.trans hf) |>.symm
 obtain rfl:fn=Tryz.f6:=(od (func6.symm.trans hfn)).symm;refine⟨by kernel_rfl,fun j t ht=>?_⟩;rw[params6]at ht;have hm:=OH ht;simp at hm;rcases hm with rfl
 all_goals (show prog.wantsStandIn _=false;kernel_rfl)
theorem provedCard:Rows.DeskApartUptoCardSaid:=
 Claim7.holds_tied_plain_at .later [] _ _ _ _ said (fun _ h=>by cases h) (by kernel_rfl) (fun _ h=>by cases h) deskApartUpto_row_tie rfl ⟨rfl,rfl⟩ (by kernel_rfl) rfl plain (by kernel_rfl)
