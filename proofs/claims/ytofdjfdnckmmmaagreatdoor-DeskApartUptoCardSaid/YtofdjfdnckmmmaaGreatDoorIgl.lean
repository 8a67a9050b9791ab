import Derived.Test.YtofdjfdnckmmmaaGreatDoorIbd
import Derived.Test.YtofdjfdnckmmmaaGreatDoorPri
import Derived.Test.YtofdjfdnckmmmaaGreatDoorWq
set_option linter.all false
set_option maxHeartbeats 16000000
set_option maxRecDepth 100000
open Go.Proofs.Tryz
open Go.Lib (hid)
namespace Go.Proofs.YtofdjfdnckmmmaaGreatDoor
open Go.Shelf Go.RowKit Go.Lib Nt Fm Fl
theorem Xb {x mode:Int}(u0:0<=x) (u1:x<=18446744073709551615):0<=jf x mode/\jf x mode<=18446744073709551615:=by
 unfold jf;split
 .rename_i hk
  split
  .omega
  .split
   .omega
   .split
    .omega
    .split
     .omega
     .rename_i h5 h1 h2 h3
      have f0:fk x:=qi u0 u1 h5 h1 (fun h4=>by rcases qs u0 u1 h4 with h|h <;> contradiction);have :=(vG (FE f0 mode)).bd;omega
 .omega
theorem Qe {x mode:Int}(u0:0<=x) (u1:x<=18446744073709551615):0<=jh x mode/\jh x mode<=18446744073709551615:=by
 unfold jh;split
 .rename_i hk
  split
  .omega
  .split
   .omega
   .split
    .omega
    .split
     .omega
     .rename_i h5 h1 h2 h3
      have f0:fk x:=qi u0 u1 h5 h1 (fun h4=>by rcases qs u0 u1 h4 with h|h <;> contradiction);have :=(vG (Yp f0 mode)).bd;omega
 .omega
theorem Tw {x mode:Int}(u0:0<=x) (u1:x<=18446744073709551615):0<=ji x mode/\ji x mode<=18446744073709551615:=by
 unfold ji;split
 .rename_i hk
  split
  .omega
  .split
   .omega
   .split
    .omega
    .split
     .omega
     .rename_i h1 h5 h2 h3
      have f0:fk x:=qi u0 u1 (fun h=>h5 (Or.inl h)) h1 (fun h4=>by rcases qs u0 u1 h4 with h|h <;> omega);have :=(vG (aa8 f0 (L5 f0 (by omega)) (fun e=>h3 (JB f0 e (by omega))) mode)).bd;omega
 .omega
theorem Zj {x mode:Int}(u0:0<=x) (u1:x<=18446744073709551615):0<=km x mode/\km x mode<=18446744073709551615:=by
 unfold km;split
 .rename_i hk
  split
  .omega
  .split
   .omega
   .split
    .omega
    .rename_i h5 h2 h1
     have f0:fk x:=qi u0 u1 (fun h=>h5 (Or.inl h)) (fun h=>h1 (Or.inl h)) (fun h4=>by rcases qs u0 u1 h4 with h|h <;> omega);have :=(vG (Vs f0 (FW f0 (by omega)) mode)).bd;omega
 .omega
theorem KT (l:List Int) (h:∀x∈l,0<=x/\x<=18446744073709551615) (mode:Int):0<=eZ l mode/\eZ l mode<=18446744073709551615:=by
 have hi:=wN l h l.length le0;rw[lX]at hi;unfold eZ;split;·omega
 split;·omega
 split
 .have :=nB (kd (dJ l).s.neg mode) (dJ l).s.m (dJ l).s.e
  have hMR:MR=9218868437227405312:=rfl;unfold aE;split <;> omega
 split;·omega
 split;·omega
 split <;> omega
theorem Zy {x:Int}(mode:Int) (x0:0<=x) (x1:x<=18446744073709551615):0<=nL x mode/\nL x mode<=18446744073709551615:=by
 have :=gV (aE (eG (ai x) 0 mode) 0);have :=ri x 0;unfold nL;split;·omega
 split <;> omega
theorem TV {x:Int}(mode:Int) (x0:0<=x) (x1:x<=18446744073709551615):0<=qf x mode/\qf x mode<=18446744073709551615:=by
 have :=Zy mode x0 x1;unfold qf;split <;> omega
theorem FJ {x y mode:Int}(x0:0<=x) (x1:x<=18446744073709551615) (y0:0<=y) (y1:y<=18446744073709551615):0<=kL x y mode/\kL x y mode<=18446744073709551615:=by
 unfold kL;split
 .exact KT _ (by simp;omega) _
 .omega
theorem jZ (m:Int):0<=dv m/\dv m<=1000:=by unfold dv;split <;> omega
theorem qx (m:Int):0<=dT m/\dT m<=1000:=by unfold dT;split <;> omega
def U6 (x:Int):Prop:=0<=x/\x<=18446744073709551615
def pS (nm:ByteArray):Prop:= ∀(x m:Int),U6 x-> -9223372036854775808<=m->m<=9223372036854775807->∃o,jO o/\∀(g cap:Nat) (w:World),Dk w->w.cell? ⟨g,0,none⟩=some (.int .u64 x)->Calls prog 114 #[.string nm,.slice (some ⟨g,0,none⟩) 1 cap,.int .i64 m] w (bG w o)
def sO (nm:ByteArray):Prop:= ∀(x y m:Int),U6 x->U6 y->∃o,jO o/\∀(g cap:Nat) (w:World),Dk w->w.cell? ⟨g,0,none⟩=some (.int .u64 x)->w.cell? ⟨g,1,none⟩=some (.int .u64 y)->Calls prog 114 #[.string nm,.slice (some ⟨g,0,none⟩) 2 cap,.int .i64 m] w (bG w o)
def Ez (nm:ByteArray):Prop:= ∀(x y z m:Int),U6 x->U6 y->U6 z->∃o,jO o/\∀(g cap:Nat) (w:World),Dk w->w.cell? ⟨g,0,none⟩=some (.int .u64 x)->w.cell? ⟨g,1,none⟩=some (.int .u64 y)->w.cell? ⟨g,2,none⟩=some (.int .u64 z)->Calls prog 114 #[.string nm,.slice (some ⟨g,0,none⟩) 3 cap,.int .i64 m] w (bG w o)
theorem XB:sO ⟨#[97,100,100]⟩:=by
 intro x y m hx hy;have hb:=FJ hx.1 hx.2 hy.1 hy.2 (mode:=m);obtain⟨o,ho,hF⟩:=lj _ _ _ hb.1 hb.2 (jZ m).1 (jZ m).2;exact⟨o,ho,fun g cap w hD c0 c1=>vJ _ _ (Or.inl ⟨rfl,rfl⟩) g cap x y m _ _ _ o w hD (fun w h=>sY x y m hx.1 hx.2 hy.1 hy.2 w h.t32) hF c0 c1⟩
theorem Zo:sO ⟨#[115,117,98]⟩:=by
 intro x y m hx hy;have hb:=FJ hx.1 hx.2 (CO hy.1 hy.2).1 (CO hy.1 hy.2).2 (mode:=m);obtain⟨o,ho,hF⟩:=lj _ _ _ hb.1 hb.2 (jZ m).1 (jZ m).2;exact⟨o,ho,fun g cap w hD c0 c1=>vJ _ _ (Or.inr (Or.inl ⟨rfl,rfl⟩)) g cap x y m _ _ _ o w hD (fun w h=>Zx x y m hx.1 hx.2 hy.1 hy.2 w h.t32) hF c0 c1⟩
theorem ZT:sO ⟨#[109,117,108]⟩:=by
 intro x y m hx hy;have hb:=QY x y m;obtain⟨o,ho,hF⟩:=lj _ _ _ hb.1 hb.2 (jZ m).1 (jZ m).2;exact⟨o,ho,fun g cap w hD c0 c1=>vJ _ _ (Or.inr (Or.inr (Or.inl ⟨rfl,rfl⟩))) g cap x y m _ _ _ o w hD (fun w h=>Tl x y m hx.1 hx.2 hy.1 hy.2 w h.t32) hF c0 c1⟩
theorem Yh:sO ⟨#[100,105,118]⟩:=by
 intro x y m hx hy;have hb:=S5 x y m;obtain⟨o,ho,hF⟩:=lj _ _ _ hb.1 hb.2 (jZ m).1 (jZ m).2;exact⟨o,ho,fun g cap w hD c0 c1=>vJ _ _ (Or.inr (Or.inr (Or.inr (⟨rfl,rfl⟩)))) g cap x y m _ _ _ o w hD (fun w h=>Wz x y m hx.1 hx.2 hy.1 hy.2 w h.t32) hF c0 c1⟩
theorem QU:Ez ⟨#[102,109,97]⟩:=by
 intro x y z m hx hy hz;have hb:=UG x y z m hz.1 hz.2;obtain⟨o,ho,hF⟩:=lj _ _ _ hb.1 hb.2 (jZ m).1 (jZ m).2;exact⟨o,ho,fun g cap w hD c0 c1 c2=>ZQ _ _ ⟨rfl,rfl⟩ g cap x y z m _ _ _ o w hD (fun w h=>PD x y z m hx.1 hx.2 hy.1 hy.2 hz.1 hz.2 w h.t32) hF c0 c1 c2⟩
theorem Tc:pS ⟨#[115,113,114,116]⟩:=by
 intro x m hx m0 m1;have hb:=Xc x m hx.1 hx.2;obtain⟨o,ho,hF⟩:=lj _ _ _ hb.1 hb.2 (jZ m).1 (jZ m).2;exact⟨o,ho,fun g cap w hD c0=>tG _ _ (Or.inl ⟨rfl,rfl⟩) g cap x m _ _ _ o w hD (fun w h=>Ps x m hx.1 hx.2 w h.t32) hF c0⟩
theorem af2:pS ⟨#[101,120,112]⟩:=by
 intro x m hx m0 m1;have hb:=Xb (mode:=m) hx.1 hx.2;obtain⟨o,ho,hF⟩:=lj _ _ _ hb.1 hb.2 (qx m).1 (qx m).2;exact⟨o,ho,fun g cap w hD c0=>tG _ _ (Or.inr (Or.inl ⟨rfl,rfl⟩)) g cap x m _ _ _ o w hD (fun w h=>Ue x m w h.t32 hx.1 hx.2 m0 m1) hF c0⟩
theorem Xy:pS ⟨#[101,120,112,109,49]⟩:=by
 intro x m hx m0 m1;have hb:=Qe (mode:=m) hx.1 hx.2;obtain⟨o,ho,hF⟩:=lj _ _ _ hb.1 hb.2 (qx m).1 (qx m).2;exact⟨o,ho,fun g cap w hD c0=>tG _ _ (Or.inr (Or.inr (Or.inl ⟨rfl,rfl⟩))) g cap x m _ _ _ o w hD (fun w h=>Yg x m w h.t32 hx.1 hx.2 m0 m1) hF c0⟩
theorem TG:pS ⟨#[108,111,103]⟩:=by
 intro x m hx m0 m1;have hb:=Tw (mode:=m) hx.1 hx.2;obtain⟨o,ho,hF⟩:=lj _ _ _ hb.1 hb.2 (qx m).1 (qx m).2;exact⟨o,ho,fun g cap w hD c0=>tG _ _ (Or.inr (Or.inr (Or.inr (Or.inl ⟨rfl,rfl⟩)))) g cap x m _ _ _ o w hD (fun w h=>Th x m w h.t32 hx.1 hx.2 m0 m1) hF c0⟩
theorem Q8:pS ⟨#[108,111,103,49,112]⟩:=by
 intro x m hx m0 m1;have hb:=Zj (mode:=m) hx.1 hx.2;obtain⟨o,ho,hF⟩:=lj _ _ _ hb.1 hb.2 (qx m).1 (qx m).2;exact⟨o,ho,fun g cap w hD c0=>tG _ _ (Or.inr (Or.inr (Or.inr (Or.inr (Or.inl ⟨rfl,rfl⟩))))) g cap x m _ _ _ o w hD (fun w h=>YY x m w h.t32 hx.1 hx.2 m0 m1) hF c0⟩
theorem Pq:pS ⟨#[114,111,117,110,100]⟩:=by
 intro x m hx m0 m1;have hb:=TV m hx.1 hx.2;obtain⟨o,ho,hF⟩:=lj _ _ _ hb.1 hb.2 (jZ m).1 (jZ m).2;exact⟨o,ho,fun g cap w hD c0=>tG _ _ (Or.inr (Or.inr (Or.inr (Or.inr (Or.inr (⟨rfl,rfl⟩)))))) g cap x m _ _ _ o w hD (fun w h=>Uw x m hx.1 hx.2 m0 m1 w h.t32) hF c0⟩
def VW (s:List UInt8) (o:Oc):Prop:=((∃x,o=.ret (.int .u64 x)/\U6 x)\/o=.pan 5)/\∀(S:ByteArray) (w:World),S=⟨s.toArray⟩->Dk w->Calls prog 122 #[.string S] w (bG w o)
theorem IL (s:List UInt8) (hl:s.length<=100000):∃o,VW s o:=by
 rcases Gx s hl with⟨x,hx⟩|h
 .exact⟨.ret (.int .u64 x),Or.inl ⟨x,rfl,hx.1⟩,fun S w hS hD=>hx.2 S w hS hD⟩
 .exact⟨.pan 5,Or.inr rfl,fun S w hS hD=>h S w hS hD.q⟩
def mB (w:World) (g:Nat) (xs:List Int):Prop:= ∀(j:Nat) x,xs[j]?=some x->w.cell? ⟨g,j,none⟩=some (.int .u64 x)
def Xz (l:List (List UInt8)):Option (List Int)->Prop
 |some vs=>vs.length=l.length/\(∀x∈vs,U6 x)/\∀(A off cap:Nat) (w:World),Dk w->A<w.heap.size->(∀(j:Nat) s,l[j]?=some s->w.cell? ⟨A,off+j,none⟩=some (dL s))->
   Calls prog 115 #[.slice (some ⟨A,off,none⟩) l.length cap] w fun e w'=>∃v,e=.returned v/\w'.ownsRow w.heap.size 24 1 v vs.length (kh vs)/\Below w.heap.size w w'
 |none=>∀(A off cap:Nat) (w:World),Dk w->A<w.heap.size->(∀(j:Nat) s,l[j]?=some s->w.cell? ⟨A,off+j,none⟩=some (dL s))->
   Calls prog 115 #[.slice (some ⟨A,off,none⟩) l.length cap] w (bG w (.pan 5))
theorem Cc (l:List (List UInt8)) (hl:∀s∈l,s.length<=100000) (hn:l.length<=100000):∃o,Xz l o:=by
 rcases Xp l hl with⟨vs,h1,h2⟩|⟨vs,h1,h2,h3⟩
 .refine⟨some vs,h1,fun x hx=>?_,fun A off cap w hD hA hW=>Jg A off cap l vs h1 hn h2 w hD hA hW⟩
  obtain⟨j,hj⟩:=Oq.1 hx;have hjl:j<l.length:=by rw[<-h1];exact(iH.1 hj).1
  exact(h2 j _ x (fO hjl) hj).1
 .exact⟨none,fun A off cap w hD hA hW=>VH A off cap l vs h1 hn h2 h3 w hD.q hA hW⟩
theorem Dj {w:World}{B:Nat}{v:Value}{xs:List Int}(h:w.ownsRow B 24 1 v xs.length (kh xs)) (h0:1<=xs.length):∃g cp,v=.slice (some ⟨g,0,none⟩) xs.length cp/\mB w g xs:=by
 rcases h.2 with⟨_,h1⟩|⟨g,c,cur,hv,_⟩
 .omega
 .refine⟨g,c,hv,fun j x hx=>?_⟩
  have h1:=h.cells (g:=g) (by rw[hv];rfl) j (.int .u64 x) (by simp [kh,hx]);rw[show(⟨g,0,none⟩:Addr).add j=⟨g,0+j,none⟩ from by unfold Addr.add;split <;> simp_all,jw]at h1;exact h1
theorem Dz (nm:ByteArray):∀(es:List MapEntry) (n:Nat),(∀e∈es,∃s,e.key=.string s)->Instr.findNow .string (.string nm) es n=some none\/∃e∈es,e.key=.string nm/\∃i,Instr.findNow .string (.string nm) es n=some (some (i,e.val))
 | [],n,_=>Or.inl rfl
 |e::es,n,h=>by
  obtain⟨s,hs⟩:=h e (by simp);unfold Instr.findNow;rw[hs];simp only[Instr.sameNow];cases hb:nm==s with
  |true=>
   have hd:(nm.data==s.data)=true:=by cases nm;cases s;exact hb
   obtain rfl:nm=s:=eK (dV.1 hd);exact Or.inr ⟨e,by simp,hs,n,rfl⟩
  |false=>
   rcases Dz nm es (n+1) (fun f hf=>h f (by simp [hf])) with h1|⟨f,hf,h1,h2⟩
   .exact Or.inl h1
   .exact Or.inr ⟨f,by simp [hf],h1,h2⟩
def rG (nm:ByteArray) (k:Nat):Prop:= ∀(xs:List Int) (m:Int),xs.length=k->(∀x∈xs,U6 x)->0<=m->m<=4->∃o,jO o/\∀(g cap:Nat) (w:World),Dk w->mB w g xs->Calls prog 114 #[.string nm,.slice (some ⟨g,0,none⟩) k cap,.int .i64 m] w (bG w o)
def s_ (nm:ByteArray) (k:Nat):Prop:= ∀(xs:List Int),xs.length=k->(∀x∈xs,U6 x)->∃S,Ln 200000 S/\∀(g cap:Nat) (w:World),Dk w->mB w g xs->Calls prog 117 #[.string nm,.slice (some ⟨g,0,none⟩) k cap] w fun e w'=>e=.returned (.string S)/\Below w.heap.size w w'
theorem pS.l {nm:ByteArray}(h:pS nm):rG nm 1:=by
 intro xs m hl hx m0 m1
 match xs,hl with
 | [x],_=>
  obtain⟨o,ho,hc⟩:=h x m (hx x (by simp)) (by omega) (by omega);exact⟨o,ho,fun g cap w hD h=>hc g cap w hD (h 0 x rfl)⟩
theorem sO.l {nm:ByteArray}(h:sO nm):rG nm 2:=by
 intro xs m hl hx m0 m1
 match xs,hl with
 | [x,y],_=>
  obtain⟨o,ho,hc⟩:=h x y m (hx x (by simp)) (hx y (by simp));exact⟨o,ho,fun g cap w hD h=>hc g cap w hD (h 0 x rfl) (h 1 y rfl)⟩
theorem Ez.l {nm:ByteArray}(h:Ez nm):rG nm 3:=by
 intro xs m hl hx m0 m1
 match xs,hl with
 | [x,y,z],_=>
  obtain⟨o,ho,hc⟩:=h x y z m (hx x (by simp)) (hx y (by simp)) (hx z (by simp));exact⟨o,ho,fun g cap w hD h=>hc g cap w hD (h 0 x rfl) (h 1 y rfl) (h 2 z rfl)⟩
theorem sS.l {nm:ByteArray}(h:sS nm):s_ nm 1:=by
 intro xs hl hx
 match xs,hl with
 | [x],_=>
  obtain⟨S,hS,hc⟩:=h x (hx x (by simp)).1 (hx x (by simp)).2;exact⟨S,hS,fun g cap w hD h=>hc g cap w hD (h 0 x rfl)⟩
theorem tY.l {nm:ByteArray}(h:tY nm):s_ nm 2:=by
 intro xs hl hx
 match xs,hl with
 | [x,y],_=>
  obtain⟨S,hS,hc⟩:=h x y (hx x (by simp)).1 (hx x (by simp)).2 (hx y (by simp)).1 (hx y (by simp)).2;exact⟨S,hS,fun g cap w hD h=>hc g cap w hD (h 0 x rfl) (h 1 y rfl)⟩
theorem Xx (nm:ByteArray):Instr.findNow .string (.string nm) ky.toList 0=some none\/∃(i k:Nat),(1<=k/\k<=3)/\Instr.findNow .string (.string nm) ky.toList 0=some (some (i,.int .i64 (k:Int)))/\rG nm k:=by
 rcases Dz nm ky.toList 0 (by intro e he;simp [ky]at he;rcases he with rfl|rfl|rfl|rfl|rfl|rfl|rfl|rfl|rfl|rfl|rfl <;> exact⟨_,rfl⟩) with h|⟨e,he,hk,i,h⟩
 .exact Or.inl h
 .have W:∀k:Nat,(1<=k/\k<=3)->e.val=.int .i64 (k:Int)->rG nm k->∃(i k:Nat),(1<=k/\k<=3)/\Instr.findNow .string (.string nm) ky.toList 0=some (some (i,.int .i64 (k:Int)))/\rG nm k:=fun k hk hv hr=>⟨i,k,hk,by rw[h,hv],hr⟩
  refine Or.inr ?_;clear h;simp only[ky,iI,List.not_mem_nil,or_false]at he;rcases he with rfl|rfl|rfl|rfl|rfl|rfl|rfl|rfl|rfl|rfl|rfl <;> injection hk with hk <;> subst hk
  .exact W 2 (by decide) rfl XB.l
  .exact W 2 (by decide) rfl Zo.l
  .exact W 2 (by decide) rfl ZT.l
  .exact W 2 (by decide) rfl Yh.l
  .exact W 3 (by decide) rfl QU.l
  .exact W 1 (by decide) rfl Tc.l
  .exact W 1 (by decide) rfl af2.l
  .exact W 1 (by decide) rfl Xy.l
  .exact W 1 (by decide) rfl TG.l
  .exact W 1 (by decide) rfl Q8.l
  .exact W 1 (by decide) rfl Pq.l
theorem XQ (nm:ByteArray):Instr.findNow .string (.string nm) me.toList 0=some none\/∃(i k:Nat),(1<=k/\k<=3)/\Instr.findNow .string (.string nm) me.toList 0=some (some (i,.int .i64 (k:Int)))/\s_ nm k:=by
 rcases Dz nm me.toList 0 (by intro e he;simp [me]at he;rcases he with rfl|rfl|rfl|rfl|rfl|rfl|rfl|rfl <;> exact⟨_,rfl⟩) with h|⟨e,he,hk,i,h⟩
 .exact Or.inl h
 .have W:∀k:Nat,(1<=k/\k<=3)->e.val=.int .i64 (k:Int)->s_ nm k->∃(i k:Nat),(1<=k/\k<=3)/\Instr.findNow .string (.string nm) me.toList 0=some (some (i,.int .i64 (k:Int)))/\s_ nm k:=fun k hk hv hr=>⟨i,k,hk,by rw[h,hv],hr⟩
  refine Or.inr ?_;clear h;simp only[me,iI,List.not_mem_nil,or_false]at he;rcases he with rfl|rfl|rfl|rfl|rfl|rfl|rfl|rfl <;> injection hk with hk <;> subst hk
  .exact W 2 (by decide) rfl Xe.l
  .exact W 1 (by decide) rfl Ub.l
  .exact W 1 (by decide) rfl Wq.l
  .exact W 1 (by decide) rfl TK.l
  .exact W 2 (by decide) rfl RU.l
  .exact W 2 (by decide) rfl SY.l
  .exact W 1 (by decide) rfl af5.l
  .exact W 2 (by decide) rfl Rt.l
theorem Ei (nm:ByteArray) (i k n:Nat) (hk:1<=k/\k<=3) (hf:Instr.findNow .string (.string nm) ky.toList 0=some (some (i,.int .i64 (k:Int)))) (A:Nat) (w:World) (hA:A<w.heap.size) (hc0:w.cell? ⟨A,0,none⟩=some (.string nm))
  (o:Oc) (h:(n≠k+1/\o=.pan 5)\/n=k+1/\∃M:ByteArray,w.cell? ⟨A,1+k,none⟩=some (.string M)/\((o=.pan 5/\∀w',Below w.heap.size w w'->Calls prog 115 #[.slice (some ⟨A,1,none⟩) k n] w' (bG w' (.pan 5)))\/
   ∃xs:List Int,(∀w',Below w.heap.size w w'->Calls prog 115 #[.slice (some ⟨A,1,none⟩) k n] w' fun e w2=>(∃g cp,e=.returned (.slice (some ⟨g,0,none⟩) k cp)/\mB w2 g xs)/\Below w'.heap.size w' w2)/\
    ((o=.pan 5/\∀w',Calls prog 116 #[.string M] w' fun e w2=>e=qw 5/\w2=w')\/
     ∃m:Int,(∀w',Calls prog 116 #[.string M] w' fun e w2=>e=.returned (.int .i64 m)/\w2=w')/\∀g cp w',Below w.heap.size w w'->mB w' g xs->Calls prog 114 #[.string nm,.slice (some ⟨g,0,none⟩) k cp,.int .i64 m] w' (bG w' o)))):
  Calls prog 74 #[.slice (some ⟨A,0,none⟩) (n+1) (n+1)] w (bG w o):=by
 have hmm:= @run_makeMap prog;have hkz:(1:Int)<=(k:Int)/\(k:Int)<=3:=by omega
 obtain⟨hk1,hk2⟩:=hkz;have hk3:(0:Int)<=(k:Int):=by omega
 have hk4:(k:Int)<=(k:Int)+1:=by omega
 have hk5:(k:Int)<(k:Int)+1:=by omega
 unfold bG at h ⊢;rcases h with⟨hn,rfl⟩|⟨rfl,M,hM,h⟩
 case inl=>
  have HN:=hid hn;clear hn hA hk;simp only[Oc.is];go_enter func74,ntmps74;go_wp2;go_quiet (fail)
  have hb0:Hid (Below w.heap.size w (w.drewN nq)):=hid (dh br0);generalize w.drewN nq=wa at *;obtain⟨V1,V2,V3,V4,V5,V6,V7,V8,V9,V10,V11,r1,r2,r3,r4,r5,r6,r7,r8,r9,r10,r11,mV,bV⟩:=rF wa;have hl1:=lM mV nm hf;have BU:=bt0 hb0 bV;simp only at hl1;clear mV bV hc0 hf;go_wp2_with (go_at_call 113;refine(yd _ n _ ((k:Int)+1) (by have :=HN.out;omega) _).mono ?_;rintro e w1 ⟨rfl,rfl⟩)
  all_goals exact⟨rfl,rfl,BU.out⟩
 have HM:=hid (fun w' (hb:Below w.heap.size w w')=>(hb.cell (p:=⟨A,1+k,none⟩) hA).trans hM);clear hM hA;rcases h with⟨rfl,hN⟩|⟨xs,hN,⟨rfl,hm⟩|⟨m,hm,hr⟩⟩
 case' inr.inr=>have RD0:=hid hr;clear hr;cases o
 all_goals
  have NB:=hid hN;clear hN;try (have MO:=hid hm;clear hm)
  try (have RD:=RD0;clear RD0)
  simp only[Oc.is]at *;go_enter func74,ntmps74;go_wp2;go_quiet (fail)
  have hb0:Hid (Below w.heap.size w (w.drewN nq)):=hid (dh br0);generalize w.drewN nq=wa at *;obtain⟨V1,V2,V3,V4,V5,V6,V7,V8,V9,V10,V11,r1,r2,r3,r4,r5,r6,r7,r8,r9,r10,r11,mV,bV⟩:=rF wa;have hl1:=lM mV nm hf;have BU:=bt0 hb0 bV;simp only at hl1;clear mV bV hc0 hf;go_wp2_with (go_at_call 113;refine(xH _ (k+1) _ ((k:Int)+1) (by omega) _).mono ?_;rintro e w1 ⟨rfl,rfl⟩)
  replace BU:=hid BU.out.drew;refine wp_region_held_drew (S:=fun w'=>w'.cell? ⟨A,1+k,none⟩=some (.string M)) (by kernel_rfl) (HM.out _ BU.out) (fun hHeld=>?_)
  repeat
   first
    |((first|refine ch 0 (v:=?_) rfl (by decide+kernel) (fun _ _ _ h=>h) (by rfl) (HM.out _ BU.out) (fun w hSw=>?_) ?_|refine ch 1 (v:=?_) rfl (by decide+kernel) (fun _ _ _ h=>h) (by rfl) (HM.out _ BU.out) (fun w hSw=>?_) ?_|refine ch 2 (v:=?_) rfl (by decide+kernel) (fun _ _ _ h=>h) (by rfl) (HM.out _ BU.out) (fun w hSw=>?_) ?_|refine ch 3 (v:=?_) rfl (by decide+kernel) (fun _ _ _ h=>h) (by rfl) (HM.out _ BU.out) (fun w hSw=>?_) ?_|refine ch 5 (v:=?_) rfl (by decide+kernel) (fun _ _ _ h=>h) (by rfl) (HM.out _ BU.out) (fun w hSw=>?_) ?_|refine ch 6 (v:=?_) rfl (by decide+kernel) (fun _ _ _ h=>h) (by rfl) (HM.out _ BU.out) (fun w hSw=>?_) ?_|refine ch 7 (v:=?_) rfl (by decide+kernel) (fun _ _ _ h=>h) (by rfl) (HM.out _ BU.out) (fun w hSw=>?_) ?_|refine ch 8 (v:=?_) rfl (by decide+kernel) (fun _ _ _ h=>h) (by rfl) (HM.out _ BU.out) (fun w hSw=>?_) ?_|refine ch 11 (v:=?_) rfl (by decide+kernel) (fun _ _ _ h=>h) (by rfl) (HM.out _ BU.out) (fun w hSw=>?_) ?_);rotate_left;focus ((try dsimp only at hSw);first|(go_simp;done)|(go_simp;with_reducible rfl));try simp only[Act.put,bj,bB,bg])
    |(refine wpAnyH_done (by decide+kernel) ?_ _)
    |((first|refine wpAnyH_ready (rs:=[4]) (by decide+kernel) (by simp) ?_|refine wpAnyH_ready (rs:=[9]) (by decide+kernel) (by simp) ?_|refine wpAnyH_ready (rs:=[10]) (by decide+kernel) (by simp) ?_)
      refine AllReadyH.cons (o:=_) (vt rfl) (fun K hK=>?_) AllReadyH.nil;go_simp
      first
       |(refine(NB.out _ BU.out).mono ?_;rintro e w' ⟨⟨g,cp,rfl,hg⟩,hb⟩;replace BU:=bt0 BU hb;have HG:=hid hg;clear hb hg;refine hK.out _ _ (HM.out _ BU.out) (fun _=>?_);clear hK K;try simp only[Act.put,bj,bB,bg])
       |(refine(NB.out _ BU.out).mono ?_;rintro e w' ⟨rfl,hb⟩;exact⟨rfl,rfl,af BU.out le0 hb⟩)
       |(refine(MO.out _).mono ?_;rintro e w' ⟨rfl,rfl⟩;first|exact⟨rfl,rfl,BU.out⟩|(refine hK.out _ _ (HM.out _ BU.out) (fun _=>?_);clear hK K;try simp only[Act.put,bj,bB,bg]))
       |(refine(RD.out _ _ _ BU.out HG.out).mono ?_;rintro e w' ⟨rfl,hb⟩;replace BU:=bt0 BU hb;clear hb;first|exact⟨rfl,rfl,BU.out⟩|(refine hK.out _ _ (HM.out _ BU.out) (fun _=>?_);clear hK K;try simp only[Act.put,bj,bB,bg])))
  all_goals
   go_wp2;go_ret;exact⟨rfl,BU.out⟩
theorem yz (nm:ByteArray) (i k n:Nat) (hf0:Instr.findNow .string (.string nm) ky.toList 0=some none) (hf:Instr.findNow .string (.string nm) me.toList 0=some (some (i,.int .i64 (k:Int)))) (A:Nat) (w:World) (hc0:w.cell? ⟨A,0,none⟩=some (.string nm))
  (o:Oc) (h:(n≠k/\o=.pan 5)\/n=k/\1<=k/\((o=.pan 5/\∀w',Below w.heap.size w w'->Calls prog 115 #[.slice (some ⟨A,1,none⟩) n n] w' (bG w' (.pan 5)))\/
   ∃(xs:List Int) (S:ByteArray),(∀w',Below w.heap.size w w'->Calls prog 115 #[.slice (some ⟨A,1,none⟩) n n] w' fun e w2=>(∃g cp,e=.returned (.slice (some ⟨g,0,none⟩) n cp)/\mB w2 g xs)/\Below w'.heap.size w' w2)/\
    o=.ret (.string S)/\∀g cp w',Below w.heap.size w w'->mB w' g xs->Calls prog 117 #[.string nm,.slice (some ⟨g,0,none⟩) n cp] w' fun e w2=>e=.returned (.string S)/\Below w'.heap.size w' w2)):
  Calls prog 74 #[.slice (some ⟨A,0,none⟩) (n+1) (n+1)] w (bG w o):=by
 have hmm:= @run_makeMap prog;unfold bG at h ⊢;rcases h with⟨hn,rfl⟩|⟨rfl,hk,⟨rfl,hN⟩|⟨xs,S,hN,rfl,hr⟩⟩
 case' inl=>have HN:=hid hn;clear hn
 case' inr.inl=>obtain⟨j,rfl⟩:∃j,n=j+1:=⟨n-1,by omega⟩;have NB:=hid hN;clear hN hk
 case' inr.inr=>obtain⟨j,rfl⟩:∃j,n=j+1:=⟨n-1,by omega⟩;have NB:=hid hN;have PL:=hid hr;clear hN hr hk
 all_goals
  simp only[Oc.is]at *;go_enter func74,ntmps74;go_wp2;go_quiet (fail)
  have hb0:Hid (Below w.heap.size w (w.drewN nq)):=hid (dh br0);generalize w.drewN nq=wa at *;obtain⟨V1,V2,V3,V4,V5,V6,V7,V8,V9,V10,V11,r1,r2,r3,r4,r5,r6,r7,r8,r9,r10,r11,mV,bV⟩:=rF wa;have hl1:=lM mV nm hf0;obtain⟨U1,U2,U3,U4,U5,U6,U7,U8,q1,q2,q3,q4,q5,q6,q7,q8,mU,bU⟩:=vM V11;have hl2:=lM mU nm hf;have BU:=hid (af hb0.out le0 (af bV le0 bU));simp only at hl1 hl2;clear mV bV mU bU hc0 hf hf0
  go_wp2_with (first
   |(go_at_call 113;first|(refine(yd _ _ _ _ (by have :=HN.out;omega) _).mono ?_;rintro e w1 ⟨rfl,rfl⟩)|(refine(xH _ _ _ _ (by omega) _).mono ?_;rintro e w1 ⟨rfl,rfl⟩))
   |(go_at_call 115;refine(NB.out _ BU.out).mono ?_;first
    |(rintro e w1 ⟨⟨g,cp,rfl,hg⟩,hb⟩;replace BU:=bt0 BU hb;have HG:=hid hg;clear hb hg)
    |(rintro e w1 ⟨rfl,hb⟩;replace BU:=bt0 BU hb;clear hb))
   |(go_at_call 117;refine(PL.out _ _ _ BU.out HG.out).mono ?_;rintro e w2 ⟨rfl,hb⟩;replace BU:=bt0 BU hb;clear hb))
  all_goals first
   |(go_ret;exact⟨rfl,BU.out⟩;done)
   |exact⟨rfl,rfl,BU.out⟩
theorem Ug {w:World}{B:Nat}{v:Value}{xs:List Int}(h:w.ownsRow B 24 1 v xs.length (kh xs)) (hx:∀x∈xs,U6 x):LU w v xs:=by
 refine⟨hx,?_⟩;rcases h.2 with⟨hv,h1⟩|⟨g,c,cur,hv,hB,hg,h1,h2,_⟩
 .exact⟨none,0,by rw[hv,h1],by omega,by decide,Or.inl (by omega)⟩
 .refine⟨some ⟨g,0,none⟩,c,hv,h1,h2,Or.inr ⟨g,0,rfl,(mQ.1 hg).1,fun i hi=>?_⟩⟩
  have h3:=h.cells (g:=g) (by rw[hv];rfl) i (.int .u64 (xs.getD i 0)) (by simp [kh,List.getD,fO hi]);rw[show(⟨g,0,none⟩:Addr).add i=⟨g,0+i,none⟩ from by unfold Addr.add;split <;> simp_all]at h3;exact h3
theorem yc (n:Nat) (hn:n<=100000) (A:Nat) (w:World) (hD:Dk w) (hc0:w.cell? ⟨A,0,none⟩=some (.string ⟨#[115,117,109]⟩))
  (o:Oc) (h:(n=0/\o=.pan 5)\/∃(j:Nat) (M:ByteArray),n=j+1/\(∀w',Below w.heap.size w w'->w'.cell? ⟨A,1,none⟩=some (.string M))/\((o=.pan 5/\∀w',Calls prog 116 #[.string M] w' fun e w2=>e=qw 5/\w2=w')\/
   ∃m:Int,(∀w',Calls prog 116 #[.string M] w' fun e w2=>e=.returned (.int .i64 m)/\w2=w')/\
    ((o=.pan 5/\∀off w',(0<j->off=2)->Below w.heap.size w w'->Calls prog 115 #[.slice (some ⟨A,off,none⟩) j j] w' (bG w' (.pan 5)))\/
     ∃(xs:List Int) (V:Int) (C:Bool) (E:Int),(∀off w',(0<j->off=2)->Below w.heap.size w w'->Calls prog 115 #[.slice (some ⟨A,off,none⟩) j j] w' fun e w2=>(∃v,e=.returned v/\LU w2 v xs)/\Below w'.heap.size w' w2)/\
      (∀v w',Dk w'->LU w' v xs->Calls prog 120 #[v,.int .i64 m] w' fun e w2=>e=.returned (.tuple #[.int .u64 V,.bool C,.int .i64 E])/\Below w'.heap.size w' w2)/\
      ∀w',Dk w'->Calls prog 119 #[.int .u64 V,.bool C,.int .i64 E] w' (bG w' o)))):
  Calls prog 74 #[.slice (some ⟨A,0,none⟩) (n+1) (n+1)] w (bG w o):=by
 have hmm:= @run_makeMap prog;have HD:=hid (fun w' (hb:Below w.heap.size w w')=>hD.below hb);clear hD;unfold bG at h ⊢;rcases h with⟨rfl,rfl⟩|⟨j,M,rfl,hM,⟨rfl,hm⟩|⟨m,hm,⟨rfl,hN⟩|⟨xs,V,C,E,hN,hA,hF⟩⟩⟩
 case' inr.inr.inl=>cases j
 case' inr.inr.inr=>have SA:=hid hA;have FU0:=hid hF;clear hA hF;cases o <;> cases j
 all_goals
  try (have HM:=hid hM;clear hM)
  try (have MO:=hid hm;clear hm)
  try (have NB:=hid hN;clear hN)
  try (have FU:=FU0;clear FU0)
  simp only[Oc.is]at *;go_enter func74,ntmps74;go_wp2;go_quiet (fail)
  have hb0:Hid (Below w.heap.size w (w.drewN nq)):=hid (dh br0);generalize w.drewN nq=wa at *;obtain⟨V1,V2,V3,V4,V5,V6,V7,V8,V9,V10,V11,r1,r2,r3,r4,r5,r6,r7,r8,r9,r10,r11,mV,bV⟩:=rF wa;have hl1:=lM mV ⟨#[115,117,109]⟩ (a:=none) rfl;obtain⟨U1,U2,U3,U4,U5,U6,U7,U8,q1,q2,q3,q4,q5,q6,q7,q8,mU,bU⟩:=vM V11;have hl2:=lM mU ⟨#[115,117,109]⟩ (a:=none) rfl;have BU:=hid (af hb0.out le0 (af bV le0 bU));simp only at hl1 hl2;clear mV bV mU bU hc0;try (have hcm:=HM.out _ BU.out)
  go_wp2_with (first
   |(go_at_call 118;refine(lA 5 rfl _).mono ?_;rintro e w1 ⟨rfl,rfl⟩)
   |(go_at_call 116;refine(MO.out _).mono ?_;rintro e w1 ⟨rfl,rfl⟩)
   |(go_at_call 115;refine(NB.out _ _ (by omega) BU.out).mono ?_;first
    |(rintro e w1 ⟨⟨v,rfl,hv⟩,hb⟩;replace BU:=bt0 BU hb;have HV:=hid hv;clear hb hv)
    |(rintro e w1 ⟨rfl,hb⟩;replace BU:=bt0 BU hb;clear hb))
   |(go_at_call 120;refine(SA.out _ _ (HD.out _ BU.out) HV.out).mono ?_;rintro e w2 ⟨rfl,hb⟩;replace BU:=bt0 BU hb;clear hb)
   |(go_at_call 119;refine(FU.out _ (HD.out _ BU.out)).mono ?_;rintro e w2 ⟨rfl,hb⟩;replace BU:=bt0 BU hb;clear hb))
  all_goals first
   |(go_ret;exact⟨rfl,BU.out⟩;done)
   |exact⟨rfl,rfl,BU.out⟩
theorem I9 (nm:ByteArray) (f:Nat) (hf:(nm=⟨#[102,105,120,101,100]⟩/\f=48)\/(nm=⟨#[115,99,105]⟩/\f=49)) (n A:Nat) (w:World) (hA:A<w.heap.size) (a:Option Addr) (c:Nat)
  (o:Oc) (h:(n≠3/\o=.pan 5)\/n=3/\a=some ⟨A,1,none⟩/\∃S0 S1 S2:ByteArray,(w.cell? ⟨A,1,none⟩=some (.string S0)/\w.cell? ⟨A,2,none⟩=some (.string S1)/\w.cell? ⟨A,3,none⟩=some (.string S2))/\
   ((o=.pan 5/\∀w',Below w.heap.size w w'->Calls prog 122 #[.string S0] w' (bG w' (.pan 5)))\/
    ∃x:Int,(∀w',Below w.heap.size w w'->Calls prog 122 #[.string S0] w' (bG w' (.ret (.int .u64 x))))/\
   ((o=.pan 5/\∀w',Below w.heap.size w w'->Calls prog 168 #[.string S1] w' (bG w' (.pan 5)))\/
    ∃k:Int,(∀w',Below w.heap.size w w'->Calls prog 168 #[.string S1] w' (bG w' (.ret (.int .i64 k))))/\
   ((o=.pan 5/\∀w',Calls prog 116 #[.string S2] w' fun e w2=>e=qw 5/\w2=w')\/
    ∃m:Int,(∀w',Calls prog 116 #[.string S2] w' fun e w2=>e=.returned (.int .i64 m)/\w2=w')/\
    ∃(T:ByteArray) (C:Bool) (E:Int),T.size<=100000/\(∀w',Below w.heap.size w w'->Calls prog f #[.int .u64 x,.int .i64 k,.int .i64 m] w' fun e w2=>e=.returned (.tuple #[.string T,.bool C,.int .i64 E])/\Below w'.heap.size w' w2)/\
     (((E !=0)=true/\o=.pan E)\/E=0/\o=.ret (.string (T++⟨(jm C).toArray⟩))))))):
  Calls prog 121 #[.string nm,.slice a n c] w (bG w o):=by
 unfold bG at h ⊢;have hz:=fun C:Bool=>vW C
 rcases h with⟨hn,rfl⟩|⟨rfl,rfl,S0,S1,S2,hc,h⟩
 case inl=>
  have HN:=hid hn;clear hn hf;simp only[Oc.is];go_enter func121,ntmps121;go_wp2_with (go_at_call 113;refine(yd _ _ _ _ (by have :=HN.out;omega) _).mono ?_;rintro e w1 ⟨rfl,rfl⟩)
  exact⟨rfl,rfl,Below.refl _ _⟩
 have HC:=hid (fun w' (hb:Below w.heap.size w w')=>(show w'.cell? ⟨A,1,none⟩=some (.string S0)/\w'.cell? ⟨A,2,none⟩=some (.string S1)/\w'.cell? ⟨A,3,none⟩=some (.string S2) from⟨(hb.cell (p:=⟨A,1,none⟩) hA).trans hc.1,(hb.cell (p:=⟨A,2,none⟩) hA).trans hc.2.1,(hb.cell (p:=⟨A,3,none⟩) hA).trans hc.2.2⟩));have BU:Hid (Below w.heap.size w w):=hid br0;clear hc hA;rcases h with⟨rfl,hx⟩|⟨x,hx,⟨rfl,hk⟩|⟨k,hk,⟨rfl,hm⟩|⟨m,hm,T,C,E,hT,hw,⟨hE,rfl⟩|⟨rfl,rfl⟩⟩⟩⟩
 case' inr.inr.inr.inr=>have k1:¬9223372036854775807<T.size+(jm C).length:=by have :=hz C;omega
 all_goals
  rcases hf with⟨rfl,rfl⟩|⟨rfl,rfl⟩
 all_goals
  have NU:=hid hx;try (have IN:=hid hk;clear hk)
  try (have MO:=hid (fun w' (_:Below w.heap.size w w')=>(hm w').mono fun e w2 k=>(show _/\Below w'.heap.size w' w2 from⟨k.1,by rw[k.2];exact Below.refl _ _⟩));clear hm)
  try (have WR:=hid hw;clear hw)
  clear hx hz;simp only[Oc.is]at *;try (have LS:=hid (fun w'=>IV C w');generalize jm C=ls at *)
  go_enter func121,ntmps121;go_wp2_with (go_at_call 113;refine(xH _ _ _ _ (by rfl) _).mono ?_;rintro e w1 ⟨rfl,rfl⟩)
  replace BU:=hid BU.out.drew;refine wp_region_held_drew (S:=fun w'=>w'.cell? ⟨A,1,none⟩=some (.string S0)/\w'.cell? ⟨A,2,none⟩=some (.string S1)/\w'.cell? ⟨A,3,none⟩=some (.string S2)) (by kernel_rfl) (HC.out _ BU.out) (fun hHeld=>?_)
  repeat
   first
    |((first|refine ch 0 (v:=?_) rfl (by decide+kernel) (fun _ _ _ h=>h) (by rfl) (HC.out _ BU.out) (fun w hSw=>?_) ?_|refine ch 1 (v:=?_) rfl (by decide+kernel) (fun _ _ _ h=>h) (by rfl) (HC.out _ BU.out) (fun w hSw=>?_) ?_|refine ch 2 (v:=?_) rfl (by decide+kernel) (fun _ _ _ h=>h) (by rfl) (HC.out _ BU.out) (fun w hSw=>?_) ?_|refine ch 4 (v:=?_) rfl (by decide+kernel) (fun _ _ _ h=>h) (by rfl) (HC.out _ BU.out) (fun w hSw=>?_) ?_|refine ch 5 (v:=?_) rfl (by decide+kernel) (fun _ _ _ h=>h) (by rfl) (HC.out _ BU.out) (fun w hSw=>?_) ?_|refine ch 6 (v:=?_) rfl (by decide+kernel) (fun _ _ _ h=>h) (by rfl) (HC.out _ BU.out) (fun w hSw=>?_) ?_|refine ch 8 (v:=?_) rfl (by decide+kernel) (fun _ _ _ h=>h) (by rfl) (HC.out _ BU.out) (fun w hSw=>?_) ?_|refine ch 9 (v:=?_) rfl (by decide+kernel) (fun _ _ _ h=>h) (by rfl) (HC.out _ BU.out) (fun w hSw=>?_) ?_|refine ch 10 (v:=?_) rfl (by decide+kernel) (fun _ _ _ h=>h) (by rfl) (HC.out _ BU.out) (fun w hSw=>?_) ?_|refine ch 12 (v:=?_) rfl (by decide+kernel) (fun _ _ _ h=>h) (by rfl) (HC.out _ BU.out) (fun w hSw=>?_) ?_|refine ch 13 (v:=?_) rfl (by decide+kernel) (fun _ _ _ h=>h) (by rfl) (HC.out _ BU.out) (fun w hSw=>?_) ?_|refine ch 14 (v:=?_) rfl (by decide+kernel) (fun _ _ _ h=>h) (by rfl) (HC.out _ BU.out) (fun w hSw=>?_) ?_);rotate_left;focus ((try dsimp only at hSw);first|(go_simp;done)|(go_simp;with_reducible rfl));try simp only[Act.put,bj,bB,bg])
    |(refine wpAnyH_done (by decide+kernel) ?_ _)
    |((first|refine wpAnyH_ready (rs:=[3]) (by decide+kernel) (by simp) ?_|refine wpAnyH_ready (rs:=[7]) (by decide+kernel) (by simp) ?_|refine wpAnyH_ready (rs:=[11]) (by decide+kernel) (by simp) ?_)
      refine AllReadyH.cons (o:=_) (vt rfl) (fun K hK=>?_) AllReadyH.nil;go_simp
      (first|(go_at_call 122;refine(NU.out _ BU.out).mono ?_)|(go_at_call 168;refine(IN.out _ BU.out).mono ?_)|(go_at_call 116;refine(MO.out _ BU.out).mono ?_))
      rintro e w' ⟨rfl,hb⟩;replace BU:=bt0 BU hb;clear hb;first|exact⟨rfl,rfl,BU.out⟩|(refine hK.out _ _ (HC.out _ BU.out) (fun _=>?_);clear hK K;try simp only[Act.put,bj,bB,bg]))
  all_goals
   go_wp2_with (first
    |((first|go_at_call 48|go_at_call 49);refine(WR.out _ BU.out).mono ?_;rintro e w1 ⟨rfl,hb⟩;replace BU:=bt0 BU hb;clear hb)
    |(go_at_call 118;first|(refine(An _).mono ?_;rintro e w1 ⟨rfl,rfl⟩)|(refine(lA _ hE _).mono ?_;rintro e w1 ⟨rfl,rfl⟩))
    |(go_at_call 166;refine(LS.out _).mono ?_;rintro e w1 ⟨rfl,rfl⟩))
   first
    |(go_ret;exact⟨rfl,BU.out⟩;done)
    |exact⟨rfl,rfl,BU.out⟩
theorem Ts (nm:ByteArray) (hnm:nm=⟨#[102,105,120,101,100]⟩\/nm=⟨#[115,99,105]⟩) (n A:Nat) (w:World) (hc0:w.cell? ⟨A,0,none⟩=some (.string nm))
  (o:Oc) (h:∀a w',(0<n->a=some ⟨A,1,none⟩)->Below w.heap.size w w'->Calls prog 121 #[.string nm,.slice a n n] w' (bG w' o)):
  Calls prog 74 #[.slice (some ⟨A,0,none⟩) (n+1) (n+1)] w (bG w o):=by
 have hmm:= @run_makeMap prog;unfold bG at h ⊢;have hl0:Instr.findNow .string (.string nm) ky.toList 0=some none/\Instr.findNow .string (.string nm) me.toList 0=some none:=by rcases hnm with rfl|rfl <;> exact⟨rfl,rfl⟩
 obtain⟨hf0,hf⟩:=hl0;have HW0:=hid h;clear h;rcases hnm with rfl|rfl <;> cases o <;> cases n
 all_goals
  simp only[Oc.is]at HW0 ⊢;have HW:=HW0;clear HW0;go_enter func74,ntmps74;go_wp2;go_quiet (fail)
  have hb0:Hid (Below w.heap.size w (w.drewN nq)):=hid (dh br0);generalize w.drewN nq=wa at *;obtain⟨V1,V2,V3,V4,V5,V6,V7,V8,V9,V10,V11,r1,r2,r3,r4,r5,r6,r7,r8,r9,r10,r11,mV,bV⟩:=rF wa;have hl1:=lM mV _ hf0;obtain⟨U1,U2,U3,U4,U5,U6,U7,U8,q1,q2,q3,q4,q5,q6,q7,q8,mU,bU⟩:=vM V11;have hl2:=lM mU _ hf;have BU:=hid (af hb0.out le0 (af bV le0 bU));simp only at hl1 hl2;clear mV bV mU bU hc0 hf0 hf
  go_wp2_with (go_at_call 121;first
   |(with_reducible refine(HW.out _ _ (fun _=>rfl) BU.out).mono ?_;rintro e w1 ⟨rfl,hb⟩;replace BU:=bt0 BU hb;clear hb)
   |(with_reducible refine(HW.out _ _ (fun h=>absurd h (Nat.lt_irrefl 0)) BU.out).mono ?_;rintro e w1 ⟨rfl,hb⟩;replace BU:=bt0 BU hb;clear hb))
  first
   |(go_ret;exact⟨rfl,BU.out⟩;done)
   |exact⟨rfl,rfl,BU.out⟩
theorem Iv (nm:ByteArray) (hf0:Instr.findNow .string (.string nm) ky.toList 0=some none) (hf:Instr.findNow .string (.string nm) me.toList 0=some none)
  (h1:(nm.toList==[115,117,109])=false) (h2:(nm.toList==[102,105,120,101,100])=false) (h3:(nm.toList==[115,99,105])=false) (h4:(nm.toList==[112,114,105,110,116])=false) (n A:Nat) (w:World) (hc0:w.cell? ⟨A,0,none⟩=some (.string nm)):
  Calls prog 74 #[.slice (some ⟨A,0,none⟩) (n+1) (n+1)] w (bG w (.pan 5)):=by
 have hmm:= @run_makeMap prog;unfold bG Oc.is;go_enter func74,ntmps74;go_wp2;go_quiet (fail)
 have hb0:Hid (Below w.heap.size w (w.drewN nq)):=hid (dh br0);generalize w.drewN nq=wa at *;obtain⟨V1,V2,V3,V4,V5,V6,V7,V8,V9,V10,V11,r1,r2,r3,r4,r5,r6,r7,r8,r9,r10,r11,mV,bV⟩:=rF wa;have hl1:=lM mV _ hf0;obtain⟨U1,U2,U3,U4,U5,U6,U7,U8,q1,q2,q3,q4,q5,q6,q7,q8,mU,bU⟩:=vM V11;have hl2:=lM mU _ hf;have BU:=hid (af hb0.out le0 (af bV le0 bU));simp only at hl1 hl2;clear mV bV mU bU hc0 hf0 hf;go_wp2_with (go_at_call 118;refine(lA 5 rfl _).mono ?_;rintro e w1 ⟨rfl,rfl⟩)
 all_goals exact⟨rfl,rfl,BU.out⟩
theorem Jq (n A:Nat) (w:World) (hA:A<w.heap.size) (hc0:w.cell? ⟨A,0,none⟩=some (.string ⟨#[112,114,105,110,116]⟩))
  (o:Oc) (h:(n≠2/\o=.pan 5)\/n=2/\∃S0 S1:ByteArray,(w.cell? ⟨A,1,none⟩=some (.string S0)/\w.cell? ⟨A,2,none⟩=some (.string S1))/\
   ((o=.pan 5/\∀w',Below w.heap.size w w'->Calls prog 122 #[.string S1] w' (bG w' (.pan 5)))\/
    ∃x:Int,(∀w',Below w.heap.size w w'->Calls prog 122 #[.string S1] w' (bG w' (.ret (.int .u64 x))))/\
     ∃(F:kH) (E:Int),(∀w',Calls prog 20 #[.string S0] w' fun e w2=>e=.returned (.tuple #[F.v,.int .i64 E])/\Below w'.heap.size w' w2)/\
     (((E !=0)=true/\o=.pan E)\/E=0/\∃(R:ByteArray) (E2:Int),R.size<=100000/\(∀w',Below w.heap.size w w'->Calls prog 9 #[F.v,.int .u64 x] w' fun e w2=>e=.returned (.tuple #[.string R,.int .i64 E2])/\Below w'.heap.size w' w2)/\
      (((E2 !=0)=true/\o=.pan E2)\/E2=0/\o=.ret (.string (⟨#[91]⟩++R++⟨#[93]⟩)))))):
  Calls prog 74 #[.slice (some ⟨A,0,none⟩) (n+1) (n+1)] w (bG w o):=by
 have hmm:= @run_makeMap prog;unfold bG at h ⊢;have HC0:Hid (n=2->∀(S0 S1:ByteArray),w.cell? ⟨A,1,none⟩=some (.string S0)->w.cell? ⟨A,2,none⟩=some (.string S1)->∀w',Below w.heap.size w w'->w'.cell? ⟨A,1,none⟩=some (.string S0)/\w'.cell? ⟨A,2,none⟩=some (.string S1)):=hid (fun _ S0 S1 h1 h2 w' hb=>⟨(hb.cell (p:=⟨A,1,none⟩) hA).trans h1,(hb.cell (p:=⟨A,2,none⟩) hA).trans h2⟩);clear hA;rcases h with⟨hn,rfl⟩|⟨rfl,S0,S1,⟨hc1,hc2⟩,⟨rfl,hx⟩|⟨x,hx,⟨vb,mi,pl,bl,ze,al,wd,pr⟩,E,hp,⟨hE,rfl⟩|⟨rfl,R,E2,hR,hf,⟨hE2,rfl⟩|⟨rfl,rfl⟩⟩⟩⟩
 case' inl=>have HN:=hid hn;clear hn
 case' inr.inr.inr.inr=>have k1:¬9223372036854775807<1+R.size:=by omega
 case' inr.inr.inr.inr=>have k2:¬9223372036854775807<1+R.size+1:=by omega
 all_goals
  try (have HC:=hid (HC0.out rfl S0 S1 hc1 hc2);clear hc1 hc2)
  try (have NU:=hid hx;clear hx)
  try (have PA:=hid hp;clear hp)
  try (have FO:=hid hf;clear hf)
  clear HC0;simp only[Oc.is,kH.v]at *;go_enter func74,ntmps74;go_wp2;go_quiet (fail)
  have hb0:Hid (Below w.heap.size w (w.drewN nq)):=hid (dh br0);generalize w.drewN nq=wa at *;obtain⟨V1,V2,V3,V4,V5,V6,V7,V8,V9,V10,V11,r1,r2,r3,r4,r5,r6,r7,r8,r9,r10,r11,mV,bV⟩:=rF wa;have hl1:=lM mV ⟨#[112,114,105,110,116]⟩ (a:=none) rfl;obtain⟨U1,U2,U3,U4,U5,U6,U7,U8,q1,q2,q3,q4,q5,q6,q7,q8,mU,bU⟩:=vM V11;have hl2:=lM mU ⟨#[112,114,105,110,116]⟩ (a:=none) rfl;have BU:=hid (af hb0.out le0 (af bV le0 bU));simp only at hl1 hl2;clear mV bV mU bU hc0;try (obtain⟨e1,e2⟩:=HC.out _ BU.out)
  go_wp2_with (first
   |(go_at_call 9;refine(FO.out _ (BU.out.alloc BU.out.size _)).mono ?_;rintro e w2 ⟨rfl,hb⟩;replace BU:=hid (af (BU.out.alloc BU.out.size _) le0 hb);clear hb)
   |(go_at_call 113;first|(refine(yd _ _ _ _ (by have :=HN.out;omega) _).mono ?_;rintro e w1 ⟨rfl,rfl⟩)|(refine(xH _ _ _ _ (by rfl) _).mono ?_;rintro e w1 ⟨rfl,rfl⟩))
   |(go_at_call 122;refine(NU.out _ BU.out).mono ?_;rintro e w1 ⟨rfl,hb⟩;replace BU:=bt0 BU hb;clear hb;obtain⟨e1,e2⟩:=HC.out _ BU.out)
   |(go_at_call 20;refine(PA.out _).mono ?_;rintro e w1 ⟨rfl,hb⟩;replace BU:=bt0 BU hb;clear hb)
   |(go_at_call 118;first|(refine(An _).mono ?_;rintro e w1 ⟨rfl,rfl⟩)|(refine(lA _ hE _).mono ?_;rintro e w1 ⟨rfl,rfl⟩)|(refine(lA _ hE2 _).mono ?_;rintro e w1 ⟨rfl,rfl⟩)))
  all_goals first
   |exact⟨rfl,rfl,BU.out⟩
   |exact⟨rfl,rfl,BU.out.alloc BU.out.size _⟩
   |(go_ret;exact⟨rfl,BU.out⟩;done)
theorem uS {w:World}{A:Nat}{l:List (List UInt8)}(h:Wr w A l) (hA:A<w.heap.size) (o:Obj):Wr (w.alloc o) A l:=h.below ((Below.refl _ w).alloc le0 o) hA
theorem Pj:oA [[102,114,111,98]] (lO 5):=by
 refine⟨by decide+kernel,fun w A hD hW hA=>?_⟩;exact Jr A [[102,114,111,98]] 5 (by decide) w hD.t10 (Iv _ rfl rfl (by rw[ByteArray.toList_eq];decide) (by rw[ByteArray.toList_eq];decide) (by rw[ByteArray.toList_eq];decide) (by rw[ByteArray.toList_eq];decide) 0 A _ (uS hW hA _ 0 _ rfl))
theorem P9:mF [49] 4607182418800017408:=
 ⟨by decide,fun S w hS hD=>wV [49] S hS rfl rfl rfl _ (by kernel_rfl) (by kernel_rfl) w hD⟩
theorem ag4:mF [105,110,102] 9218868437227405312:=
 ⟨by decide,fun S w hS hD=>wV [105,110,102] S hS rfl rfl rfl _ (by kernel_rfl) (by kernel_rfl) w hD⟩
theorem Uq:mF [48,46,49] 4591870180066957722:=
 ⟨by decide,fun S w hS hD=>wV [48,46,49] S hS rfl rfl rfl _ (by kernel_rfl) (by kernel_rfl) w hD⟩
theorem SU:mF [48,46,50] 4596373779694328218:=
 ⟨by decide,fun S w hS hD=>wV [48,46,50] S hS rfl rfl rfl _ (by kernel_rfl) (by kernel_rfl) w hD⟩
theorem Hd {nm a b:List UInt8}{r:List (List UInt8)}{x y:Int}(hN:mF a x) (hM:mF b y) {A:Nat}{w:World}(hD:Dk w) (hA:A<w.heap.size) (hW:Wr w A (nm::a::b::r)) (cap:Nat) (w':World) (hb:Below w.heap.size w w'):
  Calls prog 115 #[.slice (some ⟨A,1,none⟩) 2 cap] w' fun e w2=>(∃g cp,e=.returned (.slice (some ⟨g,0,none⟩) 2 cp)/\mB w2 g [x,y])/\Below w'.heap.size w' w2:=by
 refine(Jg A 1 cap [a,b] [x,y] rfl (by simp) (fun j s z hs hy=>by
  match j,hs,hy with
  | 0,hs,hy=>simp at hs hy;subst hs hy;exact hN
  | 1,hs,hy=>simp at hs hy;subst hs hy;exact hM
  |(j+2),hs,hy=>simp at hs) w' (hD.below hb) (aX hA hb.size) (fun j s hs=>by
  match j,hs with
  | 0,hs=>simp at hs;subst hs;exact(hb.cell (p:=⟨A,1,none⟩) hA).trans (hW 1 _ rfl)
  | 1,hs=>simp at hs;subst hs;exact(hb.cell (p:=⟨A,2,none⟩) hA).trans (hW 2 _ rfl)
  |(j+2),hs=>simp at hs)).mono ?_
 rintro e w2 ⟨v,rfl,ho,hb2⟩;obtain⟨g,cp,rfl,hg⟩:=Dj ho (by simp);exact⟨⟨g,cp,rfl,hg⟩,hb2⟩
theorem Vk:oA [[99,109,112],[49],[105,110,102]] [60]:=by
 refine⟨by decide,fun w A hD hW hA=>?_⟩;have hW':=uS hW hA (.cells #[.string ⟨#[]⟩] 9);exact Et A [[99,109,112],[49],[105,110,102]] [60] w (yz ⟨#[99,109,112]⟩ 7 2 2 rfl rfl A _ (hW' 0 _ rfl) (.ret (.string ⟨#[60]⟩)) (Or.inr ⟨rfl,by decide,Or.inr ⟨_,⟨#[60]⟩,Hd P9 ag4 (hD.alloc _) (by simp;omega) hW' 2,rfl,fun g cp w' hb hc=>Nn g cp _ _ (-1) true _ (Or.inr ⟨rfl,Or.inl ⟨rfl,rfl⟩⟩) w' (hid fun w2=>(Lf 4607182418800017408 9218868437227405312 (by decide) (by decide) (by decide) (by decide) w2)) (hc 0 _ rfl) (hc 1 _ rfl)⟩⟩))
theorem Ay:kL 4591870180066957722 4596373779694328218 0=4599075939470750516/\nV 4591870180066957722 4596373779694328218 0=true/\dv 0=0:=⟨by kernel_rfl,by kernel_rfl,by kernel_rfl⟩
theorem Rs:oA [[97,100,100],[48,46,49],[48,46,50],[110,101,97,114]] (jD 4599075939470750516++jm true):=by
 refine⟨by have :=yW (x:=4599075939470750516) (by decide) (by decide);have :=vW true;rw[ck];omega,fun w A hD hW hA=>?_⟩;have hW':=uS hW hA (.cells #[.string ⟨#[]⟩] 9);refine Et A [[97,100,100],[48,46,49],[48,46,50],[110,101,97,114]] _ w (Ei ⟨#[97,100,100]⟩ 0 2 3 (by decide) rfl A _ (by simp;omega) (hW' 0 _ rfl) (.ret (.string ⟨(jD 4599075939470750516++jm true).toArray⟩)) (Or.inr ⟨rfl,⟨#[110,101,97,114]⟩,hW' 3 _ rfl,Or.inr ⟨_,Hd Uq SU (hD.alloc _) (by simp;omega) hW' 3,Or.inr ⟨0,fun w'=>(Sg w').mono fun e w2 k=>⟨k.1,k.2.symm⟩,fun g cp w' hb hc=>?_⟩⟩⟩));refine vJ _ _ (Or.inl ⟨rfl,rfl⟩) g cp _ _ 0 4599075939470750516 0 true _ w' ((hD.alloc _).below hb) (fun w2 h=>?_) (fun w2 h=>F_ _ true (by decide) (by decide) w2 h) (hc 0 _ rfl) (hc 1 _ rfl);have h:=sY 4591870180066957722 4596373779694328218 0 (by decide) (by decide) (by decide) (by decide) w2 h.t32;rw[Ay.1,Ay.2.1,Ay.2.2]at h;exact h
theorem Ud:dK (cK 4599075939470750516)= -1:=Ik (by unfold ke;decide+kernel)
theorem uU (n:Nat):bW 4599075939470750516 n= -(n:Int):=by unfold bW;rw[Ud];omega
theorem Gi:dS 4599075939470750516 17=30000000000000004:=by unfold dS;rw[uU];decide+kernel
theorem Yt:∀i,1<=i->i<17->gw 4599075939470750516 i=false:=by
 intro i h1 h2
 have hq:dS 4599075939470750516 i=3*10^(i-1):=by
  unfold dS;rw[uU];have :i=1\/i=2\/i=3\/i=4\/i=5\/i=6\/i=7\/i=8\/i=9\/i=10\/i=11\/i=12\/i=13\/i=14\/i=15\/i=16:=by omega
  rcases this with rfl|rfl|rfl|rfl|rfl|rfl|rfl|rfl|rfl|rfl|rfl|rfl|rfl|rfl|rfl|rfl <;> decide+kernel
 unfold gw ma lQ;rw[hq,uU];have :i=1\/i=2\/i=3\/i=4\/i=5\/i=6\/i=7\/i=8\/i=9\/i=10\/i=11\/i=12\/i=13\/i=14\/i=15\/i=16:=by omega
 rcases this with rfl|rfl|rfl|rfl|rfl|rfl|rfl|rfl|rfl|rfl|rfl|rfl|rfl|rfl|rfl|rfl <;> decide+kernel
theorem Ss:iK 4599075939470750516 17=false:=by
 unfold iK ma lQ xI;rw[Gi,uU];decide+kernel
theorem GF:dx 4599075939470750516=[51,48,48,48,48,48,48,48,48,48,48,48,48,48,48,48,52]/\gi 4599075939470750516= -17:=by
 obtain⟨e1,e2⟩:=rN (x:=4599075939470750516) (by decide) (by decide) (by decide) (n:=17) (by decide) (EG (by decide) (by decide) (by decide)) Yt Ss;rw[Gi]at e1 e2;have e3:dx 4599075939470750516=[51,48,48,48,48,48,48,48,48,48,48,48,48,48,48,48,52]:=e1.trans (by decide+kernel);refine⟨e3,?_⟩;rw[e2,e3,uU];decide+kernel
theorem Sf:jo 4599075939470750516=[48,46,51,48,48,48,48,48,48,48,48,48,48,48,48,48,48,48,52]:=by
 unfold jo;rw[ag (by decide),ag (by decide),ag (by decide),GF.1,GF.2];decide+kernel
theorem DA:aY (aR 10 [97,100,100,32,48,46,49,32,48,46,50,32,110,101,97,114,32,59,32,111,102,32,116,101,110,115,10,32,102,114,111,98,10,99,109,112,32,49,32,105,110,102])=[[[97,100,100],[48,46,49],[48,46,50],[110,101,97,114]],[[102,114,111,98]],[[99,109,112],[49],[105,110,102]]]:=by decide+kernel
theorem Wn:runT [jD 4599075939470750516++jm true,lO 5,[60]]=[48,46,51,48,48,48,48,48,48,48,48,48,48,48,48,48,48,48,52,32,35,51,102,100,51,51,51,51,51,51,51,51,51,51,51,51,52,32,108,111,115,116,10,101,114,114,111,114,32,53,10,60,10]:=by
 unfold jD;rw[Sf];decide+kernel
theorem Zi (w:World) (hD:Dk w):Calls prog 16 #[.string ⟨#[97,100,100,32,48,46,49,32,48,46,50,32,110,101,97,114,32,59,32,111,102,32,116,101,110,115,10,32,102,114,111,98,10,99,109,112,32,49,32,105,110,102]⟩] w (fa w [48,46,51,48,48,48,48,48,48,48,48,48,48,48,48,48,48,48,52,32,35,51,102,100,51,51,51,51,51,51,51,51,51,51,51,51,52,32,108,111,115,116,10,101,114,114,111,114,32,53,10,60,10]):=by
 have h:=QS [97,100,100,32,48,46,49,32,48,46,50,32,110,101,97,114,32,59,32,111,102,32,116,101,110,115,10,32,102,114,111,98,10,99,109,112,32,49,32,105,110,102] ⟨#[97,100,100,32,48,46,49,32,48,46,50,32,110,101,97,114,32,59,32,111,102,32,116,101,110,115,10,32,102,114,111,98,10,99,109,112,32,49,32,105,110,102]⟩ rfl (by decide) [jD 4599075939470750516++jm true,lO 5,[60]] (by rw[DA];rfl) (by rw[DA];decide) (fun j l o hl ho=>by
  rw[DA]at hl
  match j,hl,ho with
  | 0,hl,ho=>simp only[OG,rY]at hl ho;subst hl ho;exact Rs
  | 1,hl,ho=>simp only[OG,aj6,rY]at hl ho;subst hl ho;exact Pj
  | 2,hl,ho=>simp only[OG,aj6,rY]at hl ho;subst hl ho;exact Vk
  |(j+3),hl,ho=>simp at hl) w hD
 rw[Wn]at h;exact h
theorem Ey (w:World) (hD:Dk w):Calls prog 12 #[] w fun e w'=>e=.returned (.bool true)/\Below w.heap.size w w':=by
 have RN:=hid (Zi w hD);unfold fa at RN;clear hD;go_enter func12,ntmps12;go_wp2_with (go_at_call 16;refine RN.out.mono ?_;rintro e w1 ⟨rfl,hb⟩;have B:=hid hb;clear hb)
 go_ret;exact⟨rfl,B.out⟩
theorem Ru {x:Int}(p m:Int) (x0:0<=x) (x1:x<=18446744073709551615):(o8 x p m).length<=12000:=by
 unfold o8;split
 .rename_i he
  rcases Nh x p m with⟨_,h⟩|⟨_,_,h⟩|⟨_,h2,h⟩
  .omega
  .omega
  obtain⟨q,rfl⟩:=gH h2.2.1;obtain⟨K,hK⟩:∃K:Nat,K=9000:=⟨_,rfl⟩;obtain⟨b1,b2⟩:=BH x0 x1 (t:=(q:Int)) (by omega) (by omega) (K:=K) (by omega);have hq:=xa (ai x) (q:Int) m b1;have hql:=AQ (by omega) hq;have hpl:=Ca (dQ (ai x) q m) q (K+1) hql;have hsl:=tC x;rw[ck,gf];omega
 .simp
theorem Wc {x:Int}(g m:Int) (x0:0<=x) (x1:x<=18446744073709551615):(oy x g m).length<=2000:=by
 unfold oy;split
 .rcases NK x g m with⟨_,h⟩|⟨_,_,h⟩|⟨_,h2,h⟩
  .omega
  .omega
  obtain⟨q,rfl⟩:=gH (show 0<=g by omega);rw[gf];have hmid:=uH x0 x1;have hlen:=xJ hmid (g:=q) (by omega) m;obtain⟨bp0,bp1⟩:=yj hmid q m;have hpw:=Ct (jL (ai x) q m) (by omega);have hsl:=tC x
  have hpl:(pt (jX (ai x) q m) (q-1)).length<=802:=by
   rw[AU (by omega) hlen];split
   .omega
   .simp;omega
  unfold vA;simp only[ck,ez,Ac];omega
 .simp
theorem jB:jO (.pan 5):=Or.inr ⟨5,by decide,rfl⟩
theorem Eg {E:Int}(e0:0<=E) (e1:E<=1000):jO (.pan E):=Or.inr ⟨E.toNat,by omega,by rw[OB e0]⟩
def rA (l:List (List UInt8)) (o:Oc):Prop:=jO o/\∀(A:Nat) (w:World),Dk w->A<w.heap.size->Wr w A l->Calls prog 74 #[.slice (some ⟨A,0,none⟩) l.length l.length] w (bG w o)
section
variable {nm:List UInt8}{r:List (List UInt8)}{A:Nat}{w:World}
theorem kJ (h:Wr w A (nm::r)):w.cell? ⟨A,0,none⟩=some (dL nm):=h 0 nm rfl
theorem mm (h:Wr w A (nm::r)) (hA:A<w.heap.size) {w':World}(hb:Below w.heap.size w w'):∀(j:Nat) s,r[j]?=some s->w'.cell? ⟨A,1+j,none⟩=some (dL s):=fun j s hs=>by
 rw[hb.cell (p:=⟨A,1+j,none⟩) hA,r_ 1 j];exact h (j+1) s hs
end
theorem T_ (nm:List UInt8) (r:List (List UInt8)) (hl:∀s∈r,s.length<=100000) (i k:Nat) (hk:1<=k/\k<=3) (hf:Instr.findNow .string (.string ⟨nm.toArray⟩) ky.toList 0=some (some (i,.int .i64 (k:Int)))) (hR:rG ⟨nm.toArray⟩ k):∃o,rA (nm::r) o:=by
 by_cases hlen:r.length=k+1
 .obtain⟨M,hM⟩:∃M,r[k]?=some M:=⟨_,fO (by omega)⟩
  obtain⟨oN,hN⟩:=Cc (r.take k) (fun s hs=>hl s (kU hs)) (by rw[dj];omega);obtain⟨oM,hm1,hm2⟩:=BY ⟨M.toArray⟩;have hlt:(r.take k).length=k:=by rw[dj];omega
  have hcl:∀ {A:Nat}{w w':World},A<w.heap.size->Wr w A (nm::r)->Below w.heap.size w w'->∀(j:Nat) s,(r.take k)[j]?=some s->w'.cell? ⟨A,1+j,none⟩=some (dL s):=fun hA hW hb j s hs=>mm hW hA hb j s (by
   rw[zO]at hs;split at hs
   .exact hs
   .cases hs)
  have ways:∃o,jO o/\∀(A:Nat) (w:World),Dk w->A<w.heap.size->Wr w A (nm::r)->((o=.pan 5/\∀w',Below w.heap.size w w'->Calls prog 115 #[.slice (some ⟨A,1,none⟩) k r.length] w' (bG w' (.pan 5)))\/
   ∃xs:List Int,(∀w',Below w.heap.size w w'->Calls prog 115 #[.slice (some ⟨A,1,none⟩) k r.length] w' fun e w2=>(∃g cp,e=.returned (.slice (some ⟨g,0,none⟩) k cp)/\mB w2 g xs)/\Below w'.heap.size w' w2)/\
    ((o=.pan 5/\∀w',Calls prog 116 #[.string ⟨M.toArray⟩] w' fun e w2=>e=qw 5/\w2=w')\/
     ∃m:Int,(∀w',Calls prog 116 #[.string ⟨M.toArray⟩] w' fun e w2=>e=.returned (.int .i64 m)/\w2=w')/\∀g cp w',Below w.heap.size w w'->mB w' g xs->Calls prog 114 #[.string ⟨nm.toArray⟩,.slice (some ⟨g,0,none⟩) k cp,.int .i64 m] w' (bG w' o))):=by
   cases oN with
   |none=>exact⟨_,jB,fun A w hD hA hW=>Or.inl ⟨rfl,fun w' hb=>by have h:=hN A 1 r.length w' (hD.below hb) (aX hA hb.size) (hcl hA hW hb);rw[hlt]at h;exact h⟩⟩
   |some xs=>
    obtain⟨n1,n2,n3⟩:=hN;rw[hlt]at n1
    have NB:∀(A:Nat) (w:World),Dk w->A<w.heap.size->Wr w A (nm::r)->∀w',Below w.heap.size w w'->Calls prog 115 #[.slice (some ⟨A,1,none⟩) k r.length] w' fun e w2=>(∃g cp,e=.returned (.slice (some ⟨g,0,none⟩) k cp)/\mB w2 g xs)/\Below w'.heap.size w' w2:=fun A w hD hA hW w' hb=>by
     have h:=n3 A 1 r.length w' (hD.below hb) (aX hA hb.size) (hcl hA hW hb);rw[hlt]at h;refine h.mono ?_;rintro e w2 ⟨v,rfl,ho,hb2⟩;obtain⟨g,cp,rfl,hg⟩:=Dj ho (by omega);rw[n1];exact⟨⟨g,cp,rfl,hg⟩,hb2⟩
    rcases hm1 with⟨m,rfl,m0,m1⟩|rfl
    .obtain⟨o,ho,hc⟩:=hR xs m n1 n2 m0 m1
     exact⟨o,ho,fun A w hD hA hW=>Or.inr ⟨xs,NB A w hD hA hW,Or.inr ⟨m,hm2,fun g cp w' hb hcl=>hc g cp w' (hD.below hb) hcl⟩⟩⟩
    .exact⟨_,jB,fun A w hD hA hW=>Or.inr ⟨xs,NB A w hD hA hW,Or.inl ⟨rfl,hm2⟩⟩⟩
  obtain⟨o,ho,hw⟩:=ways;exact⟨o,ho,fun A w hD hA hW=>Ei _ i k r.length hk hf A w hA (kJ hW) o (Or.inr ⟨hlen,_,mm hW hA br0 k M hM,hw A w hD hA hW⟩)⟩
 .exact⟨_,jB,fun A w hD hA hW=>Ei _ i k r.length hk hf A w hA (kJ hW) _ (Or.inl ⟨hlen,rfl⟩)⟩
theorem XM (nm:List UInt8) (r:List (List UInt8)) (hl:∀s∈r,s.length<=100000) (i k:Nat) (hk:1<=k/\k<=3) (hf0:Instr.findNow .string (.string ⟨nm.toArray⟩) ky.toList 0=some none) (hf:Instr.findNow .string (.string ⟨nm.toArray⟩) me.toList 0=some (some (i,.int .i64 (k:Int)))) (hP:s_ ⟨nm.toArray⟩ k):∃o,rA (nm::r) o:=by
 by_cases hlen:r.length=k
 .obtain⟨oN,hN⟩:=Cc r hl (by omega)
  cases oN with
  |none=>exact⟨_,jB,fun A w hD hA hW=>yz _ i k r.length hf0 hf A w (kJ hW) _ (Or.inr ⟨hlen,hk.1,Or.inl ⟨rfl,fun w' hb=>hN A 1 r.length w' (hD.below hb) (aX hA hb.size) (mm hW hA hb)⟩⟩)⟩
  |some xs=>
   obtain⟨n1,n2,n3⟩:=hN;obtain⟨S,hS,hc⟩:=hP xs (by omega) n2;refine⟨.ret (.string S),Or.inl ⟨S,rfl,hS⟩,fun A w hD hA hW=>yz _ i k r.length hf0 hf A w (kJ hW) _ (Or.inr ⟨hlen,hk.1,Or.inr ⟨xs,S,fun w' hb=>?_,rfl,fun g cp w' hb hcl=>by rw[hlen];exact hc g cp w' (hD.below hb) hcl⟩⟩)⟩;refine(n3 A 1 r.length w' (hD.below hb) (aX hA hb.size) (mm hW hA hb)).mono ?_;rintro e w2 ⟨v,rfl,ho,hb2⟩;obtain⟨g,cp,rfl,hg⟩:=Dj ho (by omega);rw[n1];exact⟨⟨g,cp,rfl,hg⟩,hb2⟩
 .exact⟨_,jB,fun A w hD hA hW=>yz _ i k r.length hf0 hf A w (kJ hW) _ (Or.inl ⟨hlen,rfl⟩)⟩
theorem Tk {xs:List Int}(h:∀x∈xs,U6 x) (m:Int):0<=mH xs m/\mH xs m<=18446744073709551615:=by
 unfold mH;split
 .exact KT xs h m
 .omega
theorem Xs (r:List (List UInt8)) (hl:∀s∈r,s.length<=100000) (hn:r.length<=100000):∃o,rA ([115,117,109]::r) o:=by
 cases r with
 |nil=>exact⟨_,jB,fun A w hD hA hW=>yc 0 (by omega) A w hD (kJ hW) _ (Or.inl ⟨rfl,rfl⟩)⟩
 |cons M r=>
  rw[ez]at hn;obtain⟨oN,hN⟩:=Cc r (fun s hs=>hl s (by simp [hs])) (by omega);obtain⟨oM,hm1,hm2⟩:=BY ⟨M.toArray⟩;have hM:∀ {A:Nat}{w:World},A<w.heap.size->Wr w A ([115,117,109]::M::r)->∀w',Below w.heap.size w w'->w'.cell? ⟨A,1,none⟩=some (.string ⟨M.toArray⟩):=fun hA hW w' hb=>mm hW hA hb 0 M rfl
  have hcl:∀ {A:Nat}{w w':World}(off:Nat),(0<r.length->off=2)->A<w.heap.size->Wr w A ([115,117,109]::M::r)->Below w.heap.size w w'->∀(j:Nat) s,r[j]?=some s->w'.cell? ⟨A,off+j,none⟩=some (dL s):=fun {A w w'} off ho hA hW hb j s hs=>by
   have hj:=(iH.1 hs).1;obtain rfl:=ho (by omega);have h:=mm hW hA hb (j+1) s (by simpa using hs);rw[show 2+j=1+(j+1) by omega];exact h
  rcases hm1 with⟨m,rfl,m0,m1⟩|rfl
  .cases oN with
   |none=>exact⟨_,jB,fun A w hD hA hW=>yc (r.length+1) (by omega) A w hD (kJ hW) _ (Or.inr ⟨r.length,_,rfl,hM hA hW,Or.inr ⟨m,hm2,Or.inl ⟨rfl,fun off w' ho hb=>hN A off r.length w' (hD.below hb) (aX hA hb.size) (hcl off ho hA hW hb)⟩⟩⟩)⟩
   |some xs=>
    obtain⟨n1,n2,n3⟩:=hN;have hb:=Tk n2 m;have he:0<=kE xs.length m/\kE xs.length m<=1000:=by unfold kE;split <;> (try split) <;> omega
    obtain⟨o,ho,hF⟩:=lj (mH xs m) (pY xs m) (kE xs.length m) hb.1 hb.2 he.1 he.2;refine⟨o,ho,fun A w hD hA hW=>yc (r.length+1) (by omega) A w hD (kJ hW) _ (Or.inr ⟨r.length,_,rfl,hM hA hW,Or.inr ⟨m,hm2,Or.inr ⟨xs,_,_,_,fun off w' ho hb=>?_,fun v w' hD' hv=>ac9 v xs m w' hD'.t32 hv,hF⟩⟩⟩)⟩;refine(n3 A off r.length w' (hD.below hb) (aX hA hb.size) (hcl off ho hA hW hb)).mono ?_;rintro e w2 ⟨v,rfl,ho2,hb2⟩;exact⟨⟨v,rfl,Ug ho2 n2⟩,hb2⟩
  .exact⟨_,jB,fun A w hD hA hW=>yc (r.length+1) (by omega) A w hD (kJ hW) _ (Or.inr ⟨r.length,_,rfl,hM hA hW,Or.inl ⟨rfl,hm2⟩⟩)⟩
def Be (f:Nat):Prop:= ∀x k m:Int,U6 x->∃(T:ByteArray) (C:Bool) (E:Int),Ln 15000 T/\(0<=E/\E<=1000)/\∀w,Dk w->Calls prog f #[.int .u64 x,.int .i64 k,.int .i64 m] w fun e w2=>e=.returned (.tuple #[.string T,.bool C,.int .i64 E])/\Below w.heap.size w w2
theorem W7:Be 48:=fun x k m hx=>
 ⟨_,_,_,nf (by have :=Ru k m hx.1 hx.2;omega) (zf x k m),(by unfold pP;split <;> (try split) <;> omega),fun w hD=>xQ x k m hx.1 hx.2 w hD.t32 hD.t10⟩
theorem WJ:Be 49:=fun x k m hx=>
 ⟨_,_,_,nf (by have :=Wc k m hx.1 hx.2;omega) (xq x k m),(by unfold p7;split <;> (try split) <;> omega),fun w hD=>xK x k m hx.1 hx.2 w hD.t32 hD.t10⟩
theorem UK (C:Bool):Ln 10 ⟨(jm C).toArray⟩:=Ln.of (by have :=vW C;omega) (by cases C <;> decide)
theorem Nq (nm:List UInt8) (f:Nat) (hf:((⟨nm.toArray⟩:ByteArray)=⟨#[102,105,120,101,100]⟩/\f=48)\/((⟨nm.toArray⟩:ByteArray)=⟨#[115,99,105]⟩/\f=49)) (hw:Be f) (r:List (List UInt8)) (hl:∀s∈r,s.length<=100000):∃o,rA (nm::r) o:=by
 have hnm:(⟨nm.toArray⟩:ByteArray)=⟨#[102,105,120,101,100]⟩\/(⟨nm.toArray⟩:ByteArray)=⟨#[115,99,105]⟩:=hf.imp And.left And.left
 suffices H:∃o,jO o/\∀(A:Nat) (w:World),Dk w->A<w.heap.size->Wr w A (nm::r)->∀a w',(0<r.length->a=some ⟨A,1,none⟩)->Below w.heap.size w w'->Calls prog 121 #[.string ⟨nm.toArray⟩,.slice a r.length r.length] w' (bG w' o) by
  obtain⟨o,ho,h⟩:=H;exact⟨o,ho,fun A w hD hA hW=>Ts _ hnm r.length A w (kJ hW) o (h A w hD hA hW)⟩
 by_cases hlen:r.length=3
 .match r,hlen,hl with
  | [a,b,c],_,hl=>
   obtain⟨oa,ha1,ha2⟩:=IL a (hl a (by simp));obtain⟨ob,hb1,hb2⟩:=VT b (hl b (by simp));obtain⟨oc,hc1,hc2⟩:=BY ⟨c.toArray⟩;have cells:∀ {A:Nat}{w w':World},A<w.heap.size->Wr w A (nm::[a,b,c])->Below w.heap.size w w'->w'.cell? ⟨A,1,none⟩=some (.string ⟨a.toArray⟩)/\w'.cell? ⟨A,2,none⟩=some (.string ⟨b.toArray⟩)/\w'.cell? ⟨A,3,none⟩=some (.string ⟨c.toArray⟩):=fun hA hW hb=>⟨mm hW hA hb 0 a rfl,mm hW hA hb 1 b rfl,mm hW hA hb 2 c rfl⟩
   have go:∀(o:Oc),(∀(w:World),Dk w->((o=.pan 5/\∀w',Below w.heap.size w w'->Calls prog 122 #[.string ⟨a.toArray⟩] w' (bG w' (.pan 5)))\/
    ∃x:Int,(∀w',Below w.heap.size w w'->Calls prog 122 #[.string ⟨a.toArray⟩] w' (bG w' (.ret (.int .u64 x))))/\
   ((o=.pan 5/\∀w',Below w.heap.size w w'->Calls prog 168 #[.string ⟨b.toArray⟩] w' (bG w' (.pan 5)))\/
    ∃k:Int,(∀w',Below w.heap.size w w'->Calls prog 168 #[.string ⟨b.toArray⟩] w' (bG w' (.ret (.int .i64 k))))/\
   ((o=.pan 5/\∀w',Calls prog 116 #[.string ⟨c.toArray⟩] w' fun e w2=>e=qw 5/\w2=w')\/
    ∃m:Int,(∀w',Calls prog 116 #[.string ⟨c.toArray⟩] w' fun e w2=>e=.returned (.int .i64 m)/\w2=w')/\
    ∃(T:ByteArray) (C:Bool) (E:Int),T.size<=100000/\(∀w',Below w.heap.size w w'->Calls prog f #[.int .u64 x,.int .i64 k,.int .i64 m] w' fun e w2=>e=.returned (.tuple #[.string T,.bool C,.int .i64 E])/\Below w'.heap.size w' w2)/\
     (((E !=0)=true/\o=.pan E)\/E=0/\o=.ret (.string (T++⟨(jm C).toArray⟩)))))))->jO o->∃o,jO o/\∀(A:Nat) (w:World),Dk w->A<w.heap.size->Wr w A (nm::[a,b,c])->∀a0 w',(0< [a,b,c].length->a0=some ⟨A,1,none⟩)->Below w.heap.size w w'->Calls prog 121 #[.string ⟨nm.toArray⟩,.slice a0 [a,b,c].length [a,b,c].length] w' (bG w' o):=fun o h ho=>
     ⟨o,ho,fun A w hD hA hW a0 w' h0 hb=>I9 _ f hf 3 A w' (aX hA hb.size) a0 3 o (Or.inr ⟨rfl,h0 (by simp),_,_,_,cells hA hW hb,h w' (hD.below hb)⟩)⟩
   rcases ha1 with⟨x,rfl,hx⟩|rfl
   .rcases hb1 with⟨k,rfl,_⟩|rfl
    .rcases hc1 with⟨m,rfl,_⟩|rfl
     .obtain⟨T,C,E,hT,hE,hc⟩:=hw x k m hx
      have base:∀(o:Oc),(((E !=0)=true/\o=.pan E)\/E=0/\o=.ret (.string (T++⟨(jm C).toArray⟩)))->jO o->_:=fun o h ho=>go o (fun w hD=>Or.inr ⟨x,fun w' hb=>ha2 _ w' rfl (hD.below hb),Or.inr ⟨k,fun w' hb=>hb2 _ w' rfl (hD.below hb).q,Or.inr ⟨m,hc2,T,C,E,ct hT.1 (by decide),fun w' hb=>hc w' (hD.below hb),h⟩⟩⟩) ho
      by_cases h0:E=0
      .exact base _ (Or.inr ⟨h0,rfl⟩) (Or.inl ⟨_,rfl,(hT.app (UK C) le0).le (by decide)⟩)
      .exact base _ (Or.inl ⟨by rw[lZ];exact h0,rfl⟩) (Eg hE.1 hE.2)
     .exact go _ (fun w hD=>Or.inr ⟨x,fun w' hb=>ha2 _ w' rfl (hD.below hb),Or.inr ⟨k,fun w' hb=>hb2 _ w' rfl (hD.below hb).q,Or.inl ⟨rfl,hc2⟩⟩⟩) jB
    .exact go _ (fun w hD=>Or.inr ⟨x,fun w' hb=>ha2 _ w' rfl (hD.below hb),Or.inl ⟨rfl,fun w' hb=>hb2 _ w' rfl (hD.below hb).q⟩⟩) jB
   .exact go _ (fun w hD=>Or.inl ⟨rfl,fun w' hb=>ha2 _ w' rfl (hD.below hb)⟩) jB
 .exact⟨_,jB,fun A w hD hA hW a w' h0 hb=>I9 _ f hf r.length A w' (aX hA hb.size) a r.length _ (Or.inl ⟨hlen,rfl⟩)⟩
theorem Ua (s:List UInt8):0<=lS s/\lS s<=1000:=by unfold lS;split <;> (try split) <;> (try split) <;> omega
theorem Sl (r:List (List UInt8)) (hl:∀s∈r,s.length<=100000):∃o,rA ([112,114,105,110,116]::r) o:=by
 by_cases hlen:r.length=2
 .match r,hlen,hl with
  | [a,b],_,hl=>
   obtain⟨ob,hb1,hb2⟩:=IL b (hl b (by simp));have ha:=hl a (by simp);have hp:∀w',Calls prog 20 #[.string ⟨a.toArray⟩] w' fun e w2=>e=.returned (.tuple #[(p9 a).v,.int .i64 (lS a)])/\Below w'.heap.size w' w2:=fun w'=>Sc a _ rfl (by omega) w'
   have he:=Ua a;generalize p9 a=F at hp;generalize lS a=E at hp he
   have go:∀(o:Oc),(∀(w:World),Dk w->((o=.pan 5/\∀w',Below w.heap.size w w'->Calls prog 122 #[.string ⟨b.toArray⟩] w' (bG w' (.pan 5)))\/
    ∃x:Int,(∀w',Below w.heap.size w w'->Calls prog 122 #[.string ⟨b.toArray⟩] w' (bG w' (.ret (.int .u64 x))))/\
     ∃(F:kH) (E:Int),(∀w',Calls prog 20 #[.string ⟨a.toArray⟩] w' fun e w2=>e=.returned (.tuple #[F.v,.int .i64 E])/\Below w'.heap.size w' w2)/\
     (((E !=0)=true/\o=.pan E)\/E=0/\∃(R:ByteArray) (E2:Int),R.size<=100000/\(∀w',Below w.heap.size w w'->Calls prog 9 #[F.v,.int .u64 x] w' fun e w2=>e=.returned (.tuple #[.string R,.int .i64 E2])/\Below w'.heap.size w' w2)/\
      (((E2 !=0)=true/\o=.pan E2)\/E2=0/\o=.ret (.string (⟨#[91]⟩++R++⟨#[93]⟩))))))->jO o->∃o,rA ([112,114,105,110,116]::[a,b]) o:=fun o h ho=>
     ⟨o,ho,fun A w hD hA hW=>Jq 2 A w hA (kJ hW) o (Or.inr ⟨rfl,_,_,⟨mm hW hA br0 0 a rfl,mm hW hA br0 1 b rfl⟩,h w hD⟩)⟩
   rcases hb1 with⟨x,rfl,hx⟩|rfl
   .by_cases hE:E=0
    .obtain⟨R,E2,hR,h2,hF⟩:=Vj F x hx.1 hx.2
     have base:∀(o:Oc),(((E2 !=0)=true/\o=.pan E2)\/E2=0/\o=.ret (.string (⟨#[91]⟩++R++⟨#[93]⟩)))->jO o->_:=fun o h ho=>go o (fun w hD=>Or.inr ⟨x,fun w' hb=>hb2 _ w' rfl (hD.below hb),F,E,hp,Or.inr ⟨hE,R,E2,ct hR.1 (by decide),fun w' hb=>hF w' (hD.below hb).t32 (hD.below hb).t10,h⟩⟩) ho
     rcases h2 with h2|h2
     .exact base _ (Or.inr ⟨h2,rfl⟩) (Or.inl ⟨_,rfl,(((Ln.of (s:=[91]) (ae 1) (by decide)).app hR le0).app (Ln.of (s:=[93]) (ae 1) (by decide)) le0).le (by decide)⟩)
     .exact base _ (Or.inl ⟨by rw[h2];decide,rfl⟩) (Eg (by omega) (by omega))
    .exact go _ (fun w hD=>Or.inr ⟨x,fun w' hb=>hb2 _ w' rfl (hD.below hb),F,E,hp,Or.inl ⟨by rw[lZ];exact hE,rfl⟩⟩) (Eg he.1 he.2)
   .exact go _ (fun w hD=>Or.inl ⟨rfl,fun w' hb=>hb2 _ w' rfl (hD.below hb)⟩) jB
 .exact⟨_,jB,fun A w hD hA hW=>Jq r.length A w hA (kJ hW) _ (Or.inl ⟨hlen,rfl⟩)⟩
theorem Wt (l:List (List UInt8)) (h0:l≠[]) (hl:∀s∈l,s.length<=100000) (hn:l.length<=100000):∃o,rA l o:=by
 cases l with
 |nil=>exact absurd rfl h0
 |cons nm r=>
  have hr:∀s∈r,s.length<=100000:=fun s hs=>hl s (by simp [hs])
  rw[ez]at hn;rcases Xx ⟨nm.toArray⟩ with h1|⟨i,k,hk,hf,hR⟩
  .rcases XQ ⟨nm.toArray⟩ with h2|⟨i,k,hk,hf,hP⟩
   .by_cases e1:nm=[115,117,109]
    .subst e1;exact Xs r hr (by omega)
    by_cases e2:nm=[102,105,120,101,100]
    .subst e2;exact Nq _ _ (Or.inl ⟨rfl,rfl⟩) W7 r hr
    by_cases e3:nm=[115,99,105]
    .subst e3;exact Nq _ _ (Or.inr ⟨rfl,rfl⟩) WJ r hr
    by_cases e4:nm=[112,114,105,110,116]
    .subst e4;exact Sl r hr
    have et:(⟨nm.toArray⟩:ByteArray).toList=nm:=by rw[ByteArray.toList_eq]
    refine⟨_,jB,fun A w hD hA hW=>Iv _ h1 h2 ?_ ?_ ?_ ?_ r.length A w (kJ hW)⟩ <;> rw[et,aH] <;> assumption
   .exact XM nm r hr i k hk h1 hf hP
  .exact T_ nm r hr i k hk hf hR
theorem SD (l:List (List UInt8)) (h0:l≠[]) (hl:∀s∈l,s.length<=100000) (hn:l.length<=100000):∃o,(10:UInt8) ∉ o/\oA l o:=by
 obtain⟨o,⟨S,rfl,hS⟩|⟨k,hk,rfl⟩,hc⟩:=Wt l h0 hl hn
 .refine⟨S.data.toList,hS.2,?_,fun w A hD hW hA=>?_⟩
  .have h1:=hS.1
   have h2:=size_eq S;omega
  .exact Et A l S.data.toList w (hc A _ (hD.alloc _) (by simp;omega) (uS hW hA _))
 .have hd:=qR (show k<=999999999 by omega)
  have h9:(Lib.decDigits 999999999).length=9:=by decide+kernel
  refine⟨lO k,fun h=>?_,by unfold lO;rw[ck];simp only[ez,Ac];omega,fun w A hD hW hA=>?_⟩
  .unfold lO at h
   rcases gF.1 h with h|h
   .exact absurd h (by decide)
   .exact absurd (n_.1 (qO k) 10 h) (by decide)
  .exact Jr A l k (by omega) w hD.t10 (hc A _ (hD.alloc _) (by simp;omega) (uS hW hA _))
open Classical in
noncomputable def ow (l:List (List UInt8)):List UInt8:=if h:∃o,(10:UInt8) ∉ o/\oA l o then h.choose else []
theorem ZV (l:List (List UInt8)):(10:UInt8) ∉ ow l:=by
 unfold ow;split
 .rename_i h;exact h.choose_spec.1
 .simp
theorem IU {t:List UInt8}(ht:t.length<=16384) {l:List (List UInt8)}(hl:l∈aY (aR 10 t)):oA l (ow l):=by
 have h:∃o,(10:UInt8) ∉ o/\oA l o:=by
  obtain⟨h0,h1⟩:=G9 t l hl;exact SD l h0 (fun s hs=>by have :=(h1 s hs).2;omega) (by have :=L_ t l hl;omega)
 unfold ow;rw[dif_pos h];exact h.choose_spec.2
noncomputable def gI (t:List UInt8):List UInt8:=if t.length<=16384/\(aY (aR 10 t)).length<=100 then runT ((aY (aR 10 t)).map ow) else qa
theorem tP (t:List UInt8) (S:ByteArray) (hS:S=⟨t.toArray⟩) (w:World) (hD:Dk w):Calls prog 16 #[.string S] w (fa w (gI t)):=by
 have hz:S.size=t.length:=by rw[hS];rfl
 by_cases hl:t.length<=16384
 .refine JU t S hS hl ((aY (aR 10 t)).map ow) (by rw[qK]) _ ?_ ?_ w hD
  .unfold gI
   by_cases h:(aY (aR 10 t)).length<=100
   .exact Or.inl ⟨h,by rw[aj ⟨hl,h⟩]⟩
   .exact Or.inr ⟨by omega,by rw[ag (fun g=>h g.2)]⟩
  .intro j l o h1 h2
   rw[Fh,h1]at h2;simp only[Option.map_some,rY]at h2;subst h2;exact IU hl (qI h1)
 .unfold gI
  rw[ag (fun g=>hl g.1)];exact ac4 S (by omega) w
