import Derived.Test.YtofdjfdnckmmmaaGreatDoorDk
import Derived.Test.YtofdjfdnckmmmaaGreatDoorDa
import Derived.Test.YtofdjfdnckmmmaaGreatDoorOv
set_option linter.all false
set_option maxHeartbeats 8000000
set_option maxRecDepth 100000
open Go.Proofs.Tryz
open Go.Lib (hid)
namespace Go.Proofs.YtofdjfdnckmmmaaGreatDoor
open Go.RowKit Nt
def o_ (o x k b n k0:Nat):Prop:=o*x^k=b^n/\0<o/\0<x/\o<2^k0/\(k≠0->x<2^k0)
theorem o_.start {b n k0:Nat}(hb:0<b) (h:b^n<2^k0):o_ 1 b n b n k0:=by
 have h1:0<b^n:=fN hb;refine⟨fP _,by omega,hb,by omega,fun hn=>?_⟩;exact de (Nat.le_self_pow hn b) h
theorem o_.step {o x k b n k0:Nat}(h:o_ o x k b n k0) (hk:k≠0) (hl:b^n<2^k0):o_ (if k%2=1 then o*x else o) (x*x) (k/2) b n k0:=by
 obtain⟨h1,h2,h3,h4,h5⟩:=h
 have e:(if k%2=1 then o*x else o)*(x*x)^(k/2)=b^n:=by
  rw[<-h1,<-Nat.pow_two,<-jU];split
  .rename_i hk1
   rw[aF,<-zX,show(2*(k/2)).succ=k by omega]
  .rw[show 2*(k/2)=k by omega]
 have ho:0<(if k%2=1 then o*x else o):=by split;exact fm h2 h3;exact h2
 have hx:0<x*x:=fm h3 h3;refine⟨e,ho,hx,?_,fun hk2=>?_⟩
 .have :(if k%2=1 then o*x else o)*1<=(if k%2=1 then o*x else o)*(x*x)^(k/2):=cZ _ (fN hx)
  omega
 .have h6:1*(x*x)<=(if k%2=1 then o*x else o)*(x*x)^(k/2):=eI ho (Nat.le_self_pow hk2 _)
  omega
theorem o_.fin {o x b n k0:Nat}(h:o_ o x 0 b n k0):o=b^n:=by have :=h.1;simpa using this
theorem If (b n k0:Nat) (w:World) (hb0:0<b) (hb:b<18446744073709551616) (hn:n<9223372036854775807) (h:b^n<2^k0) (hk0:k0<=1000000):
  Calls prog 65 #[.int .u64 (b:Int),.int .i64 (n:Int)] w (kn w (b^n)):=by
 have HL:Hid (b^n<2^k0/\True):=hid ⟨h,trivial⟩;have I0:=hid (o_.start (n:=n) (k0:=k0) hb0 h);have OF1:=hid (fun w'=>dU 1 (by omega) (by omega) w');have OF2:=hid (fun w'=>dU (b:Int) (by omega) (by omega) w');have TM:=hid (fun va vb a c w' (ha:NV w' va a) (hb:NV w' vb c) (hka:a<2^k0) (hkb:c<2^k0)=>kB va vb a c k0 w' ha hb hka hkb (by omega));simp only[gf]at OF2;obtain⟨R,hR⟩:∃R,R=b^n:=⟨_,rfl⟩;have HR:=hid hR;rw[<-hR];clear h hb hR;go_enter func65,ntmps65;go_wp2_with fail
 refine(OF1.out _).mono ?_;rintro e w1 ⟨v1,rfl,h1,hb1⟩;have N1:=hid h1;have B1:=hid hb1;clear h1 hb1;go_wp2_with fail
 refine(OF2.out _).mono ?_;rintro e w2 ⟨v2,rfl,h2,hb2⟩;have N2:=hid h2;have N3:=hid (N1.out.below hb2);have B2:=hid (af B1.out (Nat.le_refl _) hb2);clear h2 hb2;go_wp2_with fail
 go_wp2_with fail
 go_loopw [1,5,6] (fun nv ov xv wr=>∃k o x:Nat,k<=n/\nv=.int .i64 (k:Int)/\Hid (NV wr ov o)/\Hid (NV wr xv x)/\Hid (o_ o x k b n k0)/\Hid (Below w.heap.size w wr)) (fun nv _ _ _=>(intOf nv).toNat)
 case atStart=>exact⟨n,1,b,ae _,rfl,N3,N2,I0,B2⟩
 case round=>
  obtain⟨k,o,x,hk,rfl,HO,HX,HI,HB⟩:=hrel;clear N1 N2 N3 B1 B2 I0;by_cases hk0:k=0
  .subst hk0
   have e:=HI.out.fin;rw[<-HR.out]at e;rw[e]at HO;clear e;obtain⟨a1,n1,c1,rfl⟩:=HO.out.shape;go_wp2;go_ret;exact⟨_,rfl,HO.out,HB.out⟩
  .have hst:=HI.out.step hk0 HL.out.1
   have hxl:=HI.out.2.2.2.2 hk0;have hol:=HI.out.2.2.2.1;have LX:Hid (o<2^k0/\x<2^k0):=hid ⟨hol,hxl⟩;have hkp:(0:Int)<(k:Int):=by omega
   clear hxl hol;by_cases hk1:k%2=1
   .have hk2:(k:Int)%2=1:=by omega
    rw[aj hk1]at hst;have ST:=hid hst;clear hst hk1 hk0 HI;go_wp2_with fail
    refine(TM.out _ _ _ _ _ HO.out HX.out LX.out.1 LX.out.2).mono ?_;rintro e w3 ⟨v3,rfl,h3,hb3⟩;have N3:=hid h3;have X3:=hid (HX.out.below hb3);have B3:=hid (af HB.out (Nat.le_refl _) hb3);clear h3 hb3;go_wp2_with fail
    refine(TM.out _ _ _ _ _ X3.out X3.out LX.out.2 LX.out.2).mono ?_;rintro e w4 ⟨v4,rfl,h4,hb4⟩;have N4:=hid h4;have O4:=hid (N3.out.below hb4);have B4:=hid (af B3.out (Nat.le_refl _) hb4);clear h4 hb4;go_wp2;go_roundw
    case rel=>exact⟨k/2,o*x,x*x,by omega,by go_num,O4,N4,ST,B4⟩
    case measure=>simp [intOf] <;> omega
   .have hk2:(k:Int)%2=0:=by omega
    rw[ag hk1]at hst;have ST:=hid hst;clear hst hk1 hk0 HI;go_wp2_with fail
    refine(TM.out _ _ _ _ _ HX.out HX.out LX.out.2 LX.out.2).mono ?_;rintro e w4 ⟨v4,rfl,h4,hb4⟩;have N4:=hid h4;have O4:=hid (HO.out.below hb4);have B4:=hid (af HB.out (Nat.le_refl _) hb4);clear h4 hb4;go_wp2;go_roundw
    case rel=>exact⟨k/2,o,x*x,by omega,by go_num,O4,N4,ST,B4⟩
    case measure=>simp [intOf] <;> omega
open Go.RowKit Nt Fm Fl
theorem vU (n:Nat):10^n<2^(4*n+1):=by
 have h:10^n<=16^n:=wk (by omega) n;rw[show(16:Nat)=2^4 by decide,<-jU]at h;rw[bH];have :=az (4*n);omega
theorem Sw (n:Nat) (X:Int) (w:World) (hX:X=(n:Int)) (hn:n<=20000):
  Calls prog 65 #[.int .u64 10,.int .i64 X] w (kn w (10^n)):=by
 subst hX;have :=If 10 n (4*n+1) w (by omega) (by omega) (by omega) (vU n) (by omega)
 simpa using this
def OR (w:World) (B:Nat) (d:D) (t:Int):Prop:= ∃s vn vd,w.heap[B]?=some (.cells #[.bool d.neg,s,.int .i64 d.e,vn,vd] 167 (0,0))/\NV w vn (dN d t)/\NV w vd (dD d t)
theorem Ce (d:D) (t:Int) {kd:Nat}(h:d.m<2^kd):d.m*10^t.toNat<2^(kd+(4*t.toNat+1))/\dN d t<2^(kd+(4*t.toNat+1)+d.e.toNat):=by
 have h1:d.m*10^t.toNat<2^(kd+(4*t.toNat+1)):=by
  rw[aB];exact wm h (gn (vU _)) (az _)
 refine⟨h1,?_⟩;unfold dN;rw[aB 2 _ d.e.toNat];exact cS h1 (az _)
theorem En (v:Value) (d:D) (t:Int) (kd:Nat) (w:World) (hd:DV w v d) (hm:d.m<2^kd) (hkd:kd<=12800) (t0: -3000<=t) (t1:t<=3000) (e0: -20000<=d.e) (e1:d.e<=20000):
  Calls prog 78 #[v,.int .i64 t] w fun r w'=>∃B,r=.returned (.pointer (some ⟨B,0,none⟩))/\w.heap.size<=B/\OR w' B d t/\Below w.heap.size w w':=by
 obtain⟨s,rfl,hs⟩:=hd;obtain⟨sa,sn,sc,rfl⟩:=hs.shape;have HS:=hid hs;have PW:=hid (fun n X w' (hX:X=((n:Nat):Int)) (hn:n<=3000)=>Sw n X w' hX (by omega));have TM:=hid (fun vb w' (ha:NV w' (.slice sa sn sc) d.m) (hb:NV w' vb (10^t.toNat))=>kB _ vb d.m (10^t.toNat) (kd+(4*t.toNat+1)) w' ha hb (aX hm (aG (by omega) (by omega))) (aX (vU _) (aG (by omega) (by omega))) (by omega));have LF:=hid (fun va X w' (ha:NV w' va (d.m*10^t.toNat)) (hX:X=((d.e.toNat:Nat):Int))=>f_ va _ d.e.toNat (kd+(4*t.toNat+1)) X w' ha hX (Ce d t hm).1 (by omega) (by omega));have LG:=hid (fun va X w' (ha:NV w' va (10^(-t).toNat)) (hX:X=(((-d.e).toNat:Nat):Int))=>f_ va _ (-d.e).toNat (4*(-t).toNat+1) X w' ha hX (vU _) (by omega) (by omega));clear hs hm;go_enter func78,ntmps78;go_wp2_with fail
 obtain⟨V,hV⟩:∃V,V=w.alloc (.cells #[.bool d.neg,.slice sa sn sc,.int .i64 d.e] 68):=⟨_,rfl⟩;have XC:Hid (ax V w.heap.size 68 (.bool d.neg) (.slice sa sn sc) (.int .i64 d.e)):=hid (by rw[hV];exact ax.new w (.bool d.neg) (.slice sa sn sc) (.int .i64 d.e) 68);have B:Hid (Below w.heap.size w V):=hid (by rw[hV];exact(Below.refl _ _).alloc (Nat.le_refl _) _);replace HS:Hid (NV V (.slice sa sn sc) d.m):=hid (by rw[hV];exact HS.out.alloc _);rw[<-hV];clear hV;replace XC:=hid XC.out.drew;replace B:=hid B.out.drew;replace HS:=hid HS.out.drew;obtain⟨p0,p1,p2,-,-,-⟩:=XC.out.cells;refine wp_region_held_drew (S:=(fun w'=>w'.cell? ⟨w.heap.size,0,none⟩=some (.bool d.neg)/\w'.cell? ⟨w.heap.size,1,none⟩=some (.slice sa sn sc)/\w'.cell? ⟨w.heap.size,2,none⟩=some (.int .i64 d.e))) (by kernel_rfl) ⟨p0,p1,p2⟩ (fun hHeld=>?_);clear p0 p1 p2;refine wpAnyH_take (i:=0) (oi:=_) (v:=?_) rfl (by kernel_rfl) (by kernel_rfl) (by kernel_rfl) (fun _ _ _ h=>h) (Or.inl ⟨by rfl,?_⟩) (by assumption) ?_;rotate_left
 .intro w hSw
  try dsimp only at hSw
  go_simp;all_goals with_reducible rfl
 try simp only[Act.put,bj,bB,bg]
 refine wpAnyH_take (i:=1) (oi:=_) (v:=?_) rfl (by kernel_rfl) (by kernel_rfl) (by kernel_rfl) (fun _ _ _ h=>h) (Or.inl ⟨by rfl,?_⟩) (by assumption) ?_;rotate_left
 .intro w hSw
  try dsimp only at hSw
  go_simp;all_goals with_reducible rfl
 try simp only[Act.put,bj,bB,bg]
 refine wpAnyH_take (i:=2) (oi:=_) (v:=?_) rfl (by kernel_rfl) (by kernel_rfl) (by kernel_rfl) (fun _ _ _ h=>h) (Or.inl ⟨by rfl,?_⟩) (by assumption) ?_;rotate_left
 .intro w hSw
  try dsimp only at hSw
  go_simp;all_goals with_reducible rfl
 try simp only[Act.put,bj,bB,bg]
 refine wpAnyH_take (i:=3) (oi:=_) (v:=?_) rfl (by kernel_rfl) (by kernel_rfl) (by kernel_rfl) (fun _ _ _ h=>h) (Or.inl ⟨by rfl,?_⟩) (by assumption) ?_;rotate_left
 .intro w hSw
  try dsimp only at hSw
  go_simp;all_goals with_reducible rfl
 try simp only[Act.put,bj,bB,bg]
 refine wpAnyH_take (i:=4) (oi:=_) (v:=?_) rfl (by kernel_rfl) (by kernel_rfl) (by kernel_rfl) (fun _ _ _ h=>h) (Or.inl ⟨by rfl,?_⟩) (by assumption) ?_;rotate_left
 .intro w hSw
  try dsimp only at hSw
  go_simp;all_goals with_reducible rfl
 try simp only[Act.put,bj,bB,bg]
 refine wpAnyH_take (i:=7) (oi:=_) (v:=?_) rfl (by kernel_rfl) (by kernel_rfl) (by kernel_rfl) (fun _ _ _ h=>h) (Or.inl ⟨by rfl,?_⟩) (by assumption) ?_;rotate_left
 .intro w hSw
  try dsimp only at hSw
  go_simp;all_goals with_reducible rfl
 try simp only[Act.put,bj,bB,bg]
 refine wpAnyH_take (i:=8) (oi:=_) (v:=?_) rfl (by kernel_rfl) (by kernel_rfl) (by kernel_rfl) (fun _ _ _ h=>h) (Or.inl ⟨by rfl,?_⟩) (by assumption) ?_;rotate_left
 .intro w hSw
  try dsimp only at hSw
  go_simp;all_goals with_reducible rfl
 try simp only[Act.put,bj,bB,bg]
 refine wpAnyH_take (i:=9) (oi:=_) (v:=?_) rfl (by kernel_rfl) (by kernel_rfl) (by kernel_rfl) (fun _ _ _ h=>h) (Or.inl ⟨by rfl,?_⟩) (by assumption) ?_;rotate_left
 .intro w hSw
  try dsimp only at hSw
  go_simp;all_goals with_reducible rfl
 try simp only[Act.put,bj,bB,bg]
 refine wpAnyH_take (i:=11) (oi:=_) (v:=?_) rfl (by kernel_rfl) (by kernel_rfl) (by kernel_rfl) (fun _ _ _ h=>h) (Or.inl ⟨by rfl,?_⟩) (by assumption) ?_;rotate_left
 .intro w hSw
  try dsimp only at hSw
  go_simp;all_goals with_reducible rfl
 try simp only[Act.put,bj,bB,bg]
 refine wpAnyH_take (i:=12) (oi:=_) (v:=?_) rfl (by kernel_rfl) (by kernel_rfl) (by kernel_rfl) (fun _ _ _ h=>h) (Or.inl ⟨by rfl,?_⟩) (by assumption) ?_;rotate_left
 .intro w hSw
  try dsimp only at hSw
  go_simp;all_goals with_reducible rfl
 try simp only[Act.put,bj,bB,bg]
 refine wpAnyH_take (i:=13) (oi:=_) (v:=?_) rfl (by kernel_rfl) (by kernel_rfl) (by kernel_rfl) (fun _ _ _ h=>h) (Or.inl ⟨by rfl,?_⟩) (by assumption) ?_;rotate_left
 .intro w hSw
  try dsimp only at hSw
  go_simp;all_goals with_reducible rfl
 try simp only[Act.put,bj,bB,bg]
 refine wpAnyH_take (i:=15) (oi:=_) (v:=?_) rfl (by kernel_rfl) (by kernel_rfl) (by kernel_rfl) (fun _ _ _ h=>h) (Or.inl ⟨by rfl,?_⟩) (by assumption) ?_;rotate_left
 .intro w hSw
  try dsimp only at hSw
  go_simp;all_goals with_reducible rfl
 try simp only[Act.put,bj,bB,bg]
 refine wpAnyH_take (i:=16) (oi:=_) (v:=?_) rfl (by kernel_rfl) (by kernel_rfl) (by kernel_rfl) (fun _ _ _ h=>h) (Or.inl ⟨by rfl,?_⟩) (by assumption) ?_;rotate_left
 .intro w hSw
  try dsimp only at hSw
  go_simp;all_goals with_reducible rfl
 try simp only[Act.put,bj,bB,bg]
 refine wpAnyH_take (i:=17) (oi:=_) (v:=?_) rfl (by kernel_rfl) (by kernel_rfl) (by kernel_rfl) (fun _ _ _ h=>h) (Or.inl ⟨by rfl,?_⟩) (by assumption) ?_;rotate_left
 .intro w hSw
  try dsimp only at hSw
  go_simp;all_goals with_reducible rfl
 try simp only[Act.put,bj,bB,bg]
 refine wpAnyH_take (i:=18) (oi:=_) (v:=?_) rfl (by kernel_rfl) (by kernel_rfl) (by kernel_rfl) (fun _ _ _ h=>h) (Or.inl ⟨by rfl,?_⟩) (by assumption) ?_;rotate_left
 .intro w hSw
  try dsimp only at hSw
  go_simp;all_goals with_reducible rfl
 try simp only[Act.put,bj,bB,bg]
 refine wpAnyH_ready (rs:=[5]) (by kernel_rfl) (by simp) ?_;refine AllReadyH.cons (o:=_) rfl (fun K hK=>?_) AllReadyH.nil;go_simp;refine(PW.out t.toNat _ _ (by omega) (by omega)).mono ?_;rintro r w1 ⟨v1,rfl,hv,hb⟩;replace XC:=hid (XC.out.below hb);replace HS:=hid (HS.out.below hb);replace B:=hid (af B.out (Nat.le_refl _) hb);have NA:=hid hv;clear hv hb;refine hK.out _ _ (by(obtain⟨p0,p1,p2,-,-,-⟩:=XC.out.cells;exact⟨p0,p1,p2⟩)) (fun hHeld=>?_);clear hK K;try simp only[Act.put,bj,bB,bg]
 refine wpAnyH_ready (rs:=[6]) (by kernel_rfl) (by simp) ?_;refine AllReadyH.cons (o:=_) rfl (fun K hK=>?_) AllReadyH.nil;go_simp;refine(TM.out _ _ HS.out NA.out).mono ?_;rintro r w1 ⟨v1,rfl,hv,hb⟩;replace XC:=hid (XC.out.below hb);replace HS:=hid (HS.out.below hb);replace B:=hid (af B.out (Nat.le_refl _) hb);replace NA:=hid (NA.out.below hb);have NT:=hid hv;clear hv hb;refine hK.out _ _ (by(obtain⟨p0,p1,p2,-,-,-⟩:=XC.out.cells;exact⟨p0,p1,p2⟩)) (fun hHeld=>?_);clear hK K;try simp only[Act.put,bj,bB,bg]
 refine wpAnyH_ready (rs:=[10]) (by kernel_rfl) (by simp) ?_;refine AllReadyH.cons (o:=_) rfl (fun K hK=>?_) AllReadyH.nil;go_simp;refine(LF.out _ _ _ NT.out (by omega)).mono ?_;rintro r w1 ⟨v1,rfl,hv,hb⟩;obtain⟨al,nl,cl,rfl⟩:=hv.shape;replace XC:=hid (XC.out.below hb);replace HS:=hid (HS.out.below hb);replace B:=hid (af B.out (Nat.le_refl _) hb);replace NA:=hid (NA.out.below hb);replace NT:=hid (NT.out.below hb);have NL:=hid hv;clear hv hb;refine hK.out _ _ (by(obtain⟨p0,p1,p2,-,-,-⟩:=XC.out.cells;exact⟨p0,p1,p2⟩)) (fun hHeld=>?_);clear hK K;try simp only[Act.put,bj,bB,bg]
 refine wpAnyH_ready (rs:=[14]) (by kernel_rfl) (by simp) ?_;refine AllReadyH.cons (o:=_) rfl (fun K hK=>?_) AllReadyH.nil;go_simp;refine(PW.out (-t).toNat _ _ (by first|omega|(rw[IntWalk.i64_in _ (by omega)];omega)) (by omega)).mono ?_;rintro r w1 ⟨v1,rfl,hv,hb⟩;replace XC:=hid (XC.out.below hb);replace HS:=hid (HS.out.below hb);replace B:=hid (af B.out (Nat.le_refl _) hb);replace NA:=hid (NA.out.below hb);replace NT:=hid (NT.out.below hb);replace NL:=hid (NL.out.below hb);have NB:=hid hv;clear hv hb;refine hK.out _ _ (by(obtain⟨p0,p1,p2,-,-,-⟩:=XC.out.cells;exact⟨p0,p1,p2⟩)) (fun hHeld=>?_);clear hK K;try simp only[Act.put,bj,bB,bg]
 refine wpAnyH_ready (rs:=[19]) (by kernel_rfl) (by simp) ?_;refine AllReadyH.cons (o:=_) rfl (fun K hK=>?_) AllReadyH.nil;go_simp;refine(LG.out _ _ _ NB.out (by first|omega|(rw[IntWalk.i64_in _ (by omega)];omega))).mono ?_;rintro r w1 ⟨v1,rfl,hv,hb⟩;obtain⟨ar,nr,cr,rfl⟩:=hv.shape;replace XC:=hid (XC.out.below hb);replace HS:=hid (HS.out.below hb);replace B:=hid (af B.out (Nat.le_refl _) hb);replace NA:=hid (NA.out.below hb);replace NT:=hid (NT.out.below hb);replace NL:=hid (NL.out.below hb);replace NB:=hid (NB.out.below hb);have NR:=hid hv;clear hv hb;refine hK.out _ _ (by(obtain⟨p0,p1,p2,-,-,-⟩:=XC.out.cells;exact⟨p0,p1,p2⟩)) (fun hHeld=>?_);clear hK K;try simp only[Act.put,bj,bB,bg]
 refine wpAnyH_take (i:=20) (oi:=_) (v:=?_) rfl (by kernel_rfl) (by kernel_rfl) (by kernel_rfl) (fun _ _ _ h=>h) (Or.inl ⟨by rfl,?_⟩) (by assumption) ?_;rotate_left
 .intro w hSw
  try dsimp only at hSw
  go_simp;all_goals with_reducible rfl
 try simp only[Act.put,bj,bB,bg]
 clear NA NT NB;refine wpAnyH_ready (rs:=[21]) (by kernel_rfl) (by simp) ?_;refine AllReadyH.cons (o:=_) rfl (fun K hK=>?_) AllReadyH.nil;go_simp;refine hK.out _ _ (by(obtain⟨p0,p1,p2,-,-,-⟩:=(XC.out.alloc (.cells #[.bool d.neg,.slice sa sn sc,.int .i64 d.e,.slice al nl cl,.slice ar nr cr] 167)).cells;exact⟨p0,p1,p2⟩)) (fun hHeld=>?_);clear hK K;try simp only[Act.put,bj,bB,bg]
 refine wpAnyH_ready (rs:=[22]) (by kernel_rfl) (by simp) ?_;refine AllReadyH.cons (o:=_) rfl (fun K hK=>?_) AllReadyH.nil;go_simp;refine hK.out _ _ (by assumption) (fun hHeld=>?_);clear hK K;try simp only[Act.put,bj,bB,bg]
 refine wpAnyH_done (by kernel_rfl) ?_ _;go_wp2;go_ret;exact⟨w1.heap.size,rfl,B.out.size,⟨_,_,_,heap_alloc_new w1 _,NL.out.alloc _,NR.out.alloc _⟩,B.out.alloc B.out.size _⟩
end Go.Proofs.YtofdjfdnckmmmaaGreatDoor
namespace Go.Proofs.YtofdjfdnckmmmaaGreatDoor.Fm
def bF:Nat->Nat
 | 0=> 0
 |n+1=>if(bF n+1)*(bF n+1)<=n+1 then bF n+1 else bF n
theorem tT (n:Nat):GS n (bF n):=by
 induction n with
 |zero=>exact⟨by decide,by decide⟩
 |succ n ih=>
  obtain⟨h1,h2⟩:=ih;unfold bF;split
  .rename_i h
   refine⟨h,?_⟩;have e:(bF n+1+1)*(bF n+1+1)=(bF n+1)*(bF n+1)+(bF n+1)+(bF n+1)+1:=by simp only[a_,cP];omega
   omega
  .rename_i h
   exact⟨by omega,by omega⟩
theorem AN {m k:Nat}(h:m<2^k):bF m<2^((k+1)/2):=by
 have h1:=(tT m).1;rcases eJ (bF m) (2^((k+1)/2)) with h2|h2
 .exact h2
 .have h3:2^((k+1)/2)*2^((k+1)/2)<=bF m*bF m:=eI h2 h2
  rw[<-aB]at h3;have h4:2^k<=2^((k+1)/2+(k+1)/2):=aG (by decide) (by omega);omega
theorem H7 {a x:Nat}(hx:0<x):bF a<=(x+a/x)/2:=by
 have hr:=(tT a).1;generalize bF a=r at *
 have h:2*r-x<=a/x:=by
  rw[qF hx];refine ct ?_ hr;rcases eJ r x with h1|h1
  .obtain⟨d,rfl⟩:∃d,x=r+d:=⟨x-r,by omega⟩
   rcases eJ r d with h2|h2
   .rw[show 2*r-(r+d)=0 by omega];omega
   .obtain⟨e,rfl⟩:∃e,r=d+e:=⟨r-d,by omega⟩
    rw[show 2*(d+e)-(d+e+d)=e by omega];have h3:e*(d+e+d)=e*d+e*e+e*d:=by rw[cP,cP]
    have h4:(d+e)*(d+e)=d*d+e*d+(d*e+e*e):=by rw[cP,a_,a_]
    have h5:d*e=e*d:=aW _ _;omega
  .obtain⟨d,rfl⟩:∃d,r=x+d:=⟨r-x,by omega⟩
   rw[show 2*(x+d)-x=x+d+d by omega];have h3:(x+d+d)*x=x*x+d*x+d*x:=by rw[a_,a_]
   have h4:(x+d)*(x+d)=x*x+d*x+(x*d+d*d):=by rw[cP,a_,a_]
   have h5:x*d=d*x:=aW _ _;omega
 omega
theorem RO {a x:Nat}(hx:bF a<=x) (h0:0<x) (h:x<=(x+a/x)/2):x=bF a:=by
 have hr:=(tT a).2;rcases eJ (bF a) x with h1|h1
 .have h2:(bF a+1)*(bF a+1)<=x*x:=eI h1 h1
  have h3:a/x<x:=by rw[lU h0];omega
  omega
 .omega
theorem WW {a x:Nat}(ha:a≠0) (hx:0<x):0<(x+a/x)/2:=by
 have h:=H7 (a:=a) hx;have h1:=(tT a).2;rcases fl (bF a) with h2|h2
 .rw[h2]at h1;omega
 .omega
end Go.Proofs.YtofdjfdnckmmmaaGreatDoor.Fm
namespace Go.Proofs.YtofdjfdnckmmmaaGreatDoor
open Go.RowKit Nt Fm
theorem MD {w:World}{v:Value}{n:Nat}(h:NV w v n):(Classical.epsilon fun k=>NV w v k)=n:=
 NV.inj (z_ (p:=fun k=>NV w v k) ⟨n,h⟩) h
theorem Sn (w:World) (T:TypeId):NV (w.alloc (.cells #[.int .u32 1] T)) (.slice (some ⟨w.heap.size,0,none⟩) 1 1) 1:=by
 refine⟨[1],⟨aI.cons (by decide) aI.nil,by decide⟩,rfl,aI.cons (by decide) aI.nil,some ⟨w.heap.size,0,none⟩,1,rfl,by simp,by unfold maxLen;omega,Or.inr ⟨w.heap.size,0,rfl,by simp,?_⟩⟩;intro i hi
 match i,hi with
 | 0,_=>simp [go_sem]
theorem Dy {a k:Nat}(h:a<2^k):aC a<=k:=by
 unfold aC;split
 .omega
 .rename_i h0
  have :=(Oj h0).2 h;omega
theorem QQ (a:Nat):bF a<=2^((aC a+1)/2):=by
 have h:a<2^aC a:=by
  unfold aC;split
  .omega
  .exact EP
 exact gn (AN h)
theorem Wx (va:Value) (a k0:Nat) (w:World) (ha:NV w va a) (hka:a<2^k0) (hk0:k0<=900000):
  Calls prog 228 #[va] w (kn w (bF a)):=by
 obtain⟨l,hl,el,⟨-,aa,ca,hva,hca,hma,hA⟩,hll⟩:=ha.len hka;obtain⟨n,hn⟩:∃n,n=l.length:=⟨_,rfl⟩;rw[<-hn]at hva;subst hva;have HA:=hid ha;by_cases h0:n<=0
 .have ha0:a=0:=by rw[<-el,gp.1 (by omega:l.length=0)];rfl
  subst ha0;obtain rfl:n=0:=by omega
  clear hA hca hma hl el hll hn ha;go_enter func228,ntmps228;go_wp2;go_ret;exact⟨_,rfl,NV.nil _,Below.refl _ _⟩
 .have ha0:a≠0:=by
   intro h;rw[<-el]at h;have :=val_eq_zero hl h;subst this;simp at hn;omega
  have hn1:1<=n:=by omega
  have LEN:=hid (fun w' h=>lx (.slice aa n ca) a k0 w' h hka (by omega));have hbl:=Dy hka;obtain⟨sh,hsh⟩:∃sh,sh=(aC a+1)/2:=⟨_,rfl⟩;have hsh1:sh<=k0+1:=by omega
  have esh:((aC a:Int)+1)/2=(sh:Int):=by omega
  have X0:Hid (bF a<=2^sh/\0<2^sh/\2^sh<2^(k0+2)):=hid ⟨by rw[hsh];exact QQ a,az _,Fe (by decide) (by omega)⟩;have OV:=hid (fun xv x w' (h:NV w' (.slice aa n ca) a) (hx:NV w' xv x) (hx0:0<x)=>pV (.slice aa n ca) xv a x k0 w' h hx hx0 hka (by omega));have LE1:=hid (fun w' v (h:NV w' v 1)=>f_ v 1 sh 1 (sh:Int) w' h rfl (by decide) (by decide) (by omega));have HAQ:Hid (∀x,0<x->a/x<2^(k0+2)/\True):=hid (fun x hx=>⟨de (iG _ _) (wu hka (Fe (by decide) (by omega))),trivial⟩);have NE:=hid (fun x (h1:bF a<=x) (h2:0<x) h3=>RO (a:=a) h1 h2 h3);have NL:=hid (fun x (h:0<x)=>And.intro (H7 (a:=a) h) (WW (a:=a) ha0 h));clear ha hA hca hma hl el hll hn hka hbl hsh ha0 h0;go_enter func228,ntmps228;go_wp2_with fail
  refine(LEN.out _ (HA.out.alloc _)).mono ?_;rintro e w1 ⟨rfl,rfl⟩;go_wp2_with fail
  rw[show 2^sh=1*2^sh by omega]at X0;refine(LE1.out _ _ (Sn _ _)).mono ?_;rintro e w2 ⟨v2,rfl,h2,hb2⟩;have H2:=hid h2;have B2:=hid (af ((Below.refl w.heap.size w).alloc (Nat.le_refl _) _) (Nat.le_refl _) hb2);clear h2 hb2;go_wp2_with fail
  go_loopw [3] (fun xv wr=>∃x,Hid (NV wr xv x)/\Hid (bF a<=x/\0<x/\x<2^(k0+2))/\Hid (Below w.heap.size w wr)) (fun xv wr=>Classical.epsilon fun k=>NV wr xv k)
  case atStart=>exact⟨_,H2,X0,B2⟩
  case round=>
   obtain⟨x,HX,XF,BX⟩:=hrel;clear H2 X0 B2;go_wp2_with fail
   refine(OV.out u3 x wr (HA.out.below BX.out) HX.out XF.out.2.1).mono ?_;rintro e w3 ⟨vq,vr,rfl,hq,hr,hb⟩;have Q:=hid hq;have HX3:=hid (HX.out.below hb);have B3:=hid (af BX.out (Nat.le_refl _) hb);clear hq hr hb;go_wp2_with fail
   refine(gN _ _ x (a/x) (k0+2) _ HX3.out Q.out XF.out.2.2 (HAQ.out x XF.out.2.1).1 (by omega)).mono ?_;rintro e w4 ⟨v4,rfl,h4,hb⟩;have H4:=hid h4;have HX4:=hid (HX3.out.below hb);have B4:=hid (af B3.out (Nat.le_refl _) hb);clear h4 hb
   have hsum:Hid (x+a/x<2^(k0+3)/\True):=hid ⟨by
    have h1:=XF.out.2.2;have h2:=(HAQ.out x XF.out.2.1).1;rw[show k0+3=(k0+2)+1 by omega,bH];omega,trivial⟩
   go_wp2_with fail
   refine(rp _ (x+a/x) 1 (k0+3) 1 _ H4.out rfl hsum.out.1 (by omega) (by decide)).mono ?_;rintro e w5 ⟨v5,rfl,h5,hb⟩;rw[Nat.pow_one]at h5;obtain⟨y,hy⟩:∃y,y=(x+a/x)/2:=⟨_,rfl⟩;rw[<-hy]at h5;have FA:Hid (bF a<=y/\0<y/\(x<=y->x=bF a)):=hid (by rw[hy];exact⟨(NL.out x XF.out.2.1).1,(NL.out x XF.out.2.1).2,fun h=>NE.out x XF.out.1 XF.out.2.1 h⟩);have H5:=hid h5;have HX5:=hid (HX4.out.below hb);have B5:=hid (af B4.out (Nat.le_refl _) hb);clear h5 hb hy;have CM:=hid (jF _ _ y x _ H5.out HX5.out)
   have hsg:(x<=y/\0<=aK (y:Int) (x:Int))\/(y<x/\aK (y:Int) (x:Int)<0):=by
    unfold aK;rcases eJ y x with h|h
    .right;rw[aj (by omega)];exact⟨h,by decide⟩
    .left;rw[ag (by omega)];refine⟨h,?_⟩;split <;> decide
   generalize aK (y:Int) (x:Int)=sg at *;go_wp2_with fail
   refine CM.out.mono ?_;clear CM;rintro e w6 ⟨rfl,n6,rfl⟩;rcases hsg with⟨hyx,hsg⟩|⟨hyx,hsg⟩
   .have EX:Hid (x=bF a/\True):=hid ⟨FA.out.2.2 hyx,trivial⟩
    clear hyx;go_wp2;go_ret;exact⟨_,rfl,by rw[<-EX.out.1];exact HX5.out.drewN _,dh B5.out⟩
   .have hlt:Hid (y<x/\True):=hid ⟨hyx,trivial⟩
    clear hyx;go_wp2;go_roundw
    case rel=>exact⟨y,hid (H5.out.drewN _),hid ⟨FA.out.1,FA.out.2.1,wu hlt.out.1 XF.out.2.2⟩,hid (dh B5.out)⟩
    case measure=>
     rw[MD (H5.out.drewN _),MD HX.out];exact hlt.out.1
