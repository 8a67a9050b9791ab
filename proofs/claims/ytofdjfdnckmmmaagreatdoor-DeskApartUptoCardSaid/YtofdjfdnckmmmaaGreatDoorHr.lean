import Derived.Test.YtofdjfdnckmmmaaGreatDoorHm
import Derived.Shelf.Small.Wraps
import Derived.Shelf.Strconv.Atoi
import Derived.Lib.AtoiBound
import Derived.Test.YtofdjfdnckmmmaaGreatDoorLk
set_option linter.all false
set_option maxHeartbeats 16000000
set_option maxRecDepth 100000
open Go.Proofs.Tryz
open Go.Lib (hid decDigits hasPrefix trimPrefix)
namespace Go.Proofs.YtofdjfdnckmmmaaGreatDoor
open Go.Shelf Go.RowKit Go.Lib Nt
theorem Tryz.laysCutPrefix:Go.Proofs.Lays.n103 prog Tryz.RN:= { Tryz.laysRepeat with
 f103:=aA func45 (by kernel_rfl)
 f210:=aA func76 (by kernel_rfl)
 t24:=underlying82
 a24:=isAgg82
 z24:=sizeOf82
 v24:=zeroValue82 }
theorem Tryz.laysHasPrefix:Go.Proofs.Lays.n99 prog Tryz.RN:= { Tryz.laysRepeat with
 }
theorem Tryz.laysAtoi:Go.Proofs.Lays.n172 prog Tryz.RN:= { Tryz.laysItoa,Tryz.laysRepeat,Tryz.laysTrimLeft with
 f172:=aA func92 (by kernel_rfl)
 f205:=aA func220 (by kernel_rfl)
 f244:=aA func132 (by kernel_rfl)
 f245:=aA func133 (by kernel_rfl)
 f247:=aA func177 (by kernel_rfl)
 f279:=aA func178 (by kernel_rfl)
 f280:=aA func179 (by kernel_rfl)
 f281:=aA func180 (by kernel_rfl)
 f282:=aA func181 (by kernel_rfl)
 f287:=aA func140 (by kernel_rfl)
 f316:=aA func219 (by kernel_rfl)
 f321:=aA func185 (by kernel_rfl)
 f322:=aA func186 (by kernel_rfl)
 t85:=underlying190
 a85:=isAgg190
 z85:=sizeOf190
 v85:=zeroValue190
 t143:=underlying249
 a143:=isAgg249
 z143:=sizeOf249
 v143:=zeroValue249
 t145:=underlying251
 a145:=isAgg251
 z145:=sizeOf251
 v145:=zeroValue251
 t167:=underlying189
 a167:=isAgg189
 z167:=sizeOf189
 v167:=zeroValue189
 t168:=underlying192
 a168:=isAgg192
 z168:=sizeOf192
 v168:=zeroValue192
 t175:=underlying145
 a175:=isAgg145
 z175:=sizeOf145
 v175:=zeroValue145
 t210:=underlying231
 a210:=isAgg231
 z210:=sizeOf231
 v210:=zeroValue231
 g15:=by kernel_rfl
 g16:=by kernel_rfl }
theorem Ly:Tryz.RN.f 103=45:=by kernel_rfl
theorem Wv:Tryz.RN.f 99=55:=by kernel_rfl
theorem Rk:Tryz.RN.f 172=92:=by kernel_rfl
theorem QA:Tryz.RN.t 5=5:=by kernel_rfl
theorem qB (s p:List UInt8) (S:ByteArray) (hS:S=⟨s.toArray⟩) (w:World):
  Calls prog 45 #[.string S,.string ⟨p.toArray⟩] w fun e w'=>e=.returned (.tuple #[.string ⟨(trimPrefix s p).toArray⟩,.bool (hasPrefix s p)])/\w=w':=by
 have h:=Any.strings_CutPrefix Tryz.laysCutPrefix S ⟨p.toArray⟩ w;rw[Ly]at h;rw[hS]at h ⊢;exact h.mono fun e w' k=>⟨k.1,k.2.symm⟩
theorem zw (s p:List UInt8) (S:ByteArray) (hS:S=⟨s.toArray⟩) (w:World):
  Calls prog 55 #[.string S,.string ⟨p.toArray⟩] w fun e w'=>e=.returned (.bool (hasPrefix s p))/\w=w':=by
 have h:=Any.strings_HasPrefix Tryz.laysHasPrefix S ⟨p.toArray⟩ w;rw[Wv]at h;rw[hS]at h ⊢;exact h.mono fun e w' k=>⟨k.1,k.2.symm⟩
def aM (a:Nat):List UInt8->Nat
 | []=>a
 |c::l=>aM (a*10+(c.toNat-48)) l
theorem LR:∀(l:List UInt8) (a:Nat),(∀c∈l,cF c)->Lib.decFrom a l=some (aM a l)
 | [],a,_=>rfl
 |c::l,a,h=>by
  have hc:=h c (by simp);unfold cF at hc;have hd:Lib.digitVal c=some (c.toNat-48):=by unfold Lib.digitVal;simp [hc.1,hc.2]
  rw[Lib.decFrom,hd];exact LR l _ (fun d hd=>h d (by simp [hd]))
theorem Xr {l:List UInt8}(hl:l≠[]) (h:∀c∈l,cF c):Lib.atoi l=some ((aM 0 l:Nat):Int):=by
 cases l with
 |nil=>exact absurd rfl hl
 |cons c r=>
  have hc:=h c (by simp);have h1:(c==45)=false:=by rw[aH];exact(Xk hc).2.2
  have h2:(c==43)=false:=by rw[aH];intro e;subst e;revert hc;unfold cF;decide
  have h3:Lib.decNat (c::r)=some (aM 0 (c::r)):=by
   rw[show Lib.decNat (c::r)=Lib.decFrom 0 (c::r) from rfl,LR _ 0 h]
  simp [Lib.atoi,h1,h2,h3]
theorem Bj (l:List UInt8) (S:ByteArray) (hS:S=⟨l.toArray⟩) (hl:l≠[]) (h:∀c∈l,cF c) (h18:l.length<=18) (w:World):
  Calls prog 92 #[.string S] w fun e w'=>e=.returned (.tuple #[.int .i64 ((aM 0 l:Nat):Int),.nilIface])/\Below w.heap.size w w':=by
 have hd:S.data.toList=l:=by rw[hS]
 have hz:S.size=l.length:=by rw[hS];rfl
 have h:=Any.strconv_Atoi Tryz.laysAtoi S ((aM 0 l:Nat):Int) (by omega) (by rw[hd];exact Xr hl h) w;rw[Rk,QA]at h;refine h.mono ?_;rintro e w' ⟨rfl,t,rfl⟩;exact⟨rfl,vH w _ t⟩
def eO:List UInt8:=[48,49,50,51,52,53,54,55,56,57,97,98,99,100,101,102]
def bK:List UInt8:=[48,49,50,51,52,53,54,55,56,57]
structure rI (s t1 t2 whole t3 r part t4 t5 t6 power rest:List UInt8) (neg ok pt p down up:Bool):Prop where
 h1:t1=trimPrefix s [45]
 n1:neg=hasPrefix s [45]
 h2:t2=trimPrefix t1 [48,120]
 n2:ok=hasPrefix t1 [48,120]
 hw:whole=t2.takeWhile (eO.contains ·)
 h3:t3=t2.dropWhile (eO.contains ·)
 hr:r=trimPrefix t3 [46]
 np:pt=hasPrefix t3 [46]
 hp:part=if pt=true then r.takeWhile (eO.contains ·) else []
 h4:t4=if pt=true then r.dropWhile (eO.contains ·) else t3
 h5:t5=trimPrefix t4 [112]
 n5:p=hasPrefix t4 [112]
 nd:down=hasPrefix t5 [45]
 nu:up=hasPrefix t5 [43]
 h6:t6=if(down || up)=true then t5.drop 1 else t5
 hq:power=t6.takeWhile (bK.contains ·)
 he:rest=t6.dropWhile (bK.contains ·)
def jH (whole part power rest:List UInt8) (ok p:Bool):Bool:= !ok || !p || (whole++part).isEmpty || power.isEmpty || decide (5<power.length) || !rest.isEmpty
theorem og {p:UInt8->Bool} :∀ {l:List UInt8}{c:UInt8},c∈l.takeWhile p->p c=true
 | [],_,h=>by simp at h
 |d::l,c,h=>by
  by_cases hd:p d=true
  .rw[wj hd,iI]at h
   rcases h with rfl|h
   .exact hd
   .exact og h
  .rw[uk hd]at h;simp at h
theorem pg:∀(l:List UInt8) (a:Nat),(∀c∈l,cF c)->aM a l<(a+1)*10^l.length:=by
 intro l
 induction l with
 |nil=>intro a _;show a<(a+1)*1;omega
 |cons c l ih=>
  intro a h;have h1:=ih (a*10+(c.toNat-48)) (fun d hd=>h d (n8 _ hd));have h2:=h c (mT ..);unfold cF at h2
  show aM (a*10+(c.toNat-48)) l<(a+1)*10^(l.length+1)
  have h3:(a*10+(c.toNat-48)+1)*10^l.length<=((a+1)*10)*10^l.length:=bR _ (by omega);have h4:(a+1)*10^(l.length+1)=((a+1)*10)*10^l.length:=by rw[bH,aW (10^l.length),aF]
  rw[h4];exact aX h1 h3
theorem oz (s p:List UInt8):(trimPrefix s p).length<=s.length:=by
 unfold trimPrefix;split
 .rw[mS];omega
 .omega
theorem rE {p:UInt8->Bool}(l:List UInt8):(l.takeWhile p).length<=l.length:=(On p).length_le
theorem wO {s:List UInt8}{c:UInt8}(h:hasPrefix s [c]=true):1<=s.length:=by
 cases s with
 |nil=>simp [hasPrefix,List.isPrefixOf]at h
 |cons d l=>simp
theorem po (l:List UInt8) (S:ByteArray) (hS:S=⟨l.toArray⟩):S.toList.isEmpty=l.isEmpty:=by rw[Lib.toList_data,hS]
def EE (w:World) (bad neg:Bool) (d:List UInt8) (k:Int) (e:Ending) (w':World):Prop:=
 e=.returned (.tuple #[.bool (!bad && neg),.string ⟨(if bad=true then [] else d).toArray⟩,.int .i64 (if bad=true then 0 else k),.bool (!bad)])/\Below w.heap.size w w'
theorem XP {s t1 t2 whole t3 r part t4 t5 t6 power rest:List UInt8}{neg ok pt p down up:Bool}(H:rI s t1 t2 whole t3 r part t4 t5 t6 power rest neg ok pt p down up) (S:ByteArray) (hS:S=⟨s.toArray⟩) (hsl:s.length<=2000) (w:World):
  Calls prog 216 #[.string S] w (EE w (jH whole part power rest ok p) neg (whole++part) ((if down=true then -((aM 0 power:Nat):Int) else((aM 0 power:Nat):Int))-4*(part.length:Int))):=by
 obtain⟨h1,n1,h2,n2,hw,h3,hr,np,hp,h4,h5,n5,nd,nu,h6,hq,he⟩:=H;have l1:=oz s [45];have l2:=oz t1 [48,120];have l3:=nQ (p:=(eO.contains ·)) t2
 have lw:=rE (p:=(eO.contains ·)) t2
 have lr:=oz t3 [46];have lr1:=nQ (p:=(eO.contains ·)) r
 have lr2:=rE (p:=(eO.contains ·)) r
 have l5:=oz t4 [112];rw[<-h1]at l1;rw[<-h2]at l2;rw[<-h3]at l3;rw[<-hw]at lw;rw[<-hr]at lr;rw[<-h5]at l5;have lp:part.length<=r.length:=by rw[hp];split;exact lr2;simp
 have l4:t4.length<=t3.length:=by rw[h4];split;omega;omega
 have cV:∀c∈power,cF c:=by
  intro c hc;rw[hq]at hc;have :=og hc;unfold bK at this;unfold cF;simp at this;rcases this with rfl|rfl|rfl|rfl|rfl|rfl|rfl|rfl|rfl|rfl <;> decide
 obtain⟨T1,e1⟩:∃T:ByteArray,T=⟨t1.toArray⟩:=⟨_,rfl⟩;obtain⟨T2,e2⟩:∃T:ByteArray,T=⟨t2.toArray⟩:=⟨_,rfl⟩;obtain⟨W,eW⟩:∃T:ByteArray,T=⟨whole.toArray⟩:=⟨_,rfl⟩;obtain⟨T3,e3⟩:∃T:ByteArray,T=⟨t3.toArray⟩:=⟨_,rfl⟩;obtain⟨Rr,eR⟩:∃T:ByteArray,T=⟨r.toArray⟩:=⟨_,rfl⟩;obtain⟨PP,eP⟩:∃T:ByteArray,T=⟨part.toArray⟩:=⟨_,rfl⟩;obtain⟨T4,e4⟩:∃T:ByteArray,T=⟨t4.toArray⟩:=⟨_,rfl⟩;obtain⟨T5,e5⟩:∃T:ByteArray,T=⟨t5.toArray⟩:=⟨_,rfl⟩;obtain⟨T6,e6⟩:∃T:ByteArray,T=⟨t6.toArray⟩:=⟨_,rfl⟩;obtain⟨Q,eQ⟩:∃T:ByteArray,T=⟨power.toArray⟩:=⟨_,rfl⟩;obtain⟨E,eE⟩:∃T:ByteArray,T=⟨rest.toArray⟩:=⟨_,rfl⟩;have C1:=hid (fun w'=>qB s [45] S hS w');rw[<-h1,<-n1,<-e1]at C1;have C2:=hid (fun w'=>qB t1 [48,120] T1 e1 w');rw[<-h2,<-n2,<-e2]at C2;have C3:=hid (fun w'=>Bx t2 T2 e2 eO ⟨#[48,49,50,51,52,53,54,55,56,57,97,98,99,100,101,102]⟩ rfl (by decide) (by decide) (by omega) w');rw[<-hw,<-h3,<-eW,<-e3]at C3;have C4:=hid (fun w'=>qB t3 [46] T3 e3 w');rw[<-hr,<-np,<-eR]at C4;have C5:=hid (fun w'=>Bx r Rr eR eO ⟨#[48,49,50,51,52,53,54,55,56,57,97,98,99,100,101,102]⟩ rfl (by decide) (by decide) (by omega) w');have C6:=hid (fun w'=>qB t4 [112] T4 e4 w');rw[<-h5,<-n5,<-e5]at C6;have C7:=hid (fun w'=>zw t5 [45] T5 e5 w');rw[<-nd]at C7;have C8:=hid (fun w'=>zw t5 [43] T5 e5 w');rw[<-nu]at C8;have hl6:t6.length<=2000:=by rw[h6];split;(rw[mS];omega);omega
 have C9:=hid (fun w'=>Bx t6 T6 e6 bK ((⟨#[48,49,50,51,52,53,54,55,56,57,97,98,99,100,101,102]⟩:ByteArray).extract 0 10) (Pa bK [97,98,99,100,101,102] 10 rfl) (by decide) (by decide) (by omega) w');rw[<-hq,<-he,<-eQ,<-eE]at C9;have CA:=hid (fun w' (k1:power≠[]) (k2:power.length<=5)=>Bj power Q eQ k1 cV (by omega) w')
 have zW:W.size<=2000:=by
  have :W.size=whole.length:=by rw[eW];rfl
  omega
 have zP:PP.size=part.length:=by rw[eP];rfl
 have zQ:Q.size=power.length:=by rw[eQ];rfl
 have z5:T5.size=t5.length:=by rw[e5];rfl
 obtain⟨WP,eWP⟩:∃T:ByteArray,W++PP=T:=⟨_,rfl⟩;have eWP2:WP=⟨(whole++part).toArray⟩:=by rw[<-eWP];exact qZ _ _ eW eP
 have m1:=po _ _ eWP2;have m2:=po _ _ eQ;have m3:=po _ _ eE
 have A5:Hid (pt=true->∀w',Calls prog 238 #[.string Rr,.string ⟨#[48,49,50,51,52,53,54,55,56,57,97,98,99,100,101,102]⟩] w' fun e w2=>e=.returned (.tuple #[.string PP,.string T4])/\Below w'.heap.size w' w2):=hid (fun h w'=>by
  have k1:part=r.takeWhile (eO.contains ·):=by rw[hp,aj h]
  have k2:t4=r.dropWhile (eO.contains ·):=by rw[h4,aj h]
  rw[eP,e4,k1,k2];exact C5.out w')
 have A5':Hid (pt=false->PP=⟨#[]⟩/\T4=T3):=hid (fun h=>by
  have k1:part=[]:=by rw[hp,h];rfl
  have k2:t4=t3:=by rw[h4,h];rfl
  exact⟨by rw[eP,k1],by rw[e4,e3,k2]⟩)
 have A6:Hid ((down || up)=true->(1:Int)<=((t5.length:Nat):Int)/\T5.extract 1 t5.length=T6):=hid (fun h=>by
  have k1:1<=t5.length:=by
   rcases jR _ _ ▸ h with k|k
   .exact wO (nd.symm.trans k)
   .exact wO (nu.symm.trans k)
  have k2:t6=t5.drop 1:=by rw[h6,aj h]
  refine⟨by omega,?_⟩;rw[e6,k2,e5];apply eK;simp [ir];exact dI (by simp))
 have A6':Hid ((down || up)=false->T6=T5):=hid (fun h=>by
  have k2:t6=t5:=by rw[h6,h];rfl
  rw[e6,e5,k2])
 have hdn:Hid (power.length<=5->aM 0 power<=99999):=hid (fun h=>by
  have k1:=pg power 0 cV;have k2:(10:Nat)^power.length<=10^5:=aG (by omega) h;have k3:(10:Nat)^5=100000:=by decide
  omega)
 have HNE:Hid (power.isEmpty=false->power≠[]):=hid (fun h k=>by rw[k]at h;simp at h);have HD:Hid (⟨(whole++part).toArray⟩=WP):=hid eWP2.symm;obtain⟨bad,hbad⟩:∃bad,bad=jH whole part power rest ok p:=⟨_,rfl⟩;unfold EE;rw[<-hbad];unfold jH at hbad;have B:Hid (Below w.heap.size w w):=hid br0;generalize (whole++part).isEmpty=b1 at *;generalize hb2:power.isEmpty=b2 at *;generalize rest.isEmpty=b4 at *;generalize hql:power.length=ql at *;generalize aM 0 power=dn at *;generalize t5.length=n5l at *;generalize part.length=pl at *;have hpl:pl<=2000:=by omega
 clear h1 n1 h2 n2 hw h3 hr np hp h4 h5 n5 nd nu h6 hq he l1 l2 l3 lw lr lr1 lr2 l5 lp l4 cV e1 e2 eW e3 eR eP e4 e5 e6 eQ eE hl6 hS eWP2 C5;by_cases hgood:ok=true/\p=true/\b1=false/\b2=false/\¬5<ql/\b4=true
 .obtain⟨rfl,rfl,rfl,rfl,h5q,rfl⟩:=hgood
  obtain rfl:bad=false:=by rw[hbad];simp [h5q]
  replace CA:=hid (fun w'=>CA.out w' (HNE.out rfl) (by omega));have hdi:=hdn.out (by omega);have hdi2:(dn:Int)<=99999:=by omega
  have hpi2:(pl:Int)<=2000:=by omega
  have hw1:IntKind.i64.wrap (-(dn:Int))= -(dn:Int):=IntWalk.i64_in _ (by omega);have hw2:IntKind.i64.wrap (4*(pl:Int))=4*(pl:Int):=IntWalk.i64_in _ (by omega);have hw3:IntKind.i64.wrap ((dn:Int)-4*(pl:Int))=(dn:Int)-4*(pl:Int):=IntWalk.i64_in _ (by omega);have hw4:IntKind.i64.wrap (-(dn:Int)-4*(pl:Int))= -(dn:Int)-4*(pl:Int):=IntWalk.i64_in _ (by omega);clear hbad hdn hdi;simp only[ga,e9,Bool.not_false,zK];cases pt
  all_goals first
   |(obtain⟨rfl,rfl⟩:=A5'.out rfl;clear A5)
   |replace A5:=hid (A5.out rfl)
  all_goals
   cases down
   all_goals
    cases up
    all_goals first
     |(obtain rfl:=A6'.out rfl;clear A6)
     |(obtain⟨hx1,hx2⟩:=A6.out rfl;clear A6)
    all_goals
     go_enter func216,ntmps216
     go_wp2_with (first
      |(go_at_call 45;first
        |((with_reducible refine(C1.out _).mono ?_);rintro e w1 ⟨rfl,rfl⟩)
        |((with_reducible refine(C2.out _).mono ?_);rintro e w1 ⟨rfl,rfl⟩)
        |((with_reducible refine(C4.out _).mono ?_);rintro e w1 ⟨rfl,rfl⟩)
        |((with_reducible refine(C6.out _).mono ?_);rintro e w1 ⟨rfl,rfl⟩))
      |(go_at_call 238;first
        |((with_reducible refine(C3.out _).mono ?_);rintro e w1 ⟨rfl,hb⟩;replace B:=bt0 B hb;clear hb)
        |((with_reducible refine(A5.out _).mono ?_);rintro e w1 ⟨rfl,hb⟩;replace B:=bt0 B hb;clear hb)
        |((with_reducible refine(C9.out _).mono ?_);rintro e w1 ⟨rfl,hb⟩;replace B:=bt0 B hb;clear hb))
      |(go_at_call 55;first
        |((with_reducible refine(C7.out _).mono ?_);rintro e w1 ⟨rfl,rfl⟩)
        |((with_reducible refine(C8.out _).mono ?_);rintro e w1 ⟨rfl,rfl⟩))
      |(go_at_call 92;refine(CA.out _).mono ?_;rintro e w1 ⟨rfl,hb⟩;replace B:=bt0 B hb;clear hb))
     refine bodyPost_ret (v:= .tuple #[.bool neg,.string WP,.int .i64 _,.bool true]) (by simp [results,Tryz.results216,go_sem];rfl) rfl ?_;exact⟨by rw[HD.out],B.out⟩
 .have hb6:(!ok || !p || b1 || b2 || decide (5<ql) || !b4)=true:=by
   rcases Bool.eq_false_or_eq_true (!ok || !p || b1 || b2 || decide (5<ql) || !b4) with h|h
   .exact h
   .exfalso;apply hgood;simpa [and_assoc] using h
  obtain rfl:bad=true:=hbad.trans hb6;clear hbad hdn hgood CA HNE HD;simp only[cQ,Bool.not_true,Oo];cases pt
  all_goals first
   |(obtain⟨rfl,rfl⟩:=A5'.out rfl;clear A5)
   |replace A5:=hid (A5.out rfl)
  all_goals
   cases down
   all_goals
    cases up
    all_goals first
     |(obtain rfl:=A6'.out rfl;clear A6)
     |(obtain⟨hx1,hx2⟩:=A6.out rfl;clear A6)
    all_goals
     go_enter func216,ntmps216
     go_wp2_with (first
      |(go_at_call 45;first
        |((with_reducible refine(C1.out _).mono ?_);rintro e w1 ⟨rfl,rfl⟩)
        |((with_reducible refine(C2.out _).mono ?_);rintro e w1 ⟨rfl,rfl⟩)
        |((with_reducible refine(C4.out _).mono ?_);rintro e w1 ⟨rfl,rfl⟩)
        |((with_reducible refine(C6.out _).mono ?_);rintro e w1 ⟨rfl,rfl⟩))
      |(go_at_call 238;first
        |((with_reducible refine(C3.out _).mono ?_);rintro e w1 ⟨rfl,hb⟩;replace B:=bt0 B hb;clear hb)
        |((with_reducible refine(A5.out _).mono ?_);rintro e w1 ⟨rfl,hb⟩;replace B:=bt0 B hb;clear hb)
        |((with_reducible refine(C9.out _).mono ?_);rintro e w1 ⟨rfl,hb⟩;replace B:=bt0 B hb;clear hb))
      |(go_at_call 55;first
        |((with_reducible refine(C7.out _).mono ?_);rintro e w1 ⟨rfl,rfl⟩)
        |((with_reducible refine(C8.out _).mono ?_);rintro e w1 ⟨rfl,rfl⟩))
      |(go_at_call 92;exfalso;have hq5:decide (5<ql)=false:=(by rw[jx];omega);rw[hq5]at hb6;clear m1 m2 m3 hb2 hql zQ zP z5 eWP hpl zW hsl;simp_all;done))
     all_goals first
      |(refine bodyPost_ret (v:= .tuple #[.bool false,.string ⟨#[]⟩,.int .i64 0,.bool false]) (by simp [results,Tryz.results216,go_sem];done) rfl ?_;exact⟨rfl,B.out⟩)
      |(exfalso;have hq5:decide (5<ql)=false:=(by rw[jx];omega);rw[hq5]at hb6;clear m1 m2 m3 hb2 hql zQ zP z5 eWP hpl zW hsl;simp_all;done)
      |(exfalso;simp_all;done)
      |trace_state
open Go.RowKit Nt Fm Fl
def nk (d:D):Nat:=(max (aC d.m) 1-1+3)/4
def nS (x:Int):List UInt8:=if ak x=5 then [110,97,110] else if ak x=4 then(if 9223372036854775808<=x then [45,105,110,102] else [105,110,102]) else fG x (ai x) (nk (ai x))
def fa (w:World) (l:List UInt8) (e:Ending) (w':World):Prop:=e=.returned (.string ⟨l.toArray⟩)/\Below w.heap.size w w'
theorem J4 (x:Int) (x0:0<=x) (x1:x<=18446744073709551615) (w:World) (hT:aQ w) (hT10:b_ w):
  Calls prog 51 #[.int .u64 x] w (fa w (nS x)):=by
 have CL:=hid (fun w'=>fB x x0 x1 w');unfold fa nS;by_cases h5:ak x=5
 .rw[aj h5]
  rw[h5]at CL;clear hT hT10 h5;go_enter func51,ntmps51;go_wp2_with (go_at_call 8;refine(CL.out _).mono ?_;rintro e w1 ⟨rfl,rfl⟩)
  go_ret;exact⟨rfl,Below.refl _ _⟩
 by_cases h4:ak x=4
 .rw[ag h5,aj h4]
  rw[h4]at CL;clear hT hT10 h5 h4;by_cases hs:9223372036854775808<=x
  .have hh:(x/9223372036854775808==1)=true:=by rw[dV];omega
   rw[aj hs];go_enter func51,ntmps51;go_wp2_with (go_at_call 8;refine(CL.out _).mono ?_;rintro e w1 ⟨rfl,rfl⟩)
   go_ret;exact⟨rfl,Below.refl _ _⟩
  .have hh:(x/9223372036854775808==1)=false:=by rw[aH];omega
   rw[ag hs];go_enter func51,ntmps51;go_wp2_with (go_at_call 8;refine(CL.out _).mono ?_;rintro e w1 ⟨rfl,rfl⟩)
   go_ret;exact⟨rfl,Below.refl _ _⟩
 rw[ag h5,ag h4];have g5:(ak x==5)=false:=by rw[aH];exact h5
 have g4:(ak x==4)=false:=by rw[aH];exact h4
 generalize ak x=c at *;clear h4 h5;obtain⟨f1,f2,f3,f4,f5⟩:=dR x x0 x1;have hbl:aC (ai x).m<=53:=nF f2;have VL:=hid (fun w' h=>ia x x0 x1 w' h);have LN:=hid (fun va w' (h:NV w' va (ai x).m)=>lx va _ 53 w' h f2 (by omega));have WR:=hid (fun v w' (h:DV w' v (ai x)) h2=>Hb x x0 x1 v (ai x) (nk (ai x)) w' h (aX f2 (aG (by omega) (by omega))) (by omega) (by omega) (by unfold nk;omega) (by unfold nk;omega) h2);obtain⟨q,hq⟩:∃q,q=nk (ai x):=⟨_,rfl⟩;have hqv:(q:Int)=(max ((aC (ai x).m:Nat):Int) 1-1+3)/4:=by rw[hq];unfold nk;omega
 rw[<-hq]at WR;rw[<-hq];obtain⟨RS,hRS⟩:∃RS:ByteArray,RS=⟨(fG x (ai x) q).toArray⟩:=⟨_,rfl⟩;rw[<-hRS];rw[<-hRS]at WR;generalize ai x=d at *;generalize aC d.m=L at *;have H1:=hid hT;have H2:=hid hT10
 have hqL:∀Y:Int,Y=max (L:Int) 1->IntKind.i64.wrap ((IntKind.i64.wrap (IntKind.i64.wrap (Y-1)+3)).tdiv 4)=(q:Int):=by
  intro Y hY;rw[IntWalk.i64_in (Y-1) (by omega),IntWalk.i64_in (Y-1+3) (by omega),Int.tdiv_eq_ediv_of_nonneg (by omega),IntWalk.i64_in _ (by omega)];omega
 clear hT hT10 hRS hq f1 f2 f3 f4 f5;have B0:Hid (Below w.heap.size w w):=hid br0;have B0s:=hid (ae w.heap.size);go_enter func51,ntmps51
 go_wp2_with (first
  |(go_at_call 8;refine(CL.out _).mono ?_;rintro e w1 ⟨rfl,rfl⟩)
  |(go_at_call 79;refine(VL.out _ H1.out).mono ?_;rintro e w1 ⟨v1,rfl,hd1,hb1⟩;obtain⟨s1,rfl,hs1⟩:=hd1;obtain⟨a1,n1,c1,rfl⟩:=hs1.shape;have D1:=hid hs1;have B1:=hid hb1;have T1:=hid (H2.out.below hb1);clear hs1 hb1))
 obtain⟨V,hV⟩:∃V,V=w1.alloc (.cells #[.bool d.neg,.slice a1 n1 c1,.int .i64 d.e] 68):=⟨_,rfl⟩;have XC:Hid (ax V w1.heap.size 68 (.bool d.neg) (.slice a1 n1 c1) (.int .i64 d.e)):=hid (by rw[hV];exact ax.new w1 (.bool d.neg) (.slice a1 n1 c1) (.int .i64 d.e) 68);replace B1:Hid (Below w.heap.size w V):=hid (by rw[hV];exact B1.out.alloc B1.out.size _);replace D1:Hid (NV V (.slice a1 n1 c1) d.m):=hid (by rw[hV];exact D1.out.alloc _);replace T1:Hid (b_ V):=hid (by rw[hV];exact T1.out.below (br0.alloc le0 _));obtain⟨bk,hbk⟩:∃bk,bk=w1.heap.size:=⟨_,rfl⟩;rw[<-hV];rw[<-hbk]at XC;rw[<-hbk];clear hV hbk;replace XC:=hid XC.out.drew;replace B1:=hid B1.out.drew;replace D1:=hid D1.out.drew;replace T1:Hid (b_ V.drew):=hid (T1.out.below br0.drew);obtain⟨p0,p1,p2,q0,q1,q2⟩:=XC.out.cells
 go_region_held3 (fun w'=>w'.cell? ⟨bk,0,none⟩=some (.bool d.neg)/\w'.cell? ⟨bk,1,none⟩=some (.slice a1 n1 c1)/\w'.cell? ⟨bk,2,none⟩=some (.int .i64 d.e))
  (first
   |exact⟨p0,p1,p2⟩
   |(obtain⟨p0,p1,p2,-,-,-⟩:=XC.out.cells;exact⟨p0,p1,p2⟩)
   |(go_keep;done))
  (first
   |(go_at_call 59;refine(LN.out _ _ D1.out).mono ?_;rintro e w' ⟨rfl,rfl⟩)
   |(go_at_call 87;rw[<-hqv];refine(WR.out _ _ ⟨_,rfl,D1.out⟩ T1.out).mono ?_;rintro e w' ⟨rfl,hb⟩;replace B1:=bt0 B1 hb;replace XC:=hid (XC.out.below hb);clear hb))
 go_wp2;go_ret;exact⟨rfl,B1.out⟩
theorem CD {c:UInt8}(h:eO.contains c=true):fY c:=by
 unfold eO at h;unfold fY;simp at h;rcases h with rfl|rfl|rfl|rfl|rfl|rfl|rfl|rfl|rfl|rfl|rfl|rfl|rfl|rfl|rfl|rfl <;> decide
def j_ (neg:Bool) (M:Nat) (k:Int):D:=if 2000<(aC M:Int)+k then⟨neg,1,2000⟩ else if(aC M:Int)+k< -2000 then⟨neg,1,-2000⟩ else⟨neg,M,k⟩
def jC (neg:Bool) (M:Nat) (k mode:Int):Int:=if M=0 then(if neg=true then 9223372036854775808 else 0) else aE (j_ neg M k) mode
def iO (neg:Bool) (M:Nat) (k:Int):Bool:=if M=0 then false else aU (j_ neg M k)
def ei (w:World) (x:Int) (b:Bool) (er:Int) (e:Ending) (w':World):Prop:=e=.returned (.tuple #[.int .u64 x,.bool b,.int .i64 er])/\Below w.heap.size w w'
def iS (part power:List UInt8) (down:Bool):Int:=(if down=true then -((aM 0 power:Nat):Int) else((aM 0 power:Nat):Int))-4*(part.length:Int)
def mj (s:List UInt8) (bad:Bool) (mode:Int):Int:=if aD mode=true then(if 1000<s.length then 2 else if bad=true then 5 else 0) else 1
theorem RG {s t1 t2 whole t3 r part t4 t5 t6 power rest:List UInt8}{neg ok pt p down up:Bool}(H:rI s t1 t2 whole t3 r part t4 t5 t6 power rest neg ok pt p down up):(∀c∈whole++part,fY c)/\(whole++part).length<=2*s.length/\part.length<=s.length/\∀c∈power,cF c:=by
 obtain⟨h1,n1,h2,n2,hw,h3,hr,np,hp,h4,h5,n5,nd,nu,h6,hq,he⟩:=H;have l1:=oz s [45];have l2:=oz t1 [48,120];have l3:=nQ (p:=(eO.contains ·)) t2
 have lw:=rE (p:=(eO.contains ·)) t2
 have lr:=oz t3 [46];have lr2:=rE (p:=(eO.contains ·)) r
 rw[<-h1]at l1;rw[<-h2]at l2;rw[<-h3]at l3;rw[<-hw]at lw;rw[<-hr]at lr;have lp:part.length<=r.length:=by rw[hp];split;exact lr2;simp
 refine⟨fun c hc=>?_,by rw[ck];omega,by omega,fun c hc=>?_⟩
 .rw[gF]at hc
  rcases hc with hc|hc
  .rw[hw]at hc;exact CD (og hc)
  .rw[hp]at hc
   split at hc
   .exact CD (og hc)
   .simp at hc
 .rw[hq]at hc
  have :=og hc;unfold bK at this;unfold cF;simp at this;rcases this with rfl|rfl|rfl|rfl|rfl|rfl|rfl|rfl|rfl|rfl <;> decide
theorem Y' (d:List UInt8) (neg:Bool) (k mode:Int) (s:List UInt8) (S:ByteArray) (hS:S=⟨s.toArray⟩) (hsl:s.length<=1000) (hd:∀c∈d,fY c) (hdl:d.length<=2000) (k0: -200000<=k) (k1:k<=200000) (m0:0<=mode) (m1:mode<=4) (w:World)
  (hpr:∀w',Calls prog 216 #[.string S] w' fun e w2=>e=.returned (.tuple #[.bool neg,.string ⟨d.toArray⟩,.int .i64 k,.bool true])/\Below w'.heap.size w' w2):
  Calls prog 170 #[.string S,.int .i64 mode] w (ei w (jC neg (bD 0 d) k mode) (iO neg (bD 0 d) k) 0):=by
 have hkb:aD mode=true:=by unfold aD;rw[da];exact⟨m0,m1⟩
 have KN:=hid (fun w'=>dF mode w');rw[hkb]at KN;have PR:=hid hpr;obtain⟨DS,hDS⟩:∃T:ByteArray,T=⟨d.toArray⟩:=⟨_,rfl⟩;rw[<-hDS]at PR;have MN:=hid (fun w'=>ae7 d DS hDS hd hdl w');have hMb:=C0 d hd;obtain⟨K0,hK0,hK1⟩:∃K0,8000<=K0/\K0<=8000:=⟨8000,by omega,by omega⟩;have hMb2:bD 0 d<2^K0:=aX hMb (aG (by omega) (by omega));have LN:=hid (fun va w' (h:NV w' va (bD 0 d))=>lx va _ K0 w' h hMb2 (by omega));have hbl:=nF hMb2;have OF:=hid (fun w'=>dU 1 (by omega) (by omega) w');have RN1:=fun v w' (h:DV w' v (j_ neg (bD 0 d) k)) (hm:(j_ neg (bD 0 d) k).m<2^K0) (hz:(j_ neg (bD 0 d) k).m≠0) (e0: -400000<=(j_ neg (bD 0 d) k).e) (e1:(j_ neg (bD 0 d) k).e<=400000)=>kS v _ K0 mode w' h hm (by omega) (by omega) (by omega) (fun h=>absurd h hz) m0 m1
 have zS:S.size=s.length:=by rw[hS];rfl
 have hsz:((S.size:Nat):Int)<=1000:=by omega
 have B:Hid (Below w.heap.size w w):=hid br0;have h1K:(1:Nat)<2^K0:=aX (show 1<2^1 by decide) (aG (by omega) (by omega));unfold jC iO;generalize bD 0 d=M at *;unfold ei;clear hkb hpr hDS hd hS hMb zS;by_cases hM:M=0
 .rw[aj hM,aj hM]
  have HM:=hid hM;clear RN1;cases neg
  all_goals
   go_enter func170,ntmps170
   go_wp2_with (first
    |(go_at_call 28;refine(KN.out _).mono ?_;rintro e w1 ⟨rfl,rfl⟩)
    |(go_at_call 216;refine(PR.out _).mono ?_;rintro e w2 ⟨rfl,hb⟩;replace B:=bt0 B hb;clear hb)
    |(go_at_call 217;refine(MN.out _).mono ?_;rintro e w3 ⟨v3,rfl,hv,hb⟩;replace B:=bt0 B hb;obtain⟨a3,n3,c3,rfl,hnc,hc3,hcase⟩:=fD hv;have N3:=hid hv;obtain rfl:n3=0:=(by rcases hcase with⟨_,h⟩|⟨h,_⟩;exact h;exact absurd HM.out h);clear hv hb hcase)
    |(go_at_call 59;refine(LN.out _ _ N3.out).mono ?_;rintro e w4 ⟨rfl,rfl⟩)
    |(go_at_call 61;refine(OF.out _).mono ?_;rintro e w4 ⟨v4,rfl,hv,hb⟩;obtain⟨a4,n4,c4,rfl⟩:=hv.shape;have N4:Hid (NV w4 (Value.slice a4 n4 c4) 1):=hid hv;replace B:=bt0 B hb;clear hv hb))
   go_ret3;exact⟨rfl,B.out⟩
 .rw[ag hM,ag hM]
  have HM:=hid hM;obtain⟨L,hL⟩:∃L,L=aC M:=⟨_,rfl⟩;rw[<-hL]at LN hbl;have hw0:IntKind.i64.wrap ((L:Int)+k)=(L:Int)+k:=IntWalk.i64_in _ (by omega);by_cases ht:2000<(L:Int)+k
  .have hD:j_ neg M k=⟨neg,1,2000⟩:=by unfold j_;rw[<-hL,aj ht]
   rw[hD]at RN1;rw[hD];have RN:=hid (fun v w' h=>RN1 v w' h h1K (show(1:Nat)≠0 by decide) (show(-400000:Int)<=_ by dsimp only;omega) (show _<=(400000:Int) by dsimp only;omega));clear RN1 hD hL;cases neg
   all_goals
    go_enter func170,ntmps170;go_wp2_with (first
    |(go_at_call 28;refine(KN.out _).mono ?_;rintro e w1 ⟨rfl,rfl⟩)
    |(go_at_call 216;refine(PR.out _).mono ?_;rintro e w2 ⟨rfl,hb⟩;replace B:=bt0 B hb;clear hb)
    |(go_at_call 217;refine(MN.out _).mono ?_;rintro e w3 ⟨v3,rfl,hv,hb⟩;replace B:=bt0 B hb;obtain⟨a3,n3,c3,rfl,hnc,hc3,hcase⟩:=fD hv;have N3:=hid hv;obtain⟨hm0,hn3⟩:M≠0/\1<=n3:=(by rcases hcase with⟨h,_⟩|h;exact absurd h HM.out;exact h);have hn3b:((n3:Int)==0)=false:=(by rw[aH];omega);clear hv hb hcase)
    |(go_at_call 59;refine(LN.out _ _ N3.out).mono ?_;rintro e w4 ⟨rfl,rfl⟩)
    |(go_at_call 61;refine(OF.out _).mono ?_;rintro e w4 ⟨v4,rfl,hv,hb⟩;obtain⟨a4,n4,c4,rfl⟩:=hv.shape;have N4:Hid (NV w4 (Value.slice a4 n4 c4) 1):=hid hv;replace B:=bt0 B hb;clear hv hb)
    |(go_at_call 30;refine(RN.out _ _ ⟨_,rfl,N4.out⟩).mono ?_;rintro e w5 ⟨rfl,hb⟩;replace B:=bt0 B hb;clear hb))
    go_ret3;exact⟨rfl,B.out⟩
  .by_cases hb:(L:Int)+k< -2000
   .have hD:j_ neg M k=⟨neg,1,-2000⟩:=by unfold j_;rw[<-hL,ag ht,aj hb]
    rw[hD]at RN1;rw[hD];have RN:=hid (fun v w' h=>RN1 v w' h h1K (show(1:Nat)≠0 by decide) (show(-400000:Int)<=_ by dsimp only;omega) (show _<=(400000:Int) by dsimp only;omega));clear RN1 hD hL;cases neg
    all_goals
     go_enter func170,ntmps170;go_wp2_with (first
     |(go_at_call 28;refine(KN.out _).mono ?_;rintro e w1 ⟨rfl,rfl⟩)
     |(go_at_call 216;refine(PR.out _).mono ?_;rintro e w2 ⟨rfl,hb⟩;replace B:=bt0 B hb;clear hb)
     |(go_at_call 217;refine(MN.out _).mono ?_;rintro e w3 ⟨v3,rfl,hv,hb⟩;replace B:=bt0 B hb;obtain⟨a3,n3,c3,rfl,hnc,hc3,hcase⟩:=fD hv;have N3:=hid hv;obtain⟨hm0,hn3⟩:M≠0/\1<=n3:=(by rcases hcase with⟨h,_⟩|h;exact absurd h HM.out;exact h);have hn3b:((n3:Int)==0)=false:=(by rw[aH];omega);clear hv hb hcase)
     |(go_at_call 59;refine(LN.out _ _ N3.out).mono ?_;rintro e w4 ⟨rfl,rfl⟩)
     |(go_at_call 61;refine(OF.out _).mono ?_;rintro e w4 ⟨v4,rfl,hv,hb⟩;obtain⟨a4,n4,c4,rfl⟩:=hv.shape;have N4:Hid (NV w4 (Value.slice a4 n4 c4) 1):=hid hv;replace B:=bt0 B hb;clear hv hb)
     |(go_at_call 30;refine(RN.out _ _ ⟨_,rfl,N4.out⟩).mono ?_;rintro e w5 ⟨rfl,hb⟩;replace B:=bt0 B hb;clear hb))
     go_ret3;exact⟨rfl,B.out⟩
   .have hD:j_ neg M k=⟨neg,M,k⟩:=by unfold j_;rw[<-hL,ag ht,ag hb]
    rw[hD]at RN1;rw[hD];have RN:=hid (fun v w' h=>RN1 v w' h hMb2 hM (by show -400000<=k;omega) (by show k<=400000;omega));clear RN1 hD hL;cases neg
    all_goals
     go_enter func170,ntmps170;go_wp2_with (first
     |(go_at_call 28;refine(KN.out _).mono ?_;rintro e w1 ⟨rfl,rfl⟩)
     |(go_at_call 216;refine(PR.out _).mono ?_;rintro e w2 ⟨rfl,hb⟩;replace B:=bt0 B hb;clear hb)
     |(go_at_call 217;refine(MN.out _).mono ?_;rintro e w3 ⟨v3,rfl,hv,hb⟩;replace B:=bt0 B hb;obtain⟨a3,n3,c3,rfl,hnc,hc3,hcase⟩:=fD hv;have N3:=hid hv;obtain⟨hm0,hn3⟩:M≠0/\1<=n3:=(by rcases hcase with⟨h,_⟩|h;exact absurd h HM.out;exact h);have hn3b:((n3:Int)==0)=false:=(by rw[aH];omega);clear hv hb hcase)
     |(go_at_call 59;refine(LN.out _ _ N3.out).mono ?_;rintro e w4 ⟨rfl,rfl⟩)
     |(go_at_call 61;refine(OF.out _).mono ?_;rintro e w4 ⟨v4,rfl,hv,hb⟩;obtain⟨a4,n4,c4,rfl⟩:=hv.shape;have N4:Hid (NV w4 (Value.slice a4 n4 c4) 1):=hid hv;replace B:=bt0 B hb;clear hv hb)
     |(go_at_call 30;refine(RN.out _ _ ⟨_,rfl,N3.out⟩).mono ?_;rintro e w5 ⟨rfl,hb⟩;replace B:=bt0 B hb;clear hb))
     go_ret3;exact⟨rfl,B.out⟩
theorem Rq {s t1 t2 whole t3 r part t4 t5 t6 power rest:List UInt8}{neg ok pt p down up:Bool}(H:rI s t1 t2 whole t3 r part t4 t5 t6 power rest neg ok pt p down up) (S:ByteArray) (hS:S=⟨s.toArray⟩) (mode:Int) (w:World):
  Calls prog 170 #[.string S,.int .i64 mode] w (ei w (if mj s (jH whole part power rest ok p) mode=0 then jC neg (bD 0 (whole++part)) (iS part power down) mode else 0) (decide (mj s (jH whole part power rest ok p) mode=0) && iO neg (bD 0 (whole++part)) (iS part power down)) (mj s (jH whole part power rest ok p) mode)):=by
 have zS:((S.size:Nat):Int)=(s.length:Int):=by rw[hS];rfl
 by_cases hk:0<=mode/\mode<=4
 .have hkb:aD mode=true:=by unfold aD;rw[da];exact hk
  by_cases hl:1000<s.length
  .have hE:mj s (jH whole part power rest ok p) mode=2:=by unfold mj;rw[aj hkb,aj hl]
   rw[hE,ag (by decide),show(decide ((2:Int)=0) && iO neg (bD 0 (whole++part)) (iS part power down))=false by rfl];have KN:=hid (fun w'=>dF mode w');rw[hkb]at KN;have hz:((1000:Int)<((S.size:Nat):Int)):=by omega
   clear hE hk hkb H hS zS;unfold ei;go_enter func170,ntmps170;go_wp2_with (go_at_call 28;refine(KN.out _).mono ?_;rintro e w1 ⟨rfl,rfl⟩)
   go_ret3;exact⟨rfl,Below.refl _ _⟩
  .have PR:=hid (fun w'=>XP H S hS (by omega) w')
   obtain⟨d1,d2,d3,d4⟩:=RG H;obtain⟨bad,hbad⟩:∃bad,bad=jH whole part power rest ok p:=⟨_,rfl⟩;rw[<-hbad]at PR;rw[<-hbad];cases bad
   .have hE:mj s false mode=0:=by unfold mj;rw[aj hkb,ag hl];rfl
    rw[hE,aj rfl,show(decide ((0:Int)=0) && iO neg (bD 0 (whole++part)) (iS part power down))=iO neg (bD 0 (whole++part)) (iS part power down) by rfl]
    have hp5:power.length<=5:=by
     unfold jH at hbad;have :=hbad.symm;simp at this;omega
    have hdc:=pg power 0 d4;have h10:(10:Nat)^power.length<=10^5:=aG (by omega) hp5;have h10':(10:Nat)^5=100000:=by decide
    have hkk: -200000<=iS part power down/\iS part power down<=200000:=by
     unfold iS;cases down <;> simp <;> omega
    exact Y' (whole++part) neg (iS part power down) mode s S hS (by omega) d1 (by omega) hkk.1 hkk.2 hk.1 hk.2 w (fun w'=>PR.out w')
   .have hE:mj s true mode=5:=by unfold mj;rw[aj hkb,ag hl];rfl
    rw[hE,ag (by decide),show(decide ((5:Int)=0) && iO neg (bD 0 (whole++part)) (iS part power down))=false by rfl];have KN:=hid (fun w'=>dF mode w');rw[hkb]at KN;have hz:((S.size:Nat):Int)<=1000:=by omega
    unfold EE at PR;simp only[Bool.not_true,Oo,cQ]at PR;clear hE hk hkb H hS zS d1 d2 d3 d4 hbad;unfold ei;go_enter func170,ntmps170
    go_wp2_with (first
     |(go_at_call 28;refine(KN.out _).mono ?_;rintro e w1 ⟨rfl,rfl⟩)
     |(go_at_call 216;refine(PR.out _).mono ?_;rintro e w2 ⟨rfl,hb2⟩))
    go_ret3;exact⟨rfl,hb2⟩
 .have hkb:aD mode=false:=by unfold aD;rw[jx];exact hk
  have hE:mj s (jH whole part power rest ok p) mode=1:=by unfold mj;rw[hkb];rfl
  rw[hE,ag (by decide),show(decide ((1:Int)=0) && iO neg (bD 0 (whole++part)) (iS part power down))=false by rfl];have KN:=hid (fun w'=>dF mode w');rw[hkb]at KN;clear hE hk hkb H hS zS;unfold ei;go_enter func170,ntmps170;go_wp2_with (go_at_call 28;refine(KN.out _).mono ?_;rintro e w1 ⟨rfl,rfl⟩)
  go_ret3;exact⟨rfl,Below.refl _ _⟩
theorem Ny {M:Nat}(hM:M≠0):2^(aC M-1)<=M:=by
 unfold aC;rw[ag hM];exact Oa hM
theorem Qx {M:Nat}(hM:M≠0) (j:Nat):aC (M*2^j)=aC M+j:=by
 have h1:=tV M;have h2:2^(aC M-1)<=M:=Ny hM;have hb:1<=aC M:=by unfold aC;rw[ag hM];omega
 have hp:=az j;apply pC
 .apply nF
  rw[aB];exact cS h1 hp
 .rcases eJ (aC (M*2^j)) (aC M+j) with h|h
  .exfalso
   have h3:=tV (M*2^j);have h4:2^(aC M-1)*2^j<=M*2^j:=bR _ h2;rw[<-aB]at h4;have h5:2^aC (M*2^j)<=2^(aC M-1+j):=aG (by omega) (by omega);omega
  .exact h
theorem Ja (M j t:Nat) (K:Int) (h:0<=K-j+1074+t):tt t (M*2^j) (K-j)=tt t M K:=by
 unfold tt;rw[aF,<-aB];congr 2;omega
theorem QG (neg:Bool) (M j:Nat) (K:Int):aU ⟨neg,M*2^j,K-j⟩=aU ⟨neg,M,K⟩:=by
 unfold aU;dsimp only;obtain⟨t,ht⟩:∃t:Nat,0<=K-j+1074+(t:Int):=⟨(-(K-j+1074)).toNat,by omega⟩;have h1:=nD (m:=M*2^j) (e:=K-j) ht;have h2:=nD (m:=M) (e:=K) (t:=t) (by omega);rw[Ja M j t K ht,<-h2]at h1;cases hc:fF M K
 .exact h1.2 hc
 .cases hd:fF (M*2^j) (K-j)
  .rw[h1.1 hd]at hc;cases hc
  .rfl
theorem Y_ (neg:Bool) (M j:Nat) (K mode:Int):aE ⟨neg,M*2^j,K-j⟩ mode=aE ⟨neg,M,K⟩ mode:=by
 unfold aE;dsimp only;obtain⟨t,ht⟩:∃t:Nat,0<=K-j+1074+(t:Int):=⟨(-(K-j+1074)).toNat,by omega⟩;rw[SF (t:=t) ht (by omega) _ (Ja M j t K ht)]
theorem NN (neg:Bool) (M j:Nat) (K mode:Int):jC neg (M*2^j) (K-j) mode=jC neg M K mode/\iO neg (M*2^j) (K-j)=iO neg M K:=by
 by_cases hM:M=0
 .subst hM;rw[iq];unfold jC iO;simp only[cQ];exact⟨trivial,trivial⟩
 .have h0:M*2^j≠0:=Nat.ne_of_gt (fm (Nat.pos_of_ne_zero hM) (az _))
  unfold jC iO;rw[ag hM,ag h0,ag hM,ag h0];have hb:((aC (M*2^j):Nat):Int)+(K-j)=(aC M:Int)+K:=by rw[Qx hM];omega
  unfold j_;rw[hb];split
  .exact⟨rfl,rfl⟩
  .split
   .exact⟨rfl,rfl⟩
   .exact⟨Y_ _ _ _ _ _,QG _ _ _ _⟩
structure xV (e t6 power rest:List UInt8) (down up:Bool):Prop where
 nd:down=hasPrefix e [45]
 nu:up=hasPrefix e [43]
 h6:t6=if(down || up)=true then e.drop 1 else e
 hq:power=t6.takeWhile (bK.contains ·)
 he:rest=t6.dropWhile (bK.contains ·)
theorem Gn:eO.contains 112=false/\eO.contains 46=false/\eO.contains 45=false/\eO.contains 48=true:=by decide
theorem Ej {p:UInt8->Bool}(d:List UInt8) (hd:∀c∈d,p c=true) (x:UInt8) (hx:p x=false) (l:List UInt8):(d++x::l).takeWhile p=d/\(d++x::l).dropWhile p=x::l:=by
 rw[Aa hd,ai3 hd,uk (by rw[hx];simp),qJ (by rw[hx];simp),n9];exact⟨rfl,rfl⟩
theorem kT (c:List UInt8) (l:List UInt8):trimPrefix (c++l) c=l/\hasPrefix (c++l) c=true:=by
 have h:hasPrefix (c++l) c=true:=by
  unfold hasPrefix;rw[List.isPrefixOf_iff_prefix];exact⟨l,rfl⟩
 refine⟨?_,h⟩;unfold trimPrefix;rw[aj h,List.drop_left]
theorem rV (c x:UInt8) (cs l:List UInt8) (h:(c==x)=false):trimPrefix (x::l) (c::cs)=x::l/\hasPrefix (x::l) (c::cs)=false:=by
 have h:hasPrefix (x::l) (c::cs)=false:=by
  unfold hasPrefix;simp only[List.isPrefixOf,h,Oo]
 refine⟨?_,h⟩;unfold trimPrefix;rw[ag (by rw[h];simp)]
theorem My {e t6 power rest:List UInt8}{down up:Bool}(P:xV e t6 power rest down up) (neg:Bool) (d b:List UInt8) (hd:∀c∈d,eO.contains c=true) (hb:∀c∈b,eO.contains c=true):
  rI ((if neg=true then [45] else [])++([48,120]++(d++46::(b++112::e)))) ([48,120]++(d++46::(b++112::e))) (d++46::(b++112::e)) d (46::(b++112::e)) (b++112::e) b (112::e) e t6 power rest neg true true true down up:=by
 obtain⟨nd,nu,h6,hq,he⟩:=P;obtain⟨x1,x2,x3,x4⟩:=Gn;have a1:=Ej d hd 46 x2 (b++112::e);have a2:=Ej b hb 112 x1 e;have a3:=kT [48,120] (d++46::(b++112::e));have a4:=kT [46] (b++112::e);have a5:=kT [112] e;refine⟨?_,?_,a3.1.symm,a3.2.symm,a1.1.symm,a1.2.symm,a4.1.symm,a4.2.symm,?_,?_,a5.1.symm,a5.2.symm,nd,nu,h6,hq,he⟩
 .cases neg
  .exact(rV 45 48 [] _ (by decide)).1.symm
  .exact(kT [45] _).1.symm
 .cases neg
  .exact(rV 45 48 [] _ (by decide)).2.symm
  .exact(kT [45] _).2.symm
 .rw[aj rfl];exact a2.1.symm
 .rw[aj rfl];exact a2.2.symm
theorem Ls {e t6 power rest:List UInt8}{down up:Bool}(P:xV e t6 power rest down up) (neg:Bool) (d:List UInt8) (hd:∀c∈d,eO.contains c=true):
  rI ((if neg=true then [45] else [])++([48,120]++(d++112::e))) ([48,120]++(d++112::e)) (d++112::e) d (112::e) (112::e) [] (112::e) e t6 power rest neg true false true down up:=by
 obtain⟨nd,nu,h6,hq,he⟩:=P;obtain⟨x1,x2,x3,x4⟩:=Gn;have a1:=Ej d hd 112 x1 e;have a3:=kT [48,120] (d++112::e);have a4:=rV 46 112 [] e (by decide);have a5:=kT [112] e;refine⟨?_,?_,a3.1.symm,a3.2.symm,a1.1.symm,a1.2.symm,a4.1.symm,a4.2.symm,?_,?_,a5.1.symm,a5.2.symm,nd,nu,h6,hq,he⟩
 .cases neg
  .exact(rV 45 48 [] _ (by decide)).1.symm
  .exact(kT [45] _).1.symm
 .cases neg
  .exact(rV 45 48 [] _ (by decide)).2.symm
  .exact(kT [45] _).2.symm
 .rfl
 .rfl
theorem Sy (l:List UInt8):∀(a:Nat),(∀c∈l,cF c)->aM a l=num a l:=by
 induction l with
 |nil=>intro a _;rfl
 |cons c l ih=>
  intro a h;have hc:cF c:=h c (mT ..)
  have hn:c≠46:=by
   intro e;subst e;exact absurd hc.1 (by decide)
  have h1:num a (c::l)=num (a*10+(c.toNat-48)) l:=by
   show(if c=46 then _ else _)=_
   rw[ag hn]
  rw[h1];exact ih _ (fun d hd=>h d (n8 _ hd))
theorem uV (u:Nat):aM 0 (decDigits u)=u:=by rw[Sy _ _ (oW u),Xh]
theorem vg {c:UInt8}(h:cF c):bK.contains c=true:=by
 unfold cF at h;unfold bK;have :c=UInt8.ofNat c.toNat:=by simp
 rw[this];generalize c.toNat=n at *;obtain⟨k,rfl⟩:∃k,n=48+k:=⟨n-48,by omega⟩;have hk:k<10:=by omega
 have :∀k:Fin 10,([48,49,50,51,52,53,54,55,56,57]:List UInt8).contains (UInt8.ofNat (48+k.val))=true:=by decide
 exact this ⟨k,hk⟩
theorem Jp (v:Nat) (h:v<16):eO.contains (kK v)=true/\iM (kK v)=v:=by
 have :∀v:Fin 16,eO.contains (kK v.val)=true/\iM (kK v.val)=v.val:=by decide
 exact this ⟨v,h⟩
theorem ND (M:Nat):∀k,∀c∈ef M k,eO.contains c=true
 | 0,c,h=>by simp [ef]at h
 |k+1,c,h=>by
  rw[ef,iI]at h;rcases h with rfl|h
  .exact(Jp _ (ew _ (by omega))).1
  .exact ND M k c h
theorem I7 (M:Nat):∀(k a:Nat),bD a (ef M k)=a*16^k+M%16^k
 | 0,a=>by simp [ef,bD,Nat.mod_one]
 |k+1,a=>by
  rw[ef,bD,I7 M k,(Jp _ (ew _ (by omega))).2,bH,a_,aF,aW 16 (16^k),qG,Oe];rw[aW (M/16^k%16)];omega
theorem Jf {p:UInt8->Bool}(l:List UInt8) (h:∀c∈l,p c=true):l.takeWhile p=l/\l.dropWhile p=[]:=by
 have h1:=Aa (p:=p) (l₁:=l) (l₂:=[]) h;have h2:=ai3 (p:=p) (l₁:=l) (l₂:=[]) h;simp only[n9]at h1 h2;exact⟨by rw[h1];simp,by rw[h2];simp⟩
theorem Qh (q:Int):xV ((if 0<=q then [43] else [])++Lib.itoa q) (decDigits q.natAbs) (decDigits q.natAbs) [] (decide (q<0)) (decide (0<=q)):=by
 obtain⟨h1,h2⟩:=Jf (p:=(bK.contains ·)) (decDigits q.natAbs) (fun c hc=>vg (oW _ c hc))
 unfold Lib.itoa;by_cases hq:0<=q
 .rw[aj hq,ag (show ¬q<0 by omega),e_ (show ¬q<0 by omega),fR hq,show q.toNat=q.natAbs by omega]
  exact⟨rfl,rfl,rfl,h1.symm,h2.symm⟩
 .rw[ag hq,aj (show q<0 by omega),fR (show q<0 by omega),e_ hq]
  exact⟨rfl,rfl,rfl,h1.symm,h2.symm⟩
theorem Kj (p:Int):il p=112::((if 0<=p then [43] else [])++Lib.itoa p):=by
 unfold il;split <;> rfl
theorem xo (x:Int):fq x=(if decide (9223372036854775808<=x)=true then [45] else [])++[48,120]:=by
 unfold fq;by_cases h:9223372036854775808<=x
 .rw[aj h,fR h];rfl
 .rw[ag h,e_ h];rfl
theorem WU (x:Int) (d:D) (p:Nat) (hp:p<=100) (hm:aC d.m<=4*p+1) (he:(cO d).natAbs<99999):
  ∃t1 t2 whole t3 r part t4 t5 t6 power rest neg ok pt pb down up,rI (fG x d p) t1 t2 whole t3 r part t4 t5 t6 power rest neg ok pt pb down up/\jH whole part power rest ok pb=false/\neg=decide (9223372036854775808<=x)/\(fG x d p).length<=1000/\
   (∀mode,jC neg (bD 0 (whole++part)) (iS part power down) mode=jC neg d.m d.e mode)/\iO neg (bD 0 (whole++part)) (iS part power down)=iO neg d.m d.e:=by
 have hl:(fG x d p).length<=1000:=by
  unfold fG;have h1:(fq x).length<=3:=by unfold fq;split <;> simp
  have h2:=Bc (cO d) (by omega);have h3:=wK (d.m*2^(4*p-(aC d.m-1))) p;have h4:(il (cO d)).length<=10:=by unfold il;rw[ck];split <;> simp <;> omega
  rw[ck];split
  .split <;> simp <;> omega
  .split <;> simp [h3] <;> omega
 by_cases hz:d.m=0
 .have P:xV ([43,48]:List UInt8) [48] [48] [] false true:=⟨rfl,rfl,rfl,rfl,rfl⟩
  have hs:∀c∈[(48:UInt8)],eO.contains c=true:=fun c hc=>by obtain rfl:=Ab.1 hc;decide
  have hv:∀neg K mode,jC neg 0 K mode=jC neg d.m d.e mode:=fun neg K mode=>by unfold jC;rw[hz,aj rfl,aj rfl]
  have hc:∀neg K,iO neg 0 K=iO neg d.m d.e:=fun neg K=>by unfold iO;rw[hz,aj rfl,aj rfl]
  by_cases hp0:0<p
  .have hr:∀c∈List.replicate p (48:UInt8),eO.contains c=true:=fun c hc=>by obtain rfl:=(List.mem_replicate.1 hc).2;decide
   have Q:=My P (decide (9223372036854775808<=x)) [48] (List.replicate p 48) hs hr
   have hW:fG x d p=(if decide (9223372036854775808<=x)=true then [45] else [])++([48,120]++([48]++46::(List.replicate p 48++112::[43,48]))):=by
    unfold fG;rw[aj hz,aj hp0,xo];simp
   rw[<-hW]at Q
   have h0:bD 0 ([48]++List.replicate p 48)=0:=by
    clear Q hW hr hp0 hm hl hp
    have :∀p,bD 0 (List.replicate p (48:UInt8))=0:=by
     intro p
     induction p with
     |zero=>rfl
     |succ p ih=>rw[se,bD];exact ih
    rw[tA];exact this p
   refine⟨_,_,_,_,_,_,_,_,_,_,_,_,_,_,_,_,_,Q,?_,rfl,hl,fun mode=>by rw[h0];exact hv _ _ _,by rw[h0];exact hc _ _⟩;unfold jH;rfl
  .have Q:=Ls P (decide (9223372036854775808<=x)) [48] hs
   have hW:fG x d p=(if decide (9223372036854775808<=x)=true then [45] else [])++([48,120]++([48]++112::[43,48])):=by
    unfold fG;rw[aj hz,ag hp0,xo];simp
   rw[<-hW]at Q;refine⟨_,_,_,_,_,_,_,_,_,_,_,_,_,_,_,_,_,Q,?_,rfl,hl,fun mode=>hv _ _ _,hc _ _⟩;unfold jH;rfl
 .obtain⟨sh,hsh⟩:∃sh,sh=4*p-(aC d.m-1):=⟨_,rfl⟩
  have hb1:1<=aC d.m:=by unfold aC;rw[ag hz];omega
  have hsh2:aC d.m+sh=4*p+1:=by omega
  have hMlt:d.m*2^sh<2^(4*p+1):=by
   rw[<-hsh2,aB];exact cS (tV _) (az _)
  have hMge:2^(4*p)<=d.m*2^sh:=by
   have h1:=bR (2^sh) (Ny hz);rw[<-aB,show aC d.m-1+sh=4*p by omega]at h1;exact h1
  have h16:(16:Nat)^p=2^(4*p):=by rw[show(16:Nat)=2^4 by decide,<-jU]
  have hmod:d.m*2^sh%16^p=d.m*2^sh-16^p:=by
   rw[h16];rw[bH]at hMlt;rw[Nat.mod_eq_sub_mod hMge,lV (by omega)]
  have hone:∀c∈[(49:UInt8)],eO.contains c=true:=fun c hc=>by obtain rfl:=Ab.1 hc;decide
  have P:=Qh (cO d)
  have hk:(if decide (cO d<0)=true then -((aM 0 (decDigits (cO d).natAbs):Nat):Int) else((aM 0 (decDigits (cO d).natAbs):Nat):Int))=cO d:=by
   rw[uV];by_cases h:cO d<0
   .rw[fR h,aj rfl];omega
   .rw[e_ h,ag (by simp)];omega
  have hkk:cO d-4*(p:Int)=d.e-sh:=by unfold cO;omega
  have hlen:(decDigits (cO d).natAbs).length<=5:=nt 5 _ (by omega) (by omega)
  have hne:(decDigits (cO d).natAbs).isEmpty=false:=by
   have :=uT (cO d).natAbs;cases h:decDigits (cO d).natAbs with
   |nil=>rw[h]at this;simp at this
   |cons c l=>rfl
  have hbad:∀w b:List UInt8,jH ([49]++w) b (decDigits (cO d).natAbs) [] true true=false:=by
   intro w b;unfold jH;rw[hne,e_ (by omega)];rfl
  by_cases hp0:0<p
  .have Q:=My P (decide (9223372036854775808<=x)) [49] (ef (d.m*2^sh) p) hone (ND _ _)
   have hW:fG x d p=(if decide (9223372036854775808<=x)=true then [45] else [])++([48,120]++([49]++46::(ef (d.m*2^sh) p++112::((if 0<=cO d then [43] else [])++Lib.itoa (cO d))))):=by
    unfold fG;rw[ag hz,aj hp0,xo,Kj,<-hsh];simp
   rw[<-hW]at Q
   have h0:bD 0 ([49]++ef (d.m*2^sh) p)=d.m*2^sh:=by
    rw[tA,I7,show bD 0 [49]=1 from rfl,hmod,h16];omega
   have hK:iS (ef (d.m*2^sh) p) (decDigits (cO d).natAbs) (decide (cO d<0))=d.e-sh:=by
    unfold iS;rw[hk,wK];exact hkk
   refine⟨_,_,_,_,_,_,_,_,_,_,_,_,_,_,_,_,_,Q,hbad [] _,rfl,hl,fun mode=>?_,?_⟩
   .rw[h0,hK];exact(NN _ _ _ _ _).1
   .rw[h0,hK];exact(NN _ _ _ _ 0).2
  .obtain rfl:p=0:=by omega
   obtain rfl:sh=0:=by omega
   have hm1:d.m=1:=by
    have :aC d.m=1:=by omega
    have h2:=tV d.m;rw[this]at h2;omega
   have Q:=Ls P (decide (9223372036854775808<=x)) [49] hone
   have hW:fG x d 0=(if decide (9223372036854775808<=x)=true then [45] else [])++([48,120]++([49]++112::((if 0<=cO d then [43] else [])++Lib.itoa (cO d)))):=by
    unfold fG;rw[ag hz,ag hp0,xo,Kj,ef];simp
   rw[<-hW]at Q;have h0:bD 0 ([49]++[])=d.m:=by rw[hm1];rfl
   have hK:iS [] (decDigits (cO d).natAbs) (decide (cO d<0))=d.e:=by
    unfold iS;rw[hk];simp only[Ac];omega
   refine⟨_,_,_,_,_,_,_,_,_,_,_,_,_,_,_,_,_,Q,hbad [] _,rfl,hl,fun mode=>?_,?_⟩
   .rw[h0,hK]
   .rw[h0,hK]
