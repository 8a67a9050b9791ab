import Derived.Test.YtofdjfdnckmmmaaGreatDoorNat7
import Derived.Deep.AppendLies
import Derived.Test.YtofdjfdnckmmmaaGreatDoorEab
set_option linter.all false
set_option maxHeartbeats 16000000
set_option maxRecDepth 100000
open Go.Proofs.Tryz
open Go.Lib (hid)
namespace Go.Proofs.YtofdjfdnckmmmaaGreatDoor
open Go.RowKit Nt
def yA (w:World) (q r:Nat) (e:Ending) (w':World):Prop:= ∃vq vr,e=.returned (.tuple #[vq,vr])/\NV w' vq q/\NV w' vr r/\Below w.heap.size w w'
theorem Kp.own {g:Nat}{w w':World}(h:Kp g w w') {base n gq:Nat}{cap:Nat}{xs:List Value}(ho:w.ownsRow base 102 1 (.slice (some ⟨gq,0,none⟩) n cap) n xs) (hne:gq≠g):
  w'.ownsRow base 102 1 (.slice (some ⟨gq,0,none⟩) n cap) n xs:=by
 refine⟨ho.1,?_⟩;rcases ho.2 with hn|⟨g',cap',cur,e,hb,hgg,rest⟩
 .exact .inl hn
 .refine .inr ⟨g',cap',cur,e,hb,?_,rest⟩
  have :gq=g':=by simp only[Value.slice.injEq,rY,Addr.mk.injEq]at e;exact e.1.1
  subst this;rw[h.block _ hne];exact hgg
theorem Kp.cells {g:Nat}{w w':World}(h:Kp g w w') {bv ov n:Nat}{v:List Nat}(hne:bv≠g) (hc:∀i,i<n->w.cell? ⟨bv,ov+i,none⟩=some (.int .u32 ((v.getD i 0:Nat):Int))):
  ∀i,i<n->w'.cell? ⟨bv,ov+i,none⟩=some (.int .u32 ((v.getD i 0:Nat):Int)):=fun i hi=>(h.cell bv (ov+i) hne).trans (hc i hi)
theorem Gc {w w':World}{B base n:Nat}{v:Value}{xs:List Value}(h:w.ownsRow base 102 1 v n xs) (hb:Below B w w') (hB:∀ao m c p,v=.slice ao m c->ao=some p->p.block<B):w'.ownsRow base 102 1 v n xs:=by
 refine⟨h.1,?_⟩;rcases h.2 with hn|⟨g,cap,cur,rfl,hbs,hgg,rest⟩
 .exact .inl hn
 .refine .inr ⟨g,cap,cur,rfl,hbs,?_,rest⟩
  rw[hb.block g (hB _ _ _ _ rfl rfl)];exact hgg
theorem H_ {w:World}{base base' n:Nat}{v:Value}{xs:List Value}(h:w.ownsRow base 102 1 v n xs) (hb:base'<=base):w.ownsRow base' 102 1 v n xs:=
 ⟨h.1,h.2.imp id (fun⟨g,c,cur,e,hb',r⟩=>⟨g,c,cur,e,ct hb hb',r⟩)⟩
theorem Ld {w:World}{base g n cap k:Nat}{o:List Nat}(h:w.ownsRow base 102 1 (.slice (some ⟨g,0,none⟩) n cap) n (lc o)) (hk:k<=n):
  w.ownsRow base 102 1 (.slice (some ⟨g,0,none⟩) k cap) k (lc (o.take k)):=by
 have hn:o.length=n:=by have :=h.1;rw[oO]at this;omega
 refine⟨by rw[oO,dj];omega,?_⟩;rcases h.2 with⟨h1,h2⟩|⟨g',cap',cur,e,hb,hgg,h3,h4,h5,h6⟩
 .cases h1
 .simp only[Value.slice.injEq,rY,Addr.mk.injEq]at e
  obtain⟨⟨rfl,-⟩,-,rfl⟩:=e;refine .inr ⟨g,cap,cur,rfl,hb,hgg,by omega,h4,h5,?_⟩;have :lc (o.take k)=(lc o).take k:=by unfold lc;rw[List.map_take]
  rw[this,<-h6,List.take_take,fI,fI,i_ hk]
theorem UD (va vb:Value) (a b k0:Nat) (w:World) (ha:NV w va a) (hb:NV w vb b) (hlt:a<b) (hka:a<2^k0) (hk0:k0<=40000000000000):
  Calls prog 107 #[va,vb] w (yA w 0 a):=by
 have hs:aK (a:Int) (b:Int)<0:=by unfold aK;rw[aj (by omega)];decide
 have hc:=jF va vb a b w ha hb;generalize aK (a:Int) (b:Int)=sg at *;have HC:=hid hc;have HA:=hid ha;have CL:=hid (fun w' h=>Ks va a k0 w' h hka (by omega));clear hc ha hb hlt hka;go_enter func107,ntmps107;go_wp2_with fail
 refine HC.out.mono ?_;rintro e w1 ⟨rfl,n1,rfl⟩;go_wp2_with fail
 refine(CL.out _ (HA.out.drewN _)).mono ?_;rintro e w2 ⟨v2,rfl,h2,hb2⟩;go_wp2;go_ret2;exact⟨_,_,rfl,NV.nil _,h2,y8 hb2⟩
theorem Wo (va vb:Value) (a b k0:Nat) (w:World) (ha:NV w va a) (hb:NV w vb b) (hle:b<=a) (hb0:0<b) (hb1:b<4294967296) (hka:a<2^k0) (hk0:k0<=40000000000000):
  Calls prog 107 #[va,vb] w (yA w (a/b) (a%b)):=by
 have hs:¬aK (a:Int) (b:Int)<0:=by unfold aK;rw[ag (by omega)];split <;> decide
 have hc:=jF va vb a b w ha hb;generalize aK (a:Int) (b:Int)=sg at *;obtain⟨lb,hlb,eb,⟨-,ab,cb,rfl,hcb,hmb,hB⟩,hbl⟩:=hb.len (show b<2^32 by omega)
 have hlen:lb.length=1:=by
  rcases fl lb.length with h|h
  .rw[gp.1 h]at eb;simp [val]at eb;omega
  .omega
 have he:lb.getD 0 0=b:=by
  obtain⟨x,rfl⟩:=List.length_eq_one_iff.1 hlen
  simpa [val] using eb
 have hcell:∃bb ob,ab=some ⟨bb,ob,none⟩/\bb<w.heap.size/\w.cell? ⟨bb,ob,none⟩=some (.int .u32 (b:Int)):=by
  rcases hB with h|⟨bb,ob,h1,h2,h3⟩
  .omega
  .refine⟨bb,ob,h1,h2,?_⟩
   have :=h3 0 (by omega)
   rwa [he]at this
 obtain⟨bb,ob,rfl,hbb,hcell⟩:=hcell;rw[hlen]at hc ⊢;unfold maxLen at hmb;rw[hlen]at hcb;have HC:=hid hc;have HA:=hid ha;have SM:=hid (fun w' h=>Vx va a b k0 w' h hka (by omega) hb0 hb1);clear hc ha hb hle hka hB hlb eb hbl hlen he lb;obtain⟨r,hr⟩:∃r,r=a%b:=⟨_,rfl⟩;have hrb:r<b:=by rw[hr];exact ew _ hb0
 rw[<-hr]at SM ⊢;have OF:=hid (fun w'=>dU (r:Int) (by omega) (by omega) w');rw[gf]at OF;clear hr;go_enter func107,ntmps107;go_wp2_with fail
 refine HC.out.mono ?_;rintro e w1 ⟨rfl,n1,rfl⟩;go_wp2_with fail
 refine(SM.out _ (HA.out.drewN _)).mono ?_;rintro e w2 ⟨v2,rfl,h2,hb2⟩;have H2:=hid h2;have B2:=hid (y8 hb2);clear h2 hb2;go_wp2_with fail
 refine(OF.out _).mono ?_;rintro e w3 ⟨v3,rfl,h3,hb3⟩;have H2':=hid (H2.out.below hb3);have B3:Hid (Below w.heap.size w w3):=bt0 B2 hb3;have H3:=hid h3;clear h3 hb3;go_wp2;go_ret2;exact⟨_,_,rfl,H2'.out,H3.out,B3.out⟩
theorem _root_.Go.Proofs.YtofdjfdnckmmmaaGreatDoor.Lim.cellsOf {w:World}{ao:Option Addr}{l:List Nat}{n c:Nat}(h:Lim w (.slice ao n c) l) (hn:n=l.length) (h1:1<=n):
  ∃b off,ao=some ⟨b,off,none⟩/\b<w.heap.size/\∀i,i<n->w.cell? ⟨b,off+i,none⟩=some (.int .u32 ((l.getD i 0:Nat):Int)):=by
 obtain⟨-,ao',cap,e,-,-,hc⟩:=h;simp only[Value.slice.injEq]at e;obtain⟨rfl,-,-⟩:=e;rcases hc with h|⟨b,off,rfl,h2,h3⟩
 .omega
 .exact⟨b,off,rfl,h2,by rw[hn];exact h3⟩
theorem OT (va vb:Value) (a b k0:Nat) (w:World) (ha:NV w va a) (hb:NV w vb b) (hle:b<=a) (hb1:4294967296<=b) (hka:a<2^k0) (hk0:k0<=40000000000000):
  Calls prog 107 #[va,vb] w (yA w (a/b) (a%b)):=by
 have hs:¬aK (a:Int) (b:Int)<0:=by unfold aK;rw[ag (by omega)];split <;> decide
 have hkb:b<2^k0:=de hle hka;have hc:=jF va vb a b w ha hb;generalize aK (a:Int) (b:Int)=sg at *;obtain⟨la,hla,ea,⟨-,aa,ca,hva,hca,hma,hA⟩,hal⟩:=ha.len hka;obtain⟨lb,hlb,eb,⟨-,ab,cb,rfl,hcb,hmb,hB⟩,hbl⟩:=hb.len hkb
 obtain⟨m,hm⟩:∃m,lb.length=m+2:=by
  have h1:=fV hlb.1;rcases eJ lb.length 2 with h|h
  .exfalso
   have h2:2^(32*lb.length)<=2^32:=aG (by decide) (by omega);omega
  .exact⟨lb.length-2,by omega⟩
 obtain⟨s,hsd⟩:∃s,s=32-Lib.bitLen (lb.getD (m+1) 0):=⟨_,rfl⟩;have IN:=hid (fun lu lv (hu:dA lu) (hv:dA lv) (eu:val lu=a*2^s) (ev:val lv=b*2^s)=>(⟨hla,hlb,hu,hv,by rw[hm],hsd,by rw[ea,eu],by rw[eb,ev],by rw[ea,eb];exact hle⟩:vK la lb (m+1) s lu lv));obtain⟨d0,d1,d2⟩:=Ck hlb (show lb.length=(m+1)+1 from hm) rfl;obtain⟨d,hd⟩:∃d,d=lb.getD (m+1) 0:=⟨_,rfl⟩;rw[<-hd]at hsd d0 d1;have hbl32:=Lib.bitLen_le d 32 (by omega) (by omega);have es:(32:Int)-(Lib.bitLen d:Int)=(s:Int):=by omega
 have hs31:s<=31:=by
  obtain⟨j,hj,e,-,-⟩:=AW d0 d1;omega
 rcases hB with h|⟨bb,ob,rfl,hbb,hcell⟩
 .exfalso;omega
 have hck:=hcell (m+1) (by omega);rw[<-hd]at hck;unfold maxLen at hma hmb;obtain⟨na,hna⟩:∃na,na=la.length:=⟨_,rfl⟩;obtain⟨nb,hnb⟩:∃nb,nb=lb.length:=⟨_,rfl⟩;rw[<-hnb]at hc hb hcb ⊢;rw[show m+1=nb-1 by omega]at hck;rw[<-hna]at hva hca;have hna1:na<=1600000000000:=by omega
 have hm1:nb<=1600000000000:=by omega
 have hb2:2<=nb:=by omega
 have HNB:Hid (nb=m+2):=hid (by omega);subst hva;have HC:=hid hc;have HA:=hid ha;have HB:=hid hb
 have NU:=hid (fun lu (hu:dA lu) (eu:val lu=a*2^s)=>(show lu.length<=1600000000000 by
  have h1:a*2^s<2^(k0+s):=by rw[aB];exact cS hka (az _)
  have :=hu.len (by rw[eu];exact h1);omega))
 have HLE:Hid (4294967296<=a):=hid (by omega);have LA:=hid (fun w' x (h:NV w' (.slice aa na ca) a) (hx:x=(s:Int))=>Co _ a s k0 x w' h hx hka (by omega) (by omega));have LB:=hid (fun w' x (h:NV w' (.slice (some ⟨bb,ob,none⟩) nb cb) b) (hx:x=(s:Int))=>Co _ b s k0 x w' h hx hkb (by omega) (by omega));have HNA:=hid hna;have EA:=hid ea;have EB:=hid eb;have ES:=hid es;clear hc ha hb hle hka hkb hcell hbl hal hlb hla hsd hd d0 d2 hA ea eb hna hm hnb es hbl32;go_enter func107,ntmps107;go_wp2_with fail
 refine HC.out.mono ?_;rintro e w1 ⟨rfl,n1,rfl⟩;go_wp2_with fail
 refine(K7 _ (by omega) (by omega) _).mono ?_;rintro e w1 ⟨rfl,rfl⟩;go_wp2_with fail
 refine(LA.out _ _ (HA.out.drewN _) ?_).mono ?_
 .exact ES.out
 rintro e w2 ⟨v1,rfl,hv1,hb1'⟩;obtain⟨lu,au,u1,u2,u3,rfl,u4⟩:=hv1;have hnu:=NU.out lu u1 u2
 have hnu0:lu≠[]:=by
  rintro rfl;have h0:a*2^s=0:=u2.symm;rcases pB.1 h0 with h|h
  .have :=HLE.out;omega
  .have :=az s;omega
 obtain⟨nu,enu⟩:∃nu,nu=lu.length:=⟨_,rfl⟩
 have hnu1:1<=nu:=by
  rw[enu];rcases fl lu.length with h|h
  .exact absurd (gp.1 h) hnu0
  .exact h
 rw[<-enu]at hnu u3 ⊢;obtain⟨bu,ou,rfl,hbu,hcu⟩:=u3.cellsOf enu hnu1;have ENU:=hid enu;have B2:=hid (y8 hb1');have U:=hid (And.intro u1 u2);have CU:=hid hcu;clear u1 u2 u3 u4 hb1' enu hcu hbu hnu0;obtain⟨i0,hi,hz0,hz1,hz2⟩:=info_parts wZ;have HI:=hid hi;have HZ0:=hid hz0;have HZ1:=hid hz1;have HZ2:=hid hz2;clear hi hz0 hz1 hz2;go_wp2_with (at_builtin;refine wpList_append_grows _ rfl _ _ 66 rfl 102 i0 (.int .u32 0) 1 4 underlying66 HI.out HZ0.out HZ1.out HZ2.out rfl (by decide) (some ⟨bu,ou,none⟩) nu nu (lc lu) rfl ?q0 ?q1 ?q2 ⟨w2.heap.size,0,none⟩ 1 1 [.int .u32 0] rfl rfl (cell_one_new _ _ _) ?q3 (by omega) ?q4 ?q5 ?_)
 case q0=>intro h;cases h
 case q1=>rw[oO,<-ENU.out,fI]
 case q2=>
  rintro b hb j u hj;cases hb
  have hj2:j<nu:=by
   have :=(iH.1 hj).1;rw[oO,<-ENU.out]at this;exact this
  refine Lib.cell?_alloc_some _ ?_;rw[show(⟨bu,ou,none⟩:Addr).add j=⟨bu,ou+j,none⟩ from by unfold Addr.add;split <;> simp_all,CU.out j hj2,<-hj];simp [lc,List.getD,show j<lu.length by rw[<-ENU.out];exact hj2]
 case q3=>intro u hu;simp at hu;subst hu;rfl
 case q4=>unfold maxLen;omega
 case q5=>omega
 clear HI HZ0 HZ1 HZ2 i0;intro v' w3 hown hgrow;obtain⟨g,cg,rfl,hg1,hg2⟩:=World.ownsRow.form hown (by omega);have B3:Hid (Below w.heap.size w w3):=hid ((B2.out.alloc B2.out.size _).trans (vQ hgrow (by have :=B2.out.size;simp;omega) (by intro k hk;cases hk)));have hgb:w.heap.size<=g:=by have :=B2.out.size;omega
 have O3:Hid (w3.ownsRow w.heap.size 102 1 (.slice (some ⟨g,0,none⟩) (nu+1) cg) (nu+1) (lc (lu++[0]))):=hid (by rw[Lr];exact H_ hown (by have :=B2.out.size;omega));clear hown hgrow hg1 CU;go_wp2_with fail
 refine(LB.out _ _ (HB.out.below B3.out) ES.out).mono ?_;rintro e w4 ⟨v4,rfl,hv4,hb4⟩;obtain⟨lv,av,v1,v2,v3,rfl,v5⟩:=hv4;have ovi:=IN.out lu lv U.out.1 v1 U.out.2 v2;obtain⟨f1,f2,f3,f4,f5,f6,f7⟩:=ovi.facts;have f2:lv.length=m+2:=f2;rw[f2]at v3 ⊢;obtain⟨bv,ov,rfl,hbv,hcv⟩:=v3.cellsOf f2.symm (by omega);have hbvg:w3.heap.size<=bv:=v5 _ rfl;have hvg:bv≠g:=by omega
 have st:=ovi.start;rw[EA.out,v2,<-HNA.out]at st;obtain⟨mq,hmq⟩:∃mq,mq=na-(m+1):=⟨_,rfl⟩;rw[<-hmq]at st;have ST:Hid (nA (a*2^s) (b*2^s) mq (m+2) mq ((lu++[0]).take (na+1)) (List.replicate mq 0)):=hid st;have hnu2:na<=nu:=by rw[HNA.out,ENU.out];exact f4
 have hna2:m+2<=na:=by rw[HNA.out];exact f6
 have hmq1:na+1=mq+(m+2):=by omega
 have VF:=hid (And.intro f2 (And.intro v1.1 (And.intro f3 (And.intro v2 f7))));have CV:=hid hcv;have B4:=bt0 B3 hb4;have O4:=hid (Ld (Gc O3.out hb4 (by rintro ao m c p e rfl;cases e;exact hg2)) (show na+1<=nu+1 by omega))
 have hcg:nu+1<=cg/\cg<=9223372036854775807:=by
  rcases O3.out.2 with⟨h,-⟩|⟨g',cap,cur,e,-,-,h1,h2,-⟩
  .cases h
  .cases e;unfold maxLen at h2;omega
 obtain⟨hcg1,hcg2⟩:=hcg;have hgs:g<w4.heap.size:=aX hg2 hb4.size;clear ovi f1 f2 f3 f4 f5 f6 f7 v1 v2 v3 v5 hcv hb4 st O3 B3 B2 HC HA HB LA LB IN NU HLE hbvg hmq hg2;have hfin:Hid (∀(A B:Nat),A=b*2^s->True):=hid (fun _ _ _=>trivial);go_wp2_with fail
 go_loopw [9] (fun uv wr=>uv=.slice (some ⟨g,0,none⟩) (nu+1) cg/\wr=w4) (fun _ _=> 0)
 case atStart=>exact⟨rfl,rfl⟩
 case round=>
  obtain⟨rfl,rfl⟩:=hrel;go_wp2_with (refine wW rfl _ _ rfl _ _ mq mq rfl rfl (by omega) (by omega) le0 (by omega) ?_;intro w5 hown5 hb5)
  obtain⟨gq,hgq⟩:∃q,q=wr.heap.size:=⟨_,rfl⟩;rw[<-hgq]at hown5 ⊢;have hqg:gq≠g:=by omega
  have hqw:w.heap.size<=gq:=by have :=B4.out.size;omega
  have hqs:gq<w5.heap.size:=by
   rcases hown5.2 with⟨h,-⟩|⟨g',cap,cur,e,-,hh,-⟩
   .cases h
   .cases e;exact(mQ.1 hh).1
  have o5:w5.ownsRow w.heap.size 102 1 (.slice (some ⟨g,0,none⟩) (mq+(m+2)) cg) (mq+(m+2)) (lc ((lu++[0]).take (na+1))):=by
   have :=Gc O4.out hb5 (by rintro ao m c p e rfl;cases e;exact hgs);rw[hmq1]at this ⊢;exact this
  have hbvs:bv<wr.heap.size:=hbv;have cv5:∀i,i<m+2->w5.cell? ⟨bv,ov+i,none⟩=some (.int .u32 ((lv.getD i 0:Nat):Int)):=fun i hi=>(hb5.cell (p:=⟨bv,ov+i,none⟩) hbvs).trans (CV.out i hi)
  have hqv:bv≠gq:=by omega
  have O5:=hid o5;have OQ5:=hid (H_ hown5 hqw);have CV5:=hid cv5;have B5:=bt0 B4 hb5;clear o5 hown5 cv5 hb5 O4 B4 CV hgq hbvs hbv hgs hqs
  go_loopw [13] (fun iv wr=>∃(k:Nat) (iz:Int) (U o:List Nat),k<=mq/\iz<=(k:Int)-1/\(k:Int)-1<=iz/\iv=.int .i64 iz/\Hid (nA (a*2^s) (b*2^s) mq (m+2) k U o)/\
    Hid (wr.ownsRow w.heap.size 102 1 (.slice (some ⟨g,0,none⟩) (mq+(m+2)) cg) (mq+(m+2)) (lc U))/\Hid (wr.ownsRow w.heap.size 102 1 (.slice (some ⟨gq,0,none⟩) mq mq) mq (lc o))/\
    Hid (∀i,i<m+2->wr.cell? ⟨bv,ov+i,none⟩=some (.int .u32 ((lv.getD i 0:Nat):Int)))/\Hid (Below w.heap.size w wr))
   (fun iv _=>(intOf iv+1).toNat)
  case atStart=>exact⟨mq,(mq:Int)-1,_,_,ae _,by omega,by omega,rfl,ST,O5,OQ5,CV5,B5⟩
  case round=>
   clear O5 OQ5 CV5 B5 ST;obtain⟨k,iz,U,o,hk,hi1,hi2,rfl,REL,OU,OQ,CV,BB⟩:=hrel;by_cases hk0:k=0
   .obtain rfl:iz= -1:=by omega
    subst hk0;obtain⟨r1,r2⟩:=REL.out.fin;obtain⟨e1,e2⟩:=YQ (a:=a) (b:=b) (s:=s) rfl rfl
    have hVb:a*2^s%(b*2^s)<2^(32*(m+2)):=by
     refine wu (ew _ ?_) (by rw[<-VF.out.2.2.2.1];exact VF.out.2.2.2.2);have :=az s;exact fm (by omega) this
    have RT:=hid (fun va x w' (h:NV w' va (a*2^s%(b*2^s))) (hx:x=(s:Int))=>rp va _ s (32*(m+2)) x w' h hx hVb (by omega) (by omega));rw[e2]at RT;rw[e1]at r1;have R1:Hid (val o=a/b/\True):=hid ⟨r1,trivial⟩;have R2:Hid (val (U.take (m+2))=a*2^s%(b*2^s)/\True):=hid ⟨r2,trivial⟩;have LU:=hid (yw (Ld OU.out (show m+2<=mq+(m+2) by omega)) (REL.out.ul.take (m+2)));have LQ:=hid (yw OQ.out REL.out.ol);clear r1 r2 e1 e2 hVb hi1 hi2 hk;go_wp2_with fail
    refine(p_ _ _ _ LU.out).mono ?_;rintro e w6 ⟨⟨v6,rfl,hn6⟩,rfl⟩;rw[R2.out.1]at hn6;go_wp2_with fail
    refine(RT.out _ _ _ hn6 ?_).mono ?_
    .exact ES.out
    rintro e w7 ⟨v7,rfl,hn7,hb7⟩;have N7:=hid hn7;have LQ':=hid (LQ.out.below hb7);have B7:=bt0 BB hb7;clear hn6 hn7 hb7;go_wp2_with fail
    refine(p_ _ _ _ LQ'.out).mono ?_;rintro e w8 ⟨⟨v8,rfl,hn8⟩,rfl⟩;rw[R1.out.1]at hn8;have N8:=hid hn8;clear hn8;go_wp2;go_ret2;exact⟨_,_,rfl,N8.out,N7.out,B7.out⟩
   .obtain⟨j,rfl⟩:∃j,k=j+1:=⟨k-1,by omega⟩
    obtain rfl:iz=(j:Int):=by omega
    have sp:=REL.out.split;obtain⟨s1,s2,s3,s4,s5⟩:=sp
    have HD:Hid (IQ (U.take j) ((U.drop j).take (m+2+1)) (U.drop (j+(m+2)+1)) lv m j):=
     hid ⟨s2,s3,VF.out.1,(REL.out.ul.drop j).take _,VF.out.2.1,VF.out.2.2.1,by rw[VF.out.2.2.2.1];exact s5⟩
    have OU2:Hid (wr.ownsRow w.heap.size 102 1 (.slice (some ⟨g,0,none⟩) (mq+(m+2)) cg) (mq+(m+2)) (lc (U.take j++((U.drop j).take (m+2+1)++U.drop (j+(m+2)+1))))):=hid (by rw[<-s1];exact OU.out);have DG:=hid (VC _ _ _ lv m j g (cg-j) (mq+(m+2)) cg w.heap.size bv ov (m+2) wr HD OU2 (by omega) (by omega) (by omega) (by omega) (by omega) (by omega) hvg CV);clear hi1 hi2 s1 s2 s3 s4 s5 HD OU2 hk0;go_wp2_with fail
    rw[show j+(m+2)+1-j=m+3 by omega];refine DG.out.mono ?_;clear DG;rintro e w6 ⟨rfl,KP,u',hul,hL,hvu,OW⟩;rw[VF.out.2.2.2.1]at hvu ⊢;obtain⟨q,hq⟩:∃q,q=val ((U.drop j).take (m+2+1))/(b*2^s):=⟨_,rfl⟩;rw[<-hq];obtain⟨hq1,hst⟩:=REL.out.step (by rw[<-VF.out.2.2.2.1];exact VF.out.2.2.2.2) hq hul hL hvu;have OQ6:=KP.own OQ.out hqg;obtain⟨hcz,hfz⟩:=ux OQ6 j (by omega);have HST:=hid hst;have KQ:=fun x=>(Kp.refl gq w6).setCell (o:=j) x
    have OW7:=hid (fun x=>(KQ x).own OW (gX hqg));have CV7:=hid (fun x=>(KQ x).cells hqv (KP.cells hvg CV.out));have OQ7:=hid (sw OQ6 j q rfl);have B7:=hid (fun x=>(BB.out.trans (KP.below hgb)).trans ((KQ x).below hqw));clear hst hvu hul hL OW KP OQ6 KQ hq REL OU OQ CV BB;go_wp2;go_roundw
    case rel=>exact⟨j,(j:Int)-1,_,_,by omega,by omega,by omega,by go_num,HST,hid (OW7.out _),OQ7,hid (CV7.out _),hid (B7.out _)⟩
    case measure=>simp [intOf] <;> omega
theorem pV (va vb:Value) (a b k0:Nat) (w:World) (ha:NV w va a) (hb:NV w vb b) (hb0:0<b) (hka:a<2^k0) (hk0:k0<=40000000000000):
  Calls prog 107 #[va,vb] w (yA w (a/b) (a%b)):=by
 rcases eJ a b with h|h
 .rw[nY h,lV h];exact UD va vb a b k0 w ha hb h hka hk0
 .rcases eJ b 4294967296 with h1|h1
  .exact Wo va vb a b k0 w ha hb h hb0 h1 hka hk0
  .exact OT va vb a b k0 w ha hb h h1 hka hk0
open Go.RowKit Nt Fm
open Ea (Pr iF cy eU jN dz cN)
def PV (w:World) (v:Value) (x:Pr):Prop:= ∃a b,v=.agg #[a,b]/\NV w a x.l/\NV w b x.h
theorem PV.below {w w':World}{v:Value}{x:Pr}(h:PV w v x) (hb:Below w.heap.size w w'):PV w' v x:=by
 obtain⟨a,b,h1,h2,h3⟩:=h;exact⟨a,b,h1,h2.below hb,h3.below hb⟩
theorem PV.parts {w:World}{v:Value}{x:Pr}(h:PV w v x):∃a1 n1 c1 a2 n2 c2,v=.agg #[.slice a1 n1 c1,.slice a2 n2 c2]/\NV w (.slice a1 n1 c1) x.l/\NV w (.slice a2 n2 c2) x.h:=by
 obtain⟨a,b,h1,h2,h3⟩:=h;obtain⟨a1,n1,c1,rfl⟩:=h2.shape;obtain⟨a2,n2,c2,rfl⟩:=h3.shape;exact⟨a1,n1,c1,a2,n2,c2,h1,h2,h3⟩
def v_ (w:World) (x:Pr) (e:Ending) (w':World):Prop:= ∃v,e=.returned v/\PV w' v x/\Below w.heap.size w w'
def Bp (w:World) (b:Nat) (x y:Value):Prop:=w.heap[b]?=some (.cells #[x,y] 238 (0,0))
theorem Bp.new (w:World) (x y:Value):Bp (w.alloc (.cells #[x,y] 238)) w.heap.size x y:=heap_alloc_new w _
theorem Bp.new2 (w:World) (o:Obj) (x y:Value):Bp ((w.alloc o).alloc (.cells #[x,y] 238)) (w.heap.size+1) x y:=by
 have :=Bp.new (w.alloc o) x y
 rwa [size_alloc]at this
theorem Bp.new3 (w:World) (o p:Obj) (x y:Value):Bp (((w.alloc o).alloc p).alloc (.cells #[x,y] 238)) (w.heap.size+1+1) x y:=by
 have h:=Bp.new ((w.alloc o).alloc p) x y;rw[show((w.alloc o).alloc p).heap.size=w.heap.size+1+1 from by simp]at h;exact h
theorem Bp.lt {w:World}{b:Nat}{x y:Value}(h:Bp w b x y):b<w.heap.size:=(mQ.1 h).1
theorem Bp.below {w w':World}{b:Nat}{x y:Value}(h:Bp w b x y) (hb:Below w.heap.size w w'):Bp w' b x y:=(hb.block b h.lt).trans h
theorem Bp.alloc {w:World}{b:Nat}{x y:Value}(h:Bp w b x y) (o:Obj):Bp (w.alloc o) b x y:=h.below (br0.alloc le0 o)
theorem Bp.drew {w:World}{b:Nat}{x y:Value}(h:Bp w b x y):Bp w.drew b x y:=h
theorem Bp.drewN {w:World}{b:Nat}{x y:Value}(h:Bp w b x y) (n:Nat):Bp (w.drewN n) b x y:=h
theorem Bp.cells {w:World}{b:Nat}{x y:Value}(h:Bp w b x y):
  w.cell? ⟨b,0,none⟩=some x/\w.cell? ⟨b,1,none⟩=some y/\w.frozen? ⟨b,0,none⟩=false/\w.frozen? ⟨b,1,none⟩=false:=by
 unfold Bp at h;refine⟨?_,?_,?_,?_⟩ <;> simp [World.cell?,World.frozen?,h,ai2]
theorem Bp.set0 {w:World}{b:Nat}{x y:Value}(h:Bp w b x y) (v:Value):Bp (w.setCell ⟨b,0,none⟩ v) b v y:=heap_set h
theorem Bp.set1 {w:World}{b:Nat}{x y:Value}(h:Bp w b x y) (v:Value):Bp (w.setCell ⟨b,1,none⟩ v) b x v:=heap_set h
theorem Bp.set2 {w:World}{b:Nat}{x y:Value}(h:Bp w b x y) (x' y':Value):Bp ((w.setCell ⟨b,0,none⟩ x').setCell ⟨b,1,none⟩ y') b x' y':=(h.set0 x').set1 y'
theorem Bp.set {w:World}{b b' o:Nat}{x y:Value}(h:Bp w b x y) (hb:b≠b') (v:Value):Bp (w.setCell ⟨b',o,none⟩ v) b x y:=(Below.heap_setCell _ _ _ _ hb).trans h
theorem NV.setP {w:World}{b:Nat}{a1 a2:Option Addr}{n1 c1 n2 c2:Nat}{v:Value}{n:Nat}(h:NV w v n) (hb:Bp w b (.slice a1 n1 c1) (.slice a2 n2 c2)) (o:Nat) (u:Value):NV (w.setCell ⟨b,o,none⟩ u) v n:=by
 refine h.other (B:=b) ?_ (by simp [World.setCell]) (fun k hk=>Below.heap_setCell _ _ _ _ hk);intro o;unfold Bp at hb;simp only[World.cell?,hb]
 match o with
 | 0=>simpa using dO _ _ _
 | 1=>simpa using dO _ _ _
 |o+2=>simp
theorem NV.setP2 {w:World}{b:Nat}{a1 a2 a1' a2':Option Addr}{n1 c1 n2 c2 n1' c1' n2' c2':Nat}{v:Value}{n:Nat}(h:NV w v n) (hb:Bp w b (.slice a1 n1 c1) (.slice a2 n2 c2)):
  NV ((w.setCell ⟨b,0,none⟩ (.slice a1' n1' c1')).setCell ⟨b,1,none⟩ (.slice a2' n2' c2')) v n:=(h.setP hb 0 _).setP (hb.set0 _) 1 _
theorem jA {B b:Nat}{w w1:World}(h:Below B w w1) (hb:B<=b) (x y:Value):Below B w ((w1.setCell ⟨b,0,none⟩ x).setCell ⟨b,1,none⟩ y):=(h.setCell hb _).setCell hb _
theorem Jx (a n:Nat):cN a (2^n)=if f' a n=true then a/2^n+1 else a/2^n:=by
 unfold cN f';by_cases h:a%2^n=0 <;> simp [h]
def GI (w:World) (b:Nat) (x:Pr):Prop:= ∃a1 n1 c1 a2 n2 c2,Bp w b (.slice a1 n1 c1) (.slice a2 n2 c2)/\NV w (.slice a1 n1 c1) x.l/\NV w (.slice a2 n2 c2) x.h
theorem GI.below {w w':World}{b:Nat}{x:Pr}(h:GI w b x) (hb:Below w.heap.size w w'):GI w' b x:=by
 obtain⟨a1,n1,c1,a2,n2,c2,h1,h2,h3⟩:=h;exact⟨a1,n1,c1,a2,n2,c2,h1.below hb,h2.below hb,h3.below hb⟩
theorem GI.lt {w:World}{b:Nat}{x:Pr}(h:GI w b x):b<w.heap.size:=by
 obtain⟨a1,n1,c1,a2,n2,c2,h1,h2,h3⟩:=h;exact h1.lt
theorem GI.store {w:World}{b b':Nat}{x y:Pr}(h:GI w b x) (h':GI w b' y) (hne:b≠b') (a1':Option Addr) (n1' c1':Nat) (a2':Option Addr) (n2' c2':Nat):
  GI ((w.setCell ⟨b',0,none⟩ (.slice a1' n1' c1')).setCell ⟨b',1,none⟩ (.slice a2' n2' c2')) b x:=by
 obtain⟨a1,n1,c1,a2,n2,c2,h1,h2,h3⟩:=h;obtain⟨e1,f1,g1,e2,f2,g2,h4,-,-⟩:=h';exact⟨a1,n1,c1,a2,n2,c2,(h1.set hne _).set hne _,h2.setP2 h4,h3.setP2 h4⟩
theorem GI.put {w:World}{b:Nat}{x y:Pr}(h:GI w b x) {a1:Option Addr}{n1 c1:Nat}{a2:Option Addr}{n2 c2:Nat}(hl:NV w (.slice a1 n1 c1) y.l) (hh:NV w (.slice a2 n2 c2) y.h):
  GI ((w.setCell ⟨b,0,none⟩ (.slice a1 n1 c1)).setCell ⟨b,1,none⟩ (.slice a2 n2 c2)) b y:=by
 obtain⟨e1,f1,g1,e2,f2,g2,h1,-,-⟩:=h;exact⟨a1,n1,c1,a2,n2,c2,h1.set2 _ _,hl.setP2 h1,hh.setP2 h1⟩
theorem GI.drew {w:World}{b:Nat}{x:Pr}(h:GI w b x):GI w.drew b x:=h
theorem GI.drewN {w:World}{b:Nat}{x:Pr}(h:GI w b x) (n:Nat):GI (w.drewN n) b x:=h
theorem GI.new {w:World}{x:Pr}{a1:Option Addr}{n1 c1:Nat}{a2:Option Addr}{n2 c2:Nat}(hl:NV w (.slice a1 n1 c1) x.l) (hh:NV w (.slice a2 n2 c2) x.h):
  GI (w.alloc (.cells #[.slice a1 n1 c1,.slice a2 n2 c2] 238)) w.heap.size x:=⟨a1,n1,c1,a2,n2,c2,Bp.new w _ _,hl.alloc _,hh.alloc _⟩
theorem GI.alloc {w:World}{b:Nat}{x:Pr}(h:GI w b x) (o:Obj):GI (w.alloc o) b x:=h.below (br0.alloc le0 o)
theorem L7 (v:Value) (x:Pr) (n k0:Nat) (X:Int) (w:World) (h:PV w v x) (hX:X=(n:Int)) (hl:x.l<2^k0) (hh:x.h<2^k0) (hk0:k0<=110000000000000) (hn:n<=120000000000000):
  Calls prog 249 #[v,.int .i64 X] w (v_ w (iF x n)):=by
 subst hX;obtain⟨a1,n1,c1,a2,n2,c2,rfl,h1,h2⟩:=h.parts;obtain⟨lo,hi⟩:=x;simp only at hl hh h1 h2
 have hq:hi/2^n<2^(k0+1):=by
  have :=iG hi (2^n);rw[bH];omega
 have h1q:1<2^(k0+1):=by rw[bH];have :=az k0;omega
 have R1:=hid (fun w' hv=>rp (.slice a1 n1 c1) lo n k0 n w' hv rfl hl (by omega) hn);have R2:=hid (fun w' hv=>rp (.slice a2 n2 c2) hi n k0 n w' hv rfl hh (by omega) hn);have OF:=hid (fun w'=>dU 1 (by omega) (by omega) w');have PL:=hid (fun va vb w' (ha:NV w' va (hi/2^n)) (hb:NV w' vb 1)=>gN va vb _ 1 (k0+1) w' ha hb hq h1q (by omega))
 have hcase:(f' hi n=true/\iF ⟨lo,hi⟩ n=⟨lo/2^n,hi/2^n+1⟩)\/(f' hi n=false/\iF ⟨lo,hi⟩ n=⟨lo/2^n,hi/2^n⟩):=by
  unfold iF;cases hb:f' hi n
  .right;rw[Jx,hb];exact⟨rfl,rfl⟩
  .left;rw[Jx,hb];exact⟨rfl,rfl⟩
 generalize iF ⟨lo,hi⟩ n=Y at *;generalize lo/2^n=ql at *;generalize hi/2^n=qh at *;generalize f' lo n=b1 at *;generalize f' hi n=b2 at *;have H1:=hid h1;have H2:=hid h2;clear h1 h2 hl hh hq h1q h;rcases hcase with⟨rfl,rfl⟩|⟨rfl,rfl⟩
 all_goals
  go_enter func249,ntmps249;go_wp2_with fail
  refine(R1.out _ (H1.out.below (gL _ _ _))).mono ?_;rintro e w1 ⟨v1,rfl,hv1,hb1⟩;have B1:=hid (af (gL w _ _) le0 hb1);have X1:=hid (((Bp.new w (.slice a1 n1 c1) (.slice a2 n2 c2)).alloc _).below hb1);have Z1:=hid ((Bp.new2 w _ (.slice none 0 0) (.slice none 0 0)).below hb1);have V1:=hid hv1;clear hv1 hb1;obtain⟨x0,x1,-,-⟩:=X1.out.cells;go_wp2_with fail
  refine(R2.out _ (H2.out.below B1.out)).mono ?_;rintro e w2 ⟨v2,rfl,hv2,hb2⟩;have B2:=bt0 B1 hb2;have Z2:=hid (Z1.out.below hb2);have V12:=hid (V1.out.below hb2);have V2:=hid hv2;clear hv2 hb2 x0 x1
 .go_wp2_with fail
  refine(OF.out _).mono ?_;rintro e w3 ⟨v3,rfl,hv3,hb3⟩;have B3:=bt0 B2 hb3;have Z3:=hid (Z2.out.below hb3);have V13:=hid (V12.out.below hb3);have V23:=hid (V2.out.below hb3);have V3:=hid hv3;clear hv3 hb3;go_wp2_with fail
  refine(PL.out _ _ _ V23.out V3.out).mono ?_;rintro e w4 ⟨v4,rfl,hv4,hb4⟩;have B4:=bt0 B3 hb4;have Z4:=hid (Z3.out.below hb4);have V14:=hid (V13.out.below hb4);obtain⟨p1,q1,r1,rfl⟩:=V14.out.shape;obtain⟨p4,q4,r4,rfl⟩:=hv4.shape;have V4:=hid hv4;clear hv4 hb4;obtain⟨s0,s1,t0,t1⟩:=Z4.out.cells;go_wp2;refine bodyPost_ret (v:= .agg #[.slice p1 q1 r1,.slice p4 q4 r4]) (by simp [results,Tryz.results249,go_sem,s0,s1]) rfl ?_;exact⟨_,rfl,⟨_,_,rfl,V14.out.setP2 Z4.out,V4.out.setP2 Z4.out⟩,jA B4.out (by omega) _ _⟩
 .obtain⟨p1,q1,r1,rfl⟩:=V12.out.shape
  obtain⟨p4,q4,r4,rfl⟩:=V2.out.shape;obtain⟨s0,s1,t0,t1⟩:=Z2.out.cells;go_wp2;refine bodyPost_ret (v:= .agg #[.slice p1 q1 r1,.slice p4 q4 r4]) (by simp [results,Tryz.results249,go_sem,s0,s1]) rfl ?_;exact⟨_,rfl,⟨_,_,rfl,V12.out.setP2 Z2.out,V2.out.setP2 Z2.out⟩,jA B2.out (by omega) _ _⟩
