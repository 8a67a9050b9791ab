import Derived.Test.YtofdjfdnckmmmaaGreatDoorRs
import Derived.Test.YtofdjfdnckmmmaaGreatDoorDe
import Derived.Shelf.Strconv.Itoa3
import Derived.Shelf.Strings.Repeat
import Derived.Shelf.Strings.OnBuilder
import Derived.Shelf.GgClosure.Gives
import Derived.Deep.RegionHeld3
import Derived.Deep.AppendLies
import Derived.Test.YtofdjfdnckmmmaaGreatDoorLys
set_option linter.all false
set_option maxHeartbeats 8000000
set_option maxRecDepth 100000
open Go.Proofs.Tryz
open Go.Lib (hid decDigits)
namespace Go.Proofs.YtofdjfdnckmmmaaGreatDoor
open Go.Shelf Go.RowKit Go.Lib Go.Sort Nt
theorem Tryz.laysItoa:Go.Proofs.LaysM.n171 prog Tryz.RN:= {
 mixed:=by kernel_rfl
 f129:=aA func223 (by kernel_rfl)
 f171:=aA func73 (by kernel_rfl)
 f243:=aA func112 (by kernel_rfl)
 f246:=aA func144 (by kernel_rfl)
 f283:=aA func187 (by kernel_rfl)
 f284:=aA func188 (by kernel_rfl)
 f285:=aA func189 (by kernel_rfl)
 f286:=aA func190 (by kernel_rfl)
 f317:=aA func222 (by kernel_rfl)
 f318:=aA func224 (by kernel_rfl)
 f319:=aA func225 (by kernel_rfl)
 f320:=aA func226 (by kernel_rfl)
 f337:=aA func105 (by kernel_rfl)
 f338:=aA func240 (by kernel_rfl)
 t0:=underlying0
 a0:=isAgg0
 z0:=sizeOf0
 v0:=zeroValue0
 t2:=underlying2
 a2:=isAgg2
 z2:=sizeOf2
 v2:=zeroValue2
 t3:=underlying3
 a3:=isAgg3
 z3:=sizeOf3
 v3:=zeroValue3
 t4:=underlying4
 a4:=isAgg4
 z4:=sizeOf4
 v4:=zeroValue4
 t5:=underlying5
 a5:=isAgg5
 z5:=sizeOf5
 v5:=zeroValue5
 t9:=underlying9
 a9:=isAgg9
 z9:=sizeOf9
 v9:=zeroValue9
 t20:=underlying20
 a20:=isAgg20
 z20:=sizeOf20
 v20:=zeroValue20
 t37:=underlying37
 a37:=isAgg37
 z37:=sizeOf37
 v37:=zeroValue37
 t46:=underlying89
 a46:=isAgg89
 z46:=sizeOf89
 v46:=zeroValue89
 t51:=underlying102
 a51:=isAgg102
 z51:=sizeOf102
 v51:=zeroValue102
 t53:=underlying24
 a53:=isAgg24
 z53:=sizeOf24
 v53:=zeroValue24
 t171:=underlying202
 a171:=isAgg202
 z171:=sizeOf202
 v171:=zeroValue202
 t173:=underlying204
 a173:=isAgg204
 z173:=sizeOf204
 v173:=zeroValue204
 t212:=underlying234
 a212:=isAgg234
 z212:=sizeOf234
 v212:=zeroValue234
 t213:=underlying235
 a213:=isAgg235
 z213:=sizeOf235
 t232:=underlying177
 a232:=isAgg177
 z232:=sizeOf177
 v232:=zeroValue177
 t233:=underlying257
 a233:=isAgg257
 z233:=sizeOf257
 v233:=zeroValue257
 g17:=by kernel_rfl
 g18:=by kernel_rfl
 g19:=by kernel_rfl
 i0:=by kernel_rfl
 i2:=by kernel_rfl
 i3:=by kernel_rfl
 i4:=by kernel_rfl
 i5:=by kernel_rfl
 i9:=by kernel_rfl
 i20:=by kernel_rfl
 i37:=by kernel_rfl
 i46:=by kernel_rfl
 i51:=by kernel_rfl
 i53:=by kernel_rfl
 i171:=by kernel_rfl
 i173:=by kernel_rfl
 i212:=by kernel_rfl
 i232:=by kernel_rfl
 i233:=by kernel_rfl
 m17:=by kernel_rfl
 m18:=by kernel_rfl
 m19:=by kernel_rfl }
theorem Tryz.laysRepeat:Go.Proofs.Lays.n105 prog Tryz.RN:= { Tryz.laysItoa with
 f99:=aA func55 (by kernel_rfl)
 f105:=aA func26 (by kernel_rfl)
 f165:=aA func36 (by kernel_rfl)
 f166:=aA func13 (by kernel_rfl)
 f169:=aA func17 (by kernel_rfl)
 f170:=aA func15 (by kernel_rfl)
 f206:=aA func91 (by kernel_rfl)
 f212:=aA func54 (by kernel_rfl)
 f240:=aA func35 (by kernel_rfl)
 f241:=aA func70 (by kernel_rfl)
 f263:=aA func89 (by kernel_rfl)
 f264:=aA func90 (by kernel_rfl)
 f276:=aA func69 (by kernel_rfl)
 f277:=aA func111 (by kernel_rfl)
 t70:=underlying36
 a70:=isAgg36
 z70:=sizeOf36
 v70:=zeroValue36
 t72:=underlying39
 a72:=isAgg39
 z72:=sizeOf39
 v72:=zeroValue39
 t75:=underlying42
 a75:=isAgg42
 z75:=sizeOf42
 v75:=zeroValue42
 t76:=underlying43
 a76:=isAgg43
 z76:=sizeOf43
 v76:=zeroValue43
 t109:=underlying94
 a109:=isAgg94
 z109:=sizeOf94
 v109:=zeroValue94
 t127:=underlying79
 a127:=isAgg79
 z127:=sizeOf79
 v127:=zeroValue79
 t146:=underlying128
 a146:=isAgg128
 z146:=sizeOf128
 v146:=zeroValue128
 t148:=underlying130
 a148:=isAgg130
 z148:=sizeOf130
 v148:=zeroValue130
 t164:=underlying111
 a164:=isAgg111
 z164:=sizeOf111
 v164:=zeroValue111 }
theorem Tryz.laysJoin:Go.Proofs.Lays.n156 prog Tryz.RN:= { Tryz.laysRepeat with
 f156:=aA func14 (by kernel_rfl)
 t31:=underlying40
 a31:=isAgg40
 z31:=sizeOf40
 v31:=zeroValue40 }
theorem Au:Builder.Extra prog Tryz.RN:= {
 sizeBuilder:=by kernel_rfl
 liesBuilder:=by kernel_rfl
 t5:=Tryz.laysRepeat.t5
 a5:=Tryz.laysRepeat.a5
 z5:=Tryz.laysRepeat.z5
 v5:=Tryz.laysRepeat.v5
 infoByte:=by kernel_rfl
 cellsByte:=by kernel_rfl
 sizeByte:=by kernel_rfl
 neB5:=by decide }
theorem A7:Builder.Extra prog Tryz.RN:= {
 sizeBuilder:=by kernel_rfl
 liesBuilder:=by kernel_rfl
 t5:=underlying5
 a5:=isAgg5
 z5:=sizeOf5
 v5:=zeroValue5
 infoByte:=by kernel_rfl
 cellsByte:=by kernel_rfl
 sizeByte:=by kernel_rfl
 neB5:=by decide }
theorem I5:Tryz.RN.f 171=73:=by kernel_rfl
theorem CE:Tryz.RN.f 105=26:=by kernel_rfl
theorem BM:Tryz.RN.f 156=14:=by kernel_rfl
def b_ (w:World):Prop:=Lib.TabIs prog w "internal/strconv.uint64pow10" .u64 Lib.pow10Tab
theorem H8:prog.globalNamed "internal/strconv.uint64pow10" =some 6:=by kernel_rfl
theorem b_.below {w w':World}(h:b_ w) (hb:Below w.heap.size w w'):b_ w':=by
 have hs:6<w.heap.size:=World.block_lt_of_cell? w ⟨6,0,none⟩ (Lib.TabIs.cell h H8 0 (by rw[Lib.pow10Tab_length];omega));unfold b_ Lib.TabIs World.var? at *;rw[H8]at *;simp only[Option.bind_eq_bind,Option.bind_some]at *;rw[hb.block _ hs];exact h
theorem DQ (n:Nat) (h:n<1000000000) (w:World) (hT:b_ w):
  Calls prog 73 #[.int .i64 (n:Int)] w fun e w'=>e=.returned (.string ⟨(decDigits n).toArray⟩)/\Below w.heap.size w w':=by
 have h:=Any.strconv_Itoa Tryz.laysItoa (n:Int) (by omega) (by omega) w hT;rw[I5]at h;refine h.mono ?_;rintro e w' ⟨rfl,k,os,rfl⟩;refine⟨?_,below_grown w k os⟩;have :Lib.itoa (n:Int)=decDigits n:=by unfold Lib.itoa;rw[ag (by omega)];rfl
 rw[this]
theorem UT (c:Nat) (X:Int) (hX:X=(c:Int)) (h:c<=9) (w:World):
  Calls prog 26 #[.string ⟨#[48]⟩,.int .i64 X] w fun e w'=>e=.returned (.string ⟨(List.replicate c (48:UInt8)).toArray⟩)/\Below w.heap.size w w':=by
 subst hX;have h:=Any.strings_Repeat Tryz.laysRepeat Au ⟨#[48]⟩ c w (by omega) (by show 1*c<=_;omega);rw[CE]at h;refine h.mono ?_;rintro e w' ⟨rfl,hb⟩;exact⟨by rw[show(ByteArray.mk #[48]).data.toList=[48] from rfl,FQ],hb⟩
theorem RE {base:Nat}(v:Value) (l:List (List UInt8)) (w:World) (h:w.ownsRow base 9 1 v l.length (fH l)) (hl:l.length<=10000000) (h9:l.flatten.length<=100000000):
  Calls prog 14 #[v,.string ⟨#[]⟩] w fun e w'=>e=.returned (.string ⟨l.flatten.toArray⟩)/\Below w.heap.size w w':=by
 rcases h.2 with⟨rfl,h0⟩|⟨g,cap,cur,rfl,hb,hg,h1,h2,h3,h4⟩
 .have hc:=Any.strings_Join_none Tryz.laysJoin A7 none 0 ⟨#[]⟩ w
  rw[BM]at hc;refine hc.mono ?_;rintro e w' ⟨rfl,rfl⟩;obtain rfl:l=[]:=gp.1 h0;exact⟨rfl,Below.refl _ _⟩
 .have e:(l.map fun s=>(ByteArray.mk s.toArray)).map (·.data.toList)=l:=by
   rw[Ff];simp [Function.comp_def]
  have hc:=Any.strings_Join Tryz.laysJoin A7 g 0 cap (l.map fun s=>ByteArray.mk s.toArray) ⟨#[]⟩ w ?_ (mQ.1 hg).1 (by simp;omega) (by simpa using h1)
   (by rw[e,show(ByteArray.mk #[]).data.toList=[] from rfl,A3];omega)
  .rw[BM,e,show(ByteArray.mk #[]).data.toList=[] from rfl,A3,qK]at hc
   exact hc
  .intro j x hj
   have :=h.cells (g:=g) (by simp [Value.ownBlock]) j (.string x) (by
    simp only[fH,Fh]at hj ⊢;cases hq:l[j]? with
    |none=>rw[hq]at hj;simp at hj
    |some y=>rw[hq]at hj;simp at hj;subst hj;rfl)
   rw[show(⟨g,0,none⟩:Addr).add j=⟨g,0+j,none⟩ from by unfold Addr.add;split <;> simp_all]at this;exact this
theorem vE {B:Nat}{w w':World}{v:Value}{n:Nat}(h:kP B w v n) (hb:Below w.heap.size w w'):kP B w' v n:=by
 obtain⟨l,ao,h1,h2,h3,h4,h5⟩:=h;exact⟨l,ao,h1,h2,h3.below hb,h4,h5⟩
theorem JS {B:Nat}{w w':World}{v:Value}{n:Nat}{row:Option Nat}(h:kP B w v n) (hg:w.grownBy w' row) (hr:∀k,row=some k->k<B):NV w' v n:=by
 obtain⟨l,ao,h1,h2,⟨h3,ao2,cap,h4,h5,h6,h7⟩,h8,h9⟩:=h;refine⟨l,h1,h2,h3,ao2,cap,h4,h5,h6,?_⟩;rcases h7 with h7|⟨b,off,h10,h11,h12⟩
 .exact Or.inl h7
 .rw[h8]at h4
  simp only[Value.slice.injEq]at h4;have hB:=h9 ⟨b,off,none⟩ (by rw[h4.1,h10]);refine Or.inr ⟨b,off,h10,aX h11 hg.size,fun i hi=>?_⟩;rw[hg.cell_far ⟨b,off+i,none⟩ h11 (by intro hh;have :=hr b hh.symm;simp at hB;omega)];exact h12 i hi
def oF (a n k0:Nat) (ps:List (List UInt8)):Prop:=
 tW a=tW n++ps.reverse.flatten/\(∀p∈ps,p.length<=9)/\n*2^ps.length<=a/\ps.length<=k0/\n<=a
theorem oF.start (a k0:Nat):oF a a k0 []:=⟨by simp,by simp,by simp,by simp,ae _⟩
theorem oF.step {a n k0:Nat}{ps:List (List UInt8)}(h:oF a n k0 ps) (hn:n≠0) (ha:a<2^k0):oF a (n/1000000000) k0 (ps++[sE n]):=by
 obtain⟨h1,h2,h3,h4,h5⟩:=h
 have hlen:ps.length<k0:=by
  have h6:2^ps.length<2^k0:=by
   have :1*2^ps.length<=n*2^ps.length:=bR _ (by omega);omega
  exact(lW (by omega)).1 h6
 refine⟨?_,?_,?_,by simp;omega,by omega⟩
 .rw[h1,Y7 n hn];simp
 .intro p hp
  simp at hp;rcases hp with hp|rfl
  .exact h2 p hp
  .exact OY n
 .rw[ck,EH,bH]
  have :n/1000000000*2<=n:=by omega
  calc n/1000000000*(2^ps.length*2)=(n/1000000000*2)*2^ps.length:=by rw[aW (2^ps.length),aF]
   _<=n*2^ps.length:=bR _ this
   _<=a:=h3
theorem oF.fin {a k0:Nat}{ps:List (List UInt8)}(h:oF a 0 k0 ps) (ha:a≠0):ps.reverse.flatten=decDigits a:=by
 have :=h.1;unfold tW at this;rw[ag ha,aj rfl,ku]at this;exact this.symm
theorem uz (va:Value) (a k0:Nat) (w:World) (ha:NV w va a) (hka:a<2^k0) (hk0:k0<=3000000) (hT:b_ w):
  Calls prog 83 #[va] w fun e w'=>e=.returned (.string ⟨(decDigits a).toArray⟩)/\Below w.heap.size w w':=by
 obtain⟨ao,n,c,rfl,hnc,hc,hcase⟩:=fD ha;have HA:=hid ha;rcases hcase with⟨rfl,rfl⟩|⟨ha0,hn1⟩
 .clear ha hka hT
  go_enter func83,ntmps83;go_wp2;go_ret;exact⟨by rw[m_ (by omega)];rfl,Below.refl _ _⟩
 .have SM:=hid (fun va n w' (h:NV w' va n) (hn:n<2^k0)=>Ni va n 1000000000 k0 w' h hn (by omega) (by omega) (by omega))
  simp only[Int.cast_ofNat_Int]at SM;have HK:Hid (a<2^k0/\True):=hid ⟨hka,trivial⟩;have H0:=hid ha0;have T0:=hid hT;have hnz:((n:Int)==0)=false:=by rw[aH];omega
  clear ha hka hT ha0;go_enter func83,ntmps83;go_wp2
  go_loopg [0,3] a (fun k s0 s3 wr=>∃(n:Nat) (ps:List (List UInt8)),n<=k/\Hid (NV wr s0 n)/\Hid (wr.ownsRow w.heap.size 9 1 s3 ps.length (fH ps))/\Hid (oF a n k0 ps)/\Hid (Below w.heap.size w wr))
  case atStart=>exact⟨a,[],ae _,HA,hid (YO _ _),hid (oF.start a k0),hid br0⟩
  case round=>
   obtain⟨n,ps,hng,HN,HO,HI,HB⟩:=hrel;obtain⟨ao,ln,c,rfl,hnc,hc,hcase⟩:=fD HN.out;have T1:=hid (T0.out.below HB.out);have hbs:=HB.out.size;rcases hcase with⟨hn0,rfl⟩|⟨hn0,hn1⟩
   .have hfin:=HI.out
    rw[hn0]at hfin;have hd:=hfin.fin H0.out;have hpl:ps.length<=k0:=hfin.2.2.2.1;have hfl:=Gy ps hfin.2.1;have RV:=hid (OK u3 ps wr HO.out);have HL:Hid (ps.length<=10000000/\True):=hid ⟨by omega,trivial⟩
    have hrl:ps.reverse.flatten.length<=100000000:=by
     have :=Gy ps.reverse (fun p hp=>hfin.2.1 p (by simpa using hp));rw[um]at this;omega
    have JN:=hid (fun v w' (h:w'.ownsRow w.heap.size 9 1 v ps.length (fH ps.reverse))=>RE v ps.reverse w' (by rw[um];exact h) (by rw[um];omega) hrl);rw[hd]at JN;clear hfin hfl hd hrl hng HN HI hn0 hpl
    go_wp2_with (first
     |(go_at_call 128;refine RV.out.mono ?_;rintro e w2 ⟨rfl,ho2,hb2⟩;have O2:=hid ho2;have B2:Hid (Below w.heap.size w w2):=hid (HB.out.trans hb2);clear ho2 hb2)
     |(go_at_call 14;go_loud (refine(JN.out _ _ O2.out).mono ?_;rintro e w3 ⟨rfl,hb3⟩;have B3:Hid (Below w.heap.size w w3):=bt0 B2 hb3;clear hb3)))
    go_ret;exact⟨rfl,B3.out⟩
   .have HLn:Hid (n<2^k0/\True):=hid ⟨de HI.out.2.2.2.2 HK.out.1,trivial⟩
    have hrlt:n%1000000000<1000000000:=ew _ (by omega);obtain⟨q,hq⟩:∃q,q=n/1000000000:=⟨_,rfl⟩;obtain⟨r,hr⟩:∃r,r=n%1000000000:=⟨_,rfl⟩;have hstep:=HI.out.step hn0 HK.out.1;have hpl:ps.length<=k0:=HI.out.2.2.2.1;have hpc:sE n=if q=0 then decDigits r else gJ 9 r:=by rw[hq,hr];rfl
    rw[hpc,<-hq]at hstep;rw[<-hr]at hrlt;have hdl:=nt 9 r (by omega) (by simpa using hrlt);have hdp:=uT r;obtain⟨dl,hdl2⟩:∃dl,dl=decDigits r:=⟨_,rfl⟩;rw[<-hdl2]at hdl hdp;obtain⟨td,htd⟩:∃td:ByteArray,td=⟨dl.toArray⟩:=⟨_,rfl⟩;have htz:(td.size:Int)=(dl.length:Int):=by rw[htd];rfl
    obtain⟨zs,hzs⟩:∃zs:ByteArray,zs=⟨(List.replicate (9-dl.length) (48:UInt8)).toArray⟩:=⟨_,rfl⟩;have hzz:zs.size=9-dl.length:=by rw[hzs];simp [ByteArray.size]
    have SMn:=hid (SM.out _ _ _ HN.out HLn.out.1);rw[<-hq,<-hr]at SMn;have IT:=hid (fun w' (h:b_ w')=>DQ r hrlt w' h);rw[<-hdl2,<-htd]at IT;have RP:=hid (fun X w' (h:X=((9-dl.length:Nat):Int))=>UT (9-dl.length) X h (by omega) w');rw[<-hzs]at RP;have hqn:q<n:=by rw[hq];omega
    have ST:=hid hstep;have HTD:=hid htd;have HZS:=hid hzs;have HDL:=hid hdl2;have HQN:Hid (q<=gk-1/\gk-1<gk):=hid ⟨by omega,by omega⟩;obtain⟨N9,hN9⟩:∃N9,N9=dl.length:=⟨_,rfl⟩;rw[<-hN9]at hdl hdp htz hzz RP;have HN9:=hid hN9;clear hstep htd hzs hdl2 hq hr hpc hqn hng HN HI hn0 hN9;have PC0:Hid (q=0->(if q=0 then decDigits r else gJ 9 r)=dl):=hid (fun h=>by rw[aj h];exact HDL.out.symm)
    have PC1:Hid (q≠0->∀zt:ByteArray,zt=zs++td->zt=⟨(if q=0 then decDigits r else gJ 9 r).toArray⟩):=hid (fun h zt hzt=>by
     rw[ag h,hzt,HZS.out,HTD.out,ByteArray.mk_append_mk];unfold gJ;rw[<-HDL.out])
    obtain⟨zt,hzt⟩:∃zt,zs++td=zt:=⟨_,rfl⟩;have HRB:Hid (∀k,u3.ownBlock=some k->k<wr.heap.size):=hid (fun k hk=>(HO.out.lt k hk).2);have HO10:Hid (ps.length<=10000000/\True):=hid ⟨by omega,trivial⟩;obtain⟨pc,hpc⟩:∃pc,pc=(if q=0 then decDigits r else gJ 9 r):=⟨_,rfl⟩;rw[<-hpc]at ST PC0 PC1;clear hpc hpl;obtain⟨i0,hi,hz0,hz1,hz2⟩:=info_parts M4;have HI0:=hid hi;have HZ0:=hid hz0;have HZ1:=hid hz1;have HZ2:=hid hz2;clear hi hz0 hz1 hz2;by_cases hq0:q=0
    .have HZT:Hid (td=⟨pc.toArray⟩):=hid (by rw[PC0.out hq0];exact HTD.out)
     have HQ0:=hid hq0;clear hq0
     go_wp2_with (first
      |(go_at_call 127;refine SMn.out.mono ?_;rintro e w2 ⟨v2,rfl,hn2,hb2⟩;obtain⟨ao2,ln2,c2,rfl,hnc2,hc2,hcase2⟩:=fD hn2.nv;have N2:=hid hn2;obtain rfl:ln2=0:=(by rcases hcase2 with⟨_,h⟩|⟨h,_⟩;exact h;exact absurd HQ0.out h);have B2:Hid (Below w.heap.size w w2):=bt0 HB hb2;have T2:=hid (T1.out.below hb2);have O2:=hid (kZ HO.out hb2);clear hn2 hb2 hcase2)
      |(go_at_call 73;refine(IT.out _ T2.out).mono ?_;rintro e w3 ⟨rfl,hb3⟩;have N3:=hid (vE N2.out hb3);have B3:Hid (Below w.heap.size w w3):=bt0 B2 hb3;have O3:=hid (kZ O2.out hb3);have hz3:=B3.out.size;clear hb3)
      |(at_builtin;refine Cn rfl _ _ rfl w.heap.size hz3 _ ps rfl O3.out pc rfl HZT.out HO10.out.1 ?_;intro v5 w5 ho5 hb5 hg5;have O5:=hid ho5;have N5:=hid (JS (vE N3.out (br0.alloc le0 _)) hg5 HRB.out);have B5:Hid (Below w.heap.size w w5):=hid (B3.out.trans hb5);clear ho5 hb5 hg5))
     go_roundg (gk-1)
     case measure=>exact HQN.out.2
     case rel=>exact⟨q,ps++[pc],HQN.out.1,N5,O5,ST,B5⟩
    .have HZT:Hid (zt=⟨pc.toArray⟩):=hid (PC1.out hq0 zt hzt.symm)
     have HQ0:=hid hq0;clear hq0
     go_wp2_with (first
      |(go_at_call 127;refine SMn.out.mono ?_;rintro e w2 ⟨v2,rfl,hn2,hb2⟩;obtain⟨ao2,ln2,c2,rfl,hnc2,hc2,hcase2⟩:=fD hn2.nv;have N2:=hid hn2;have hln2:1<=ln2:=(by rcases hcase2 with⟨h,_⟩|⟨_,h⟩;exact absurd h HQ0.out;exact h);have B2:Hid (Below w.heap.size w w2):=bt0 HB hb2;have T2:=hid (T1.out.below hb2);have O2:=hid (kZ HO.out hb2);clear hn2 hb2 hcase2)
      |(go_at_call 73;refine(IT.out _ T2.out).mono ?_;rintro e w3 ⟨rfl,hb3⟩;have N3:=hid (vE N2.out hb3);have B3:Hid (Below w.heap.size w w3):=bt0 B2 hb3;have O3:=hid (kZ O2.out hb3);have hz3:=B3.out.size;clear hb3)
      |(go_at_call 26;refine(RP.out _ _ (by omega)).mono ?_;rintro e w4 ⟨rfl,hb4⟩;have N4:=hid (vE N3.out hb4);have B4:Hid (Below w.heap.size w w4):=bt0 B3 hb4;have O4:=hid (kZ O3.out hb4);have hz4:=B4.out.size;clear hb4)
      |(at_builtin;refine Cn rfl _ _ rfl w.heap.size hz4 _ ps rfl O4.out pc rfl HZT.out HO10.out.1 ?_;intro v5 w5 ho5 hb5 hg5;have O5:=hid ho5;have N5:=hid (JS (vE N4.out (br0.alloc le0 _)) hg5 HRB.out);have B5:Hid (Below w.heap.size w w5):=hid (B4.out.trans hb5);clear ho5 hb5 hg5))
     go_roundg (gk-1)
     case measure=>exact HQN.out.2
     case rel=>exact⟨q,ps++[pc],HQN.out.1,N5,O5,ST,B5⟩
