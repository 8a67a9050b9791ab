import Derived.Test.YtofdjfdnckmmmaaGreatDoorDeskCountsW
set_option linter.all false
set_option maxHeartbeats 8000000
set_option maxRecDepth 100000
open Go.Proofs.Tryz
open Go.Lib (hid)
namespace Go.Proofs.YtofdjfdnckmmmaaGreatDoor
open Go.Shelf Go.RowKit Go.Lib Go.Sort
theorem A9:∀(q cur:List UInt8),((cB cur q).map List.length).sum+(cB cur q).length<=cur.length+q.length+1
 | [],cur=>by rw[cB];split <;> simp
 |d::t,cur=>by
  have h1:=A9 t [];have h2:=A9 t (cur++[d]);rw[cB];split
  .split
   .simp at h1 ⊢;omega
   .simp at h1 ⊢;omega
  .simp at h2 ⊢;omega
theorem Xm (l:List (List UInt8)):(Lib.join l [32,32]).length<=(l.map List.length).sum+2*l.length:=by
 cases l with
 |nil=>simp [Lib.join_nil]
 |cons x r=>
  rw[Lib.join_cons,ck]
  have h:(Lib.joinTail [32,32] r).length<=(r.map List.length).sum+2*r.length:=by
   unfold Lib.joinTail
   induction r with
   |nil=>simp
   |cons y r ih=>simp at ih ⊢;omega
  simp;omega
theorem Vb (t:List UInt8):∀l∈aY (aR 10 t),(Lib.join l [32,32]).length<=3*t.length+3:=by
 intro l hl;unfold aY at hl;obtain⟨p,hp,rfl⟩:=wv.1 (Ow.1 hl).1;have h0:=Xm (cB [] (p.takeWhile (· !=59)))
 have h1:=A9 (p.takeWhile (· !=59)) []
 have h2:=vT (p:=(· !=59)) p
 have h3:=tp 10 t p hp;simp at h1;omega
theorem ag0 (L:List (List (List UInt8))) (i:Nat) (l:List (List UInt8)) (h:L[i]?=some l):gl (L.take (i+1))=gl (L.take i)++rR l:=by
 have hi:=(iH.1 h).1;rw[pA hi,(iH.1 h).2];simp [gl]
theorem Vl (K:Nat) (L:List (List (List UInt8))) (h:∀l∈L,(Lib.join l [32,32]).length<=K):(gl L).length<=(K+8)*L.length:=by
 induction L with
 |nil=>simp [gl]
 |cons l L ih=>
  have h1:=ih (fun m hm=>h m (by simp [hm]));have h2:=h l (by simp);simp [gl,rR]at *;rw[cP];omega
theorem TT (l:List (List UInt8)) (A c:Nat) (w:World) (hW:Wr w A l) (h0:l≠[]) (hc:l.length<=c) (hl:l.length<=10000000) (hj:(Lib.join l [32,32]).length<=100000000):
  Calls prog 14 #[.slice (some ⟨A,0,none⟩) l.length c,.string ⟨#[32,32]⟩] w (fa w (Lib.join l [32,32])):=by
 have e:(l.map fun s=>(ByteArray.mk s.toArray)).map (·.data.toList)=l:=by
  rw[Ff];simp [Function.comp_def]
 have h:=Any.strings_Join Tryz.laysJoin A7 A 0 c (l.map fun s=>ByteArray.mk s.toArray) ⟨#[32,32]⟩ w (fun j x hx=>by
  rw[Fh]at hx;obtain⟨s,hs,rfl⟩:=Option.map_eq_some_iff.1 hx;rw[jw];exact hW j s hs) (hW.lt h0) (by simp;omega) (by simpa using hc) (by rw[e,show(ByteArray.mk #[32,32]).data.toList=[32,32] from rfl];omega)
 rw[BM,e,show(ByteArray.mk #[32,32]).data.toList=[32,32] from rfl,qK]at h;exact h
theorem Tryz.laysBLen:Go.Proofs.Lays.n170 prog Tryz.RN:= { Tryz.laysRepeat with
 }
theorem Wl:Tryz.RN.f 170=15:=by kernel_rfl
theorem U_ (B b:Nat) (l:List UInt8) (w:World) (h:kR B b l w):Calls prog 15 #[.pointer (some ⟨b,0,none⟩)] w fun e w'=>e=.returned (.int .i64 (l.length:Int))/\w'=w:=by
 have h:=Any.Builder_Len Tryz.laysBLen B b (byteCells l) w h;rw[Wl,byteCells_length]at h;exact h
theorem af9 (j:List UInt8):(⟨#[9]⟩++⟨j.toArray⟩++⟨#[32,59,32,115,111,10,10]⟩:ByteArray)=⟨(9::(j++[32,59,32,115,111,10,10])).toArray⟩:=by apply eK;simp [lY]
theorem U' (S:ByteArray) (L:List (List (List UInt8))) (n:Nat) (hn:n=L.length) (hz:S.size<=3000000) (hL:∀l∈L,l≠[]/\l.length<=3000000) (hJ:∀l∈L,(Lib.join l [32,32]).length<=10000000) (hn7:n<=10000000) (w:World) (hD:Dk w)
  (HL:∀w',Dk w'->Calls prog 11 #[.string S] w' fun e w2=>(∃v bl,e=.returned (.tuple #[v,.int .i64 (n:Int)])/\w2.ownsRow w'.heap.size 40 1 v (fW bl L).length (fW bl L)/\mK (fun c n=>n<=c) w2 v bl L)/\Below w'.heap.size w' w2)
  (LV:∀w',Dk w'->Calls prog 12 #[] w' fun e w2=>e=.returned (.bool true)/\Below w'.heap.size w' w2)
  (HR:n<=100->S.size<=16384->(gl L).length<=16384->∃R:ByteArray,(∀w',Dk w'->Calls prog 16 #[.string S] w' fun e w2=>e=.returned (.string R)/\Below w'.heap.size w' w2)/\∀w',Dk w'->Calls prog 16 #[.string ⟨(gl L).toArray⟩] w' fun e w2=>e=.returned (.string R)/\Below w'.heap.size w' w2):
  Calls prog 4 #[.string S] w fun e w'=>e=.returned (.bool true)/\Below w.heap.size w w':=by
 have D0:=hid hD;have HLH:=hid HL;have LVH:=hid LV;have HRH:=hid HR;have HNN:=hid hn;have HLL:=hid hL;have HJJ:=hid hJ;clear hD HL LV HR hL hJ hn;by_cases h100:100<n
 .have hnz:(100:Int)<(n:Int):=by omega
  go_enter func4,ntmps4
  go_wp2_with (first
   |(go_at_call 11;refine(HLH.out _ D0.out).mono ?_;rintro e w1 ⟨⟨v,bl,rfl,-,-⟩,hb⟩;have D1:=hid (D0.out.below hb);have B1:=hid hb;clear hb)
   |(go_at_call 12;refine(LVH.out _ D1.out).mono ?_;rintro e w3 ⟨rfl,hb⟩;replace D1:=hid (D1.out.below hb);replace B1:=bt0 B1 hb;clear hb))
  go_ret;exact⟨rfl,B1.out⟩
 .have hnz:(n:Int)<=100:=by omega
  go_enter func4,ntmps4;go_wp2_with fail
  refine(HLH.out _ D0.out).mono ?_;rintro e w1 ⟨⟨v,bl,rfl,ho,hl⟩,hb⟩
  obtain⟨ao,cp,rfl⟩:∃ao cp,v=.slice ao n cp:=by
   have e:=(qT hl.len).trans HNN.out.symm;rcases ho.2 with⟨h,h0⟩|⟨g,c,cur,h,_⟩
   .exact⟨none,0,by rw[h,<-e,h0]⟩
   .exact⟨_,_,by rw[h,e]⟩
  have D1:=hid (D0.out.below hb);have B1:=hid hb;have O1:=hid ho;have N1:=hid hl;clear hb ho hl;go_wp2_with (go_at_call 12;refine(LVH.out _ D1.out).mono ?_;rintro e w3 ⟨rfl,hb⟩;have D3:=hid (D1.out.below hb);have B3:=bt0 B1 hb;have O3:=hid (kZ O1.out hb);have N3:=hid (N1.out.below hb);clear hb)
  have b0:Hid (kR w3.heap.size w3.heap.size (gl (L.take 0)) (w3.alloc (.cells #[.pointer none,.slice none 0 0] 39))):=hid (.inl ⟨ae _,.slice none 0 0,(Go.MapKept.heap_alloc _ _).1,World.ownsRow_nil _ _ _ _,by simp [Value.ownBlock]⟩);go_loopw [22] (fun iv w2=>∃i:Nat,iv=.int .i64 (i:Int)/\i<=n/\Hid (kR w3.heap.size w3.heap.size (gl (L.take i)) w2)/\Hid (Below w3.heap.size w3 w2)) (fun iv _=>n-(RowKit.intOf iv).toNat)
  case atStart=>exact⟨0,rfl,by omega,b0,hid (br0.alloc le0 _)⟩
  case round=>
   obtain⟨i,rfl,hi,hb,B2⟩:=hrel;by_cases hin:i<n
   .have hil:i<L.length:=by rw[<-HNN.out];exact hin
    obtain⟨l,hl'⟩:∃l,L[i]?=some l:=⟨_,fO hil⟩;obtain⟨A,hA⟩:∃A,bl[i]?=some A:=⟨_,fO (by rw[N3.out.len];exact hil)⟩
    obtain⟨g,rfl⟩:∃g,ao=some ⟨g,0,none⟩:=by
     rcases O3.out.2 with⟨h,h0⟩|⟨g,c,cur,h,_⟩
     .rw[qT N3.out.len]at h0;omega
     .exact⟨g,by injection h⟩
    have hgl:=(O3.out.lt g rfl).2
    have hc:wr.cell? ⟨g,i,none⟩=some (iY A l):=by
     have c1:=O3.out.cells (g:=g) rfl i _ (Mc hA hl');rw[show(⟨g,0,none⟩:Addr).add i=⟨g,0+i,none⟩ from by unfold Addr.add;split <;> simp_all,jw]at c1;exact(B2.out.cell (p:=⟨g,i,none⟩) hgl).trans c1
    obtain⟨g1,g2,g3⟩:=N3.out.cells i A l hA hl';have hlm:=qI hl';have hl0:=HLL.out l hlm;have hlj:=HJJ.out l hlm;have hAlt:=g2.lt hl0.1;obtain⟨A,cA⟩:=A;replace hc:wr.cell? ⟨g,i,none⟩=some (.slice (some ⟨A,0,none⟩) l.length cA):=hc;replace g2:Wr w3 A l:=g2;have JN:=hid (TT l A cA wr (g2.below B2.out hAlt) hl0.1 g3 (by omega) (by omega));have hst:=hid (ag0 L i l hl')
    have hbl:(gl (L.take i)).length<=1100000000:=by
     have h1:=Vl 10000000 (L.take i) (fun m hm=>HJJ.out m (kU hm));rw[dj]at h1;have h2:min i L.length<=100:=by omega
     have h3:=cZ (10000000+8) h2;omega
    obtain⟨jl,hjl⟩:∃jl,jl=Lib.join l [32,32]:=⟨_,rfl⟩;have hsp:Hid (gl (L.take (i+1))=gl (L.take i)++(9::(jl++[32,59,32,115,111,10,10]))/\True):=hid ⟨by rw[hst.out,hjl];rfl,trivial⟩;rw[<-hjl]at JN hlj;unfold fa at JN;have WS:=hid (fun S' hS' w' h hB=>IE w3.heap.size w3.heap.size (gl (L.take i)) (9::(jl++[32,59,32,115,111,10,10])) S' hS' w' h (by simp;omega) hB);have k1:¬9223372036854775807<1+jl.length:=by omega
    have k2:¬9223372036854775807<1+jl.length+7:=by omega
    clear g1 g2 g3 hl' hA hjl hst hl0 hlm
    go_wp2_with (first
     |(go_at_call 14;refine JN.out.mono ?_;rintro e w4 ⟨rfl,hb3⟩;have B4:=bt0 B2 hb3;have b4:=hid (hb.out.below hb3);clear hb3 JN)
     |(go_at_call 13;refine(WS.out _ (af9 jl) _ b4.out B4.out.size).mono ?_;rintro e w5 ⟨⟨nn,rfl⟩,h5,hb5⟩;have H5:=hid h5;have B5:=hid (B4.out.trans hb5);clear h5 hb5))
    exact⟨⟨i+1,rfl,by omega,hid (by rw[hsp.out.1];exact H5.out),B5⟩,by simp only[RowKit.intOf];omega⟩
   .have hie:L.take i=L:=dI (by rw[<-HNN.out];omega)
    rw[hie]at hb;have BX:=hid (af B3.out le0 B2.out);have DX:=hid (D3.out.below B2.out);have LE:=hid (fun w' (h:kR w3.heap.size w3.heap.size (gl L) w')=>U_ w3.heap.size w3.heap.size (gl L) w' h);have BS:=hid (fun w' (h:kR w3.heap.size w3.heap.size (gl L) w') (hB:w3.heap.size<=w'.heap.size)=>No w3.heap.size w3.heap.size (gl L) w' h hB);have hzr:=B2.out.size;obtain⟨lb,hlb⟩:∃lb,lb=(gl L).length:=⟨_,rfl⟩;rw[<-hlb]at LE;have HLB:=hid hlb;by_cases h16:16384<S.size
    .have h16z:(16384:Int)<(S.size:Int):=by omega
     clear hlb;go_wp2;go_ret;exact⟨rfl,BX.out⟩
    .have h16z:(S.size:Int)<=16384:=by omega
     by_cases hr:16384<lb
     .have hrz:(16384:Int)<(lb:Int):=by omega
      clear hlb;go_wp2_with (go_at_call 15;refine(LE.out _ hb.out).mono ?_;rintro e w4 ⟨rfl,rfl⟩)
      go_ret;exact⟨rfl,BX.out⟩
     .have hrz:(lb:Int)<=16384:=by omega
      obtain⟨R,hR1,hR2⟩:=HRH.out (by omega) (by omega) (by rw[<-hlb];omega);have R1:=hid hR1;have R2:=hid hR2;clear hR1 hR2 hlb
      go_wp2_with (first
       |(go_at_call 15;refine(LE.out _ hb.out).mono ?_;rintro e w4 ⟨rfl,rfl⟩)
       |(go_at_call 17;refine(BS.out _ hb.out hzr).mono ?_;rintro e w4 ⟨rfl,hb4⟩;have D4:=hid (D3.out.below (B2.out.trans hb4));have B4:=hid (af B3.out le0 (B2.out.trans hb4));clear hb4)
       |(go_at_call 16;(first|with_reducible refine(R2.out _ D4.out).mono ?_|with_reducible refine(R1.out _ D4.out).mono ?_);rintro e w5 ⟨rfl,hb5⟩;replace D4:=hid (D4.out.below hb5);replace B4:=bt0 B4 hb5;clear hb5))
      go_ret;exact⟨rfl,B4.out⟩
theorem Yx (S:ByteArray) (hz:S.size<=2000000) (w:World) (hD:Dk w):Calls prog 4 #[.string S] w fun e w'=>e=.returned (.bool true)/\Below w.heap.size w w':=by
 have hs:=size_eq S;have hn:=Bm S.data.toList;have hm:=G9 S.data.toList;refine U' S (aY (aR 10 S.data.toList)) _ rfl (by omega) (fun l hl=>⟨(hm l hl).1,by have :=L_ S.data.toList l hl;omega⟩) (fun l hl=>by have :=Vb S.data.toList l hl;omega) (by omega) w hD (fun w' hD'=>De S (by omega) w' hD') Ey (fun h1 h2 h3=>?_);have e:=KM (aY (aR 10 S.data.toList)) (fun l hl=>⟨(hm l hl).1,fun x hx=>((hm l hl).2 x hx).1⟩);refine⟨⟨(gI S.data.toList).toArray⟩,fun w' hD'=>tP _ _ rfl w' hD',fun w' hD'=>?_⟩;have h4:=tP (gl (aY (aR 10 S.data.toList))) _ rfl w' hD';rw[nW ⟨h3,by rw[e];exact h1⟩,e,<-nW ⟨by omega,h1⟩]at h4;exact h4
