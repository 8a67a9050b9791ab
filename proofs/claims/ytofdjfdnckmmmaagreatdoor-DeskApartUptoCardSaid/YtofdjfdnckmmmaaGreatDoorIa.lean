import Derived.Test.YtofdjfdnckmmmaaGreatDoorJcd
import Derived.Shelf.Pu.ToError
import Derived.Shelf.Pu.ToErrorRange
import Derived.Shelf.Strconv.AtoiAll
set_option linter.all false
set_option maxHeartbeats 8000000
set_option maxRecDepth 100000
open Go.Proofs.Tryz
open Go.Lib (hid)
namespace Go.Proofs.YtofdjfdnckmmmaaGreatDoor
open Go.Shelf Go.RowKit Go.Lib Nt Fm Fl
theorem Tryz.laysToErr:Go.Proofs.LaysPu.n17 prog Tryz.RM:= {
 mixed:=by kernel_rfl
 f17:=aA func133 (by kernel_rfl)
 f21:=aA func178 (by kernel_rfl)
 f22:=aA func179 (by kernel_rfl)
 f23:=aA func180 (by kernel_rfl)
 f24:=aA func181 (by kernel_rfl)
 f25:=aA func219 (by kernel_rfl)
 f26:=aA func220 (by kernel_rfl)
 f27:=aA func73 (by kernel_rfl)
 f28:=aA func112 (by kernel_rfl)
 f29:=aA func144 (by kernel_rfl)
 f30:=aA func187 (by kernel_rfl)
 f31:=aA func188 (by kernel_rfl)
 f32:=aA func189 (by kernel_rfl)
 f33:=aA func190 (by kernel_rfl)
 f34:=aA func222 (by kernel_rfl)
 f35:=aA func223 (by kernel_rfl)
 f36:=aA func224 (by kernel_rfl)
 f37:=aA func225 (by kernel_rfl)
 f38:=aA func226 (by kernel_rfl)
 f39:=aA func105 (by kernel_rfl)
 f40:=aA func240 (by kernel_rfl)
 t0:=underlying0
 a0:=isAgg0
 z0:=sizeOf0
 v0:=zeroValue0
 i0:=by kernel_rfl
 t2:=underlying2
 a2:=isAgg2
 z2:=sizeOf2
 v2:=zeroValue2
 i2:=by kernel_rfl
 t3:=underlying3
 a3:=isAgg3
 z3:=sizeOf3
 v3:=zeroValue3
 i3:=by kernel_rfl
 t4:=underlying4
 a4:=isAgg4
 z4:=sizeOf4
 v4:=zeroValue4
 i4:=by kernel_rfl
 t5:=underlying5
 a5:=isAgg5
 z5:=sizeOf5
 v5:=zeroValue5
 i5:=by kernel_rfl
 t9:=underlying9
 a9:=isAgg9
 z9:=sizeOf9
 v9:=zeroValue9
 i9:=by kernel_rfl
 t20:=underlying20
 a20:=isAgg20
 z20:=sizeOf20
 v20:=zeroValue20
 i20:=by kernel_rfl
 t22:=underlying24
 a22:=isAgg24
 z22:=sizeOf24
 v22:=zeroValue24
 i22:=by kernel_rfl
 t24:=underlying42
 a24:=isAgg42
 z24:=sizeOf42
 v24:=zeroValue42
 i24:=by kernel_rfl
 t34:=underlying189
 a34:=isAgg189
 z34:=sizeOf189
 v34:=zeroValue189
 i34:=by kernel_rfl
 c34:=by kernel_rfl
 t36:=underlying89
 a36:=isAgg89
 z36:=sizeOf89
 v36:=zeroValue89
 i36:=by kernel_rfl
 t37:=underlying37
 a37:=isAgg37
 z37:=sizeOf37
 v37:=zeroValue37
 i37:=by kernel_rfl
 t39:=underlying192
 a39:=isAgg192
 z39:=sizeOf192
 v39:=zeroValue192
 i39:=by kernel_rfl
 t44:=underlying231
 a44:=isAgg231
 z44:=sizeOf231
 v44:=zeroValue231
 i44:=by kernel_rfl
 t47:=underlying79
 a47:=isAgg79
 z47:=sizeOf79
 v47:=zeroValue79
 i47:=by kernel_rfl
 t48:=underlying249
 a48:=isAgg249
 z48:=sizeOf249
 v48:=zeroValue249
 i48:=by kernel_rfl
 t50:=underlying251
 a50:=isAgg251
 z50:=sizeOf251
 v50:=zeroValue251
 i50:=by kernel_rfl
 t52:=underlying202
 a52:=isAgg202
 z52:=sizeOf202
 v52:=zeroValue202
 i52:=by kernel_rfl
 t55:=underlying204
 a55:=isAgg204
 z55:=sizeOf204
 v55:=zeroValue204
 i55:=by kernel_rfl
 t59:=underlying234
 a59:=isAgg234
 z59:=sizeOf234
 v59:=zeroValue234
 i59:=by kernel_rfl
 t60:=underlying102
 a60:=isAgg102
 z60:=sizeOf102
 v60:=zeroValue102
 i60:=by kernel_rfl
 t61:=underlying235
 a61:=isAgg235
 z61:=sizeOf235
 t65:=underlying177
 a65:=isAgg177
 z65:=sizeOf177
 v65:=zeroValue177
 i65:=by kernel_rfl
 t66:=underlying257
 a66:=isAgg257
 z66:=sizeOf257
 v66:=zeroValue257
 i66:=by kernel_rfl
 t67:=underlying48
 a67:=isAgg48
 z67:=sizeOf48
 v67:=zeroValue48
 i67:=by kernel_rfl
 g0:=by kernel_rfl
 m0:=by kernel_rfl
 g1:=by kernel_rfl
 m1:=by kernel_rfl
 g2:=by kernel_rfl
 m2:=by kernel_rfl
 g3:=by kernel_rfl
 m3:=by kernel_rfl
 g4:=by kernel_rfl
 m4:=by kernel_rfl }
theorem Ii:Tryz.RM.f 17=133:=by kernel_rfl
theorem Tj:Tryz.RM.g 0=4/\Tryz.RM.g 1=5/\Tryz.RM.t 34=189:=⟨by kernel_rfl,by kernel_rfl,by kernel_rfl⟩
def Nj (w:World) (e:Ending) (w':World):Prop:=(∃(n:Int) (er:Value),e=.returned (.tuple #[.int .u64 n,er])/\(er=.nilIface\/∃t p,er=.iface t (.pointer p))/\0<=n/\n<=18446744073709551615)/\Below w.heap.size w w'
theorem Zp (fn s:ByteArray) (base bs k:Int) (hk:k=1\/k=2) (hs:s.size<=1000000) (w:World) (hE:pZ w):
  Calls prog 133 #[.string fn,.string s,.int .i64 base,.int .i64 bs,.iface 189 (.int .i64 k)] w fun e w'=>(∃t p,e=.returned (.iface t (.pointer p)))/\Below w.heap.size w w':=by
 obtain⟨⟨t1,p1,h1⟩,⟨t2,p2,h2⟩⟩:=hE;obtain⟨g0,g1,g2⟩:=Tj;rcases hk with rfl|rfl
 .have h:=AnyPu.strconv_toError_range Tryz.laysToErr fn s base bs _ w (by omega) (by rw[g1];exact h2) (Or.inr ⟨_,_,rfl⟩)
  rw[Ii,g2]at h;exact h.mono fun e w' ⟨N,he,_,_,hb⟩=>⟨⟨_,_,he⟩,hb⟩
 .have h:=AnyPu.strconv_toError_syntax Tryz.laysToErr fn s base bs _ w (by omega) (by rw[g0];exact h1) (Or.inr ⟨_,_,rfl⟩)
  rw[Ii,g2]at h;exact h.mono fun e w' ⟨N,he,_,_,hb⟩=>⟨⟨_,_,he⟩,hb⟩
theorem Qa (t:ByteArray) (hs:t.size<=1000000) (w:World):
  Calls prog 140 #[.string t,.int .i64 16,.int .i64 64] w fun e w'=>(∃(n:Int) (er:Value),e=.returned (.tuple #[.int .u64 n,er])/\(er=.nilIface\/∃k:Int,er=.iface 189 (.int .i64 k)/\(k=1\/k=2))/\0<=n/\n<=18446744073709551615)/\Below w.heap.size w w':=by
 by_cases hz:t.size=0
 .have hemp:t.toList.isEmpty=true:=by
   rw[<-decide_eq_emptyBytes];exact fR (by apply eK;exact Array.eq_empty_of_size_eq_zero hz)
  go_enter func140,ntmps140;go_wp2;go_ret2;exact⟨⟨_,_,rfl,Or.inr ⟨_,rfl,by decide⟩,by decide,by decide⟩,Below.refl _ _⟩
 have hemp:t.toList.isEmpty=false:=by
  rw[<-decide_eq_emptyBytes];exact e_ (fun h=>hz (by rw[h];rfl))
 have hcv:=Lib.run_convert_string_bytes (P:=prog) w 9 37 5 t (u:= .string) underlying9 underlying37 underlying5;have hB:∀j,j<t.size->(Lib.bytesWorld w 5 t).cell? ⟨w.heap.size,j,none⟩=some (.int .u8 (t.data.toList.getD j 0).toNat):=fun j hj=>Lib.bytesWorld_cell w 5 t j hj
 have hbl:=vH w 5 t;obtain⟨W1,hW1⟩:∃W1,W1=Lib.bytesWorld w 5 t:=⟨_,rfl⟩;rw[<-hW1]at hcv hB hbl;clear hW1
 have hmv:IntKind.u64.wrap (IntKind.u64.wrap 18446744073709551616-1)=18446744073709551615:=by
  rw[IntKind.wrap_u64,IntKind.wrap_u64];decide
 have HB:=hid hB;have BB:=hid hbl;clear hB hbl;have wr0:∀x:Int,0<=IntKind.u64.wrap x/\IntKind.u64.wrap x<18446744073709551616:=fun x=>by rw[IntKind.wrap_u64];omega
 have WR:=hid wr0;clear wr0;go_enter func140,ntmps140;go_wp2
 go_loop [12,13,101] (fun vu vn vi=>∃(k:Nat) (a:Int),vu=.bool false/\vn=.int .u64 a/\vi=.int .i64 k/\k<=t.size/\0<=a/\a<18446744073709551616)
  (fun _ _ vi=>t.size-(intOf vi).toNat)
 case atStart=>exact⟨0,0,rfl,rfl,rfl,by omega,by omega,by omega⟩
 case round=>
  obtain⟨k,a,rfl,rfl,rfl,hk,a0,a1⟩:=hrel;by_cases hkn:k<t.size
  .have hc:=HB.out k hkn
   obtain⟨c,hcc⟩:∃c,c=(t.data.toList.getD k 0):=⟨_,rfl⟩;rw[<-hcc]at hc;clear hcc HB;have hcb:=c.toNat_lt;go_wp2_with (go_at_call 185;refine(Ic _ _).mono ?_;rintro e w' ⟨rfl,rfl⟩)
   all_goals first
    |(exfalso;omega)
    |(go_ret2;exact⟨⟨_,_,rfl,Or.inr ⟨_,rfl,by decide⟩,by decide,by decide⟩,BB.out⟩;done)
    |(refine⟨⟨k+1,_,rfl,rfl,(by first|rfl|(congr 1;omega)),by omega,(WR.out _).1,(WR.out _).2⟩,by simp [intOf];omega⟩)
    |(refine⟨⟨k+1,_,rfl,rfl,(by first|rfl|(congr 1;omega)),by omega,by omega,by omega⟩,by simp [intOf];omega⟩)
    |trace_state
  .obtain rfl:k=t.size:=by omega
   go_wp2;go_ret2;exact⟨⟨_,_,rfl,Or.inl rfl,a0,by omega⟩,BB.out⟩
theorem Y8 (t:ByteArray) (hs:t.size<=1000000) (w:World) (hE:pZ w):
  Calls prog 106 #[.string t,.int .i64 16,.int .i64 64] w (Nj w):=by
 have IP:=hid (Qa t hs w);have HE:=hid hE;have HS:=hid hs;clear hE hs;go_enter func106,ntmps106;go_wp2_with fail
 refine IP.out.mono ?_;rintro e w1 ⟨⟨n,er,rfl,h,n0,n1⟩,hb⟩;have B1:=hid hb;clear hb;rcases h with rfl|⟨k,rfl,hk⟩
 .go_wp2
  go_ret2;exact⟨⟨_,_,rfl,Or.inl rfl,n0,n1⟩,B1.out⟩
 .have HK:=hid hk
  clear hk;go_wp2_with (go_at_call 133;refine(Zp _ t _ _ k HK.out HS.out _ ?_).mono ?_)
  .obtain⟨⟨t1,p1,h1⟩,⟨t2,p2,h2⟩⟩:=HE.out
   exact⟨⟨t1,p1,(B1.out.cell (World.block_lt_of_cell? _ _ h1)).trans h1⟩,⟨t2,p2,(B1.out.cell (World.block_lt_of_cell? _ _ h2)).trans h2⟩⟩
  .rintro e w2 ⟨⟨t,p,rfl⟩,hb⟩
   have B2:=bt0 B1 hb;go_wp2;go_ret2;exact⟨⟨_,_,rfl,Or.inr ⟨_,_,rfl⟩,n0,n1⟩,B2.out⟩
theorem Tryz.laysAtoiC:Go.Proofs.LaysC.n172 prog Tryz.RN:= { Tryz.laysAtoi,Tryz.laysItoa with
 t80:=underlying48
 a80:=isAgg48
 z80:=sizeOf48
 v80:=zeroValue48
 i21:=by kernel_rfl
 i75:=by kernel_rfl
 i76:=by kernel_rfl
 i80:=by kernel_rfl
 i85:=by kernel_rfl
 i127:=by kernel_rfl
 i143:=by kernel_rfl
 i145:=by kernel_rfl
 i167:=by kernel_rfl
 i168:=by kernel_rfl
 i175:=by kernel_rfl
 i210:=by kernel_rfl
 m15:=by kernel_rfl
 m16:=by kernel_rfl
 c0:=by kernel_rfl
 c2:=by kernel_rfl
 c3:=by kernel_rfl
 c4:=by kernel_rfl
 c5:=by kernel_rfl
 c9:=by kernel_rfl
 c20:=by kernel_rfl
 c21:=by kernel_rfl
 c37:=by kernel_rfl
 c46:=by kernel_rfl
 c51:=by kernel_rfl
 c53:=by kernel_rfl
 c75:=by kernel_rfl
 c76:=by kernel_rfl
 c80:=by kernel_rfl
 c85:=by kernel_rfl
 c127:=by kernel_rfl
 c143:=by kernel_rfl
 c145:=by kernel_rfl
 c167:=by kernel_rfl
 c168:=by kernel_rfl
 c171:=by kernel_rfl
 c173:=by kernel_rfl
 c175:=by kernel_rfl
 c210:=by kernel_rfl
 c212:=by kernel_rfl
 c213:=by kernel_rfl
 c232:=by kernel_rfl
 c233:=by kernel_rfl }
theorem Px:Tryz.RN.f 172=92/\Tryz.RN.g 15=4/\Tryz.RN.g 16=5:=⟨by kernel_rfl,by kernel_rfl,by kernel_rfl⟩
theorem ac1 (s:ByteArray) (hs:s.size<=1000000) (w:World) (hE:pZ w):
  Calls prog 92 #[.string s] w fun e w'=>(∃(n:Int) (er:Value),e=.returned (.tuple #[.int .i64 n,er]))/\Below w.heap.size w w':=by
 obtain⟨⟨t1,p1,h1⟩,⟨t2,p2,h2⟩⟩:=hE;obtain⟨f,g1,g2⟩:=Px;rcases h:Lib.atoiAll s.data.toList with v|_|_
 .have k:=Any.strconv_Atoi_ok Tryz.laysAtoiC s (by omega) v h w
  rw[f]at k;refine k.mono ?_;rintro e w' ⟨he,rfl|⟨t,rfl⟩⟩
  .exact⟨⟨_,_,he⟩,Below.refl _ _⟩
  .exact⟨⟨_,_,he⟩,vH w _ t⟩
 .have k:=Any.strconv_Atoi_syntax Tryz.laysAtoiC s (by omega) h _ w (by rw[g1];exact h1) (Or.inr ⟨_,_,rfl⟩)
  rw[f]at k;exact k.mono fun e w' ⟨N,he,_,_,hb⟩=>⟨⟨_,_,he⟩,hb⟩
 .have k:=Any.strconv_Atoi_range Tryz.laysAtoiC s (by omega) h _ w (by rw[g2];exact h2) (Or.inr ⟨_,_,rfl⟩)
  rw[f]at k;exact k.mono fun e w' ⟨N,he,_,_,hb⟩=>⟨⟨_,_,he⟩,hb⟩
