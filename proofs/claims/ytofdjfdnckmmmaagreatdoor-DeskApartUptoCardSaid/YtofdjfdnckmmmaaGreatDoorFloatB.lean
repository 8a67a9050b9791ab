import Derived.Test.YtofdjfdnckmmmaaGreatDoorBa
set_option linter.all false
open Go.Proofs.Tryz
namespace Go.Proofs.YtofdjfdnckmmmaaGreatDoor
open Go.RowKit Fl
theorem DR (x:Int) (h0:0<=x) (h1:x<=18446744073709551615) (w:World):
  Calls prog 22 #[.int .u64 x] w fun e w'=>e=.returned (.tuple #[.bool (di x),.int .i64 (dy x),.int .u64 (c8 x)])/\w=w':=by
 have e1:=ab6 (x/4503599627370496) (by omega) (by omega);have e2:=XY x h0 h1;have e3:wrap64 (x/4503599627370496%2048)=x/4503599627370496%2048:=IntWalk.wrap64_in _ (by omega)
 have e4:(x/9223372036854775808==1)=decide (9223372036854775808<=x):=by
  rw[uj,dV,da];omega
 go_enter func22,ntmps22;go_wp2;go_ret3;refine⟨?_,rfl⟩;unfold di dy c8;first|rfl|simp only[e1,e2,e3,e4]
theorem fB (x:Int) (h0:0<=x) (h1:x<=18446744073709551615) (w:World):
  Calls prog 8 #[.int .u64 x] w fun e w'=>e=.returned (.int .i64 (ak x))/\w=w':=by
 rcases S_ h0 h1 with⟨a,b,c⟩|⟨a,b,c⟩|⟨a,b,c⟩|⟨a,b,c⟩|⟨a,b,c⟩
 all_goals
  rw[c];clear c;go_enter func8,ntmps8;go_wp2_with (go_at_call 22;refine(DR x h0 h1 _).mono ?_;rintro e w' ⟨rfl,rfl⟩)
  go_ret;exact⟨rfl,rfl⟩
theorem Fy (x:Int) (h0:0<=x) (h1:x<=18446744073709551615) (w:World):
  Calls prog 160 #[.int .u64 x] w fun e w'=>e=.returned (.int .u64 (kg x))/\w=w':=by
 have e1:=ZO x h0 h1;go_enter func160,ntmps160;go_wp2;go_ret;exact⟨rfl,rfl⟩
theorem pN (x:Int) (h0:0<=x) (h1:x<=18446744073709551615) (w:World):
  Calls prog 25 #[.int .u64 x] w fun e w'=>e=.returned (.int .u64 (ay x))/\w=w':=by
 have e1:=Yl x h0 h1;go_enter func25,ntmps25;go_wp2;go_ret;exact⟨rfl,rfl⟩
theorem p8 (x:Int) (h0:0<=x) (h1:x<=18446744073709551615) (w:World):
  Calls prog 211 #[.int .u64 x] w fun e w'=>e=.returned (.tuple #[.int .i64 (bO x),.int .i64 (fe x)])/\w=w':=by
 have hb:=gV x;by_cases hn:9218868437227405312<ay x
 .have hc:ak x=5:=by unfold ak;omega
  have h2:bO x=0:=by unfold bO;omega
  have h3:fe x=4:=by unfold fe;omega
  rw[h2,h3];clear h2 h3;go_enter func211,ntmps211;go_wp2_with (go_at_call 8;refine(fB x h0 h1 _).mono ?_;rintro e w' ⟨rfl,rfl⟩)
  go_ret2;exact⟨rfl,rfl⟩
 .have hc:ak x<=4:=by unfold ak;omega
  have h3:fe x=0:=by unfold fe;omega
  rw[h3];clear h3;by_cases hs:9223372036854775808<=x
  .have e4:(x/9223372036854775808==1)=true:=by rw[dV];omega
   have h2:bO x= -ay x:=by unfold bO;omega
   rw[h2];clear h2;go_enter func211,ntmps211;go_wp2_with (first|(go_at_call 8;refine(fB x h0 h1 _).mono ?_;rintro e w' ⟨rfl,rfl⟩)|(go_at_call 25;refine(pN x h0 h1 _).mono ?_;rintro e w' ⟨rfl,rfl⟩))
   go_ret2;exact⟨rfl,rfl⟩
  .have e4:(x/9223372036854775808==1)=false:=by rw[aH];omega
   have h2:bO x=ay x:=by unfold bO;omega
   rw[h2];clear h2;go_enter func211,ntmps211;go_wp2_with (first|(go_at_call 8;refine(fB x h0 h1 _).mono ?_;rintro e w' ⟨rfl,rfl⟩)|(go_at_call 25;refine(pN x h0 h1 _).mono ?_;rintro e w' ⟨rfl,rfl⟩))
   go_ret2;exact⟨rfl,rfl⟩
theorem Sr (x:Int) (h0:0<=x) (h1:x<=18446744073709551615):bits .xor .u64 IntKind.u64.max x=18446744073709551615-x:=by
 obtain⟨a,rfl⟩:=gH h0;have h:=u64_xor_nat 18446744073709551615 a (by decide) (by omega);rw[show IntKind.u64.max=((18446744073709551615:Nat):Int) from by decide,h]
 have h2:18446744073709551615^^^a=18446744073709551615-a:=by
  apply EW;intro i;have h3:18446744073709551615-a=2^64-(a+1):=by omega
  rw[h3,Nat.testBit_two_pow_sub_succ (by omega),EY,show(18446744073709551615:Nat)=2^64-1 by decide,Nat.testBit_two_pow_sub_one];by_cases hi:i<64
  .simp [hi]
  .simp [hi];exact Od (aX (by omega:a<2^64) (aG (by decide) (by omega)))
 rw[h2];omega
theorem Rw (x:Int) (h0:0<=x) (h1:x<=18446744073709551615) (w:World):
  Calls prog 248 #[.int .u64 x] w fun e w'=>e=.returned (.int .u64 (oJ x))/\w=w':=by
 by_cases hs:9223372036854775808<=x
 .have e4:(x/9223372036854775808==1)=true:=by rw[dV];omega
  have e:oJ x=18446744073709551615-x:=by unfold oJ;omega
  have e5:=Sr x h0 h1;rw[e];clear e;go_enter func248,ntmps248;go_wp2;go_ret;exact⟨rfl,rfl⟩
 .have e4:(x/9223372036854775808==1)=false:=by rw[aH];omega
  have e:oJ x=x+9223372036854775808:=by unfold oJ;omega
  have e5:=NZ x h0 (by omega);rw[e];clear e;go_enter func248,ntmps248;go_wp2;go_ret;exact⟨rfl,rfl⟩
theorem KD (x y:Int) (h0:0<=x) (h1:x<=18446744073709551615) (y0:0<=y) (y1:y<=18446744073709551615) (w:World):
  Calls prog 233 #[.int .u64 x,.int .u64 y] w fun e w'=>e=.returned (.int .i64 (mL x y))/\w=w':=by
 go_enter func233,ntmps233;go_wp2_with (first|(go_at_call 248;refine(Rw _ (by omega) (by omega) _).mono ?_;rintro e w' ⟨rfl,rfl⟩)|(go_at_call 247;refine(Qb _ _ _).mono ?_;rintro e w' ⟨rfl,rfl⟩))
 go_ret;exact⟨rfl,rfl⟩
theorem Lf (x y:Int) (h0:0<=x) (h1:x<=18446744073709551615) (y0:0<=y) (y1:y<=18446744073709551615) (w:World):
  Calls prog 165 #[.int .u64 x,.int .u64 y] w fun e w'=>e=.returned (.tuple #[.int .i64 (o' x y),.bool (ra x y)])/\w=w':=by
 have hx:fe x=4\/fe x=0:=by unfold fe;omega
 have hy:fe y=4\/fe y=0:=by unfold fe;omega
 have hi:ra x y=(fe x==0 && fe y==0):=rfl;have hc:o' x y=if ra x y=true then sX (bO x) (bO y) else 0:=rfl
 rcases hx with hx|hx <;> rcases hy with hy|hy
 all_goals
  rw[hx,hy]at hi;simp only[Int.reduceBEq,Bool.and_true,Bool.and_false,Bool.and_self,ga,e9,cQ]at hi;rw[hi]at hc;simp only[ga,e9,cQ]at hc;rw[hi,hc];clear hi hc;go_enter func165,ntmps165;go_wp2_with (first|(go_at_call 211;refine(p8 _ (by omega) (by omega) _).mono ?_;rintro e w' ⟨rfl,rfl⟩)|(go_at_call 137;refine(MU _ _ _).mono ?_;rintro e w' ⟨rfl,rfl⟩))
  go_ret2;exact⟨rfl,rfl⟩
theorem Md (x y s:Int) (h0:0<=x) (h1:x<=18446744073709551615) (y0:0<=y) (y1:y<=18446744073709551615) (s0: -1<=s) (s1:s<=1) (w:World):
  Calls prog 213 #[.int .u64 x,.int .u64 y,.int .i64 s] w fun e w'=>e=.returned (.int .u64 (rW x y s))/\w=w':=by
 have hb:=KJ (oJ x) (oJ y);have ht: -1<=mL x y/\mL x y<=1:=hb
 have hm: -1<=mL x y*s/\mL x y*s<=1:=by
  obtain⟨t1,t2⟩:=ht;have e1:mL x y= -1\/mL x y=0\/mL x y=1:=by omega
  rcases e1 with e1|e1|e1 <;> rw[e1] <;> omega
 have hcx:(ak x==5)=true\/(ak x==5)=false:=by cases(ak x==5) <;> simp
 have hcy:(ak y==5)=true\/(ak y==5)=false:=by cases(ak y==5) <;> simp
 have hn:Bb x y=(ak x==5 || ak y==5):=rfl;have hl:rW x y s=if Bb x y=true then 9221120237041090560 else if mL x y*s<=0 then x else y:=rfl
 rcases hcx with hcx|hcx <;> rcases hcy with hcy|hcy
 all_goals
  rw[hcx,hcy]at hn;simp only[Bool.or_true,Bool.or_false,Bool.or_self,Bool.true_or,Bool.false_or]at hn;rw[hn]at hl;simp only[ga,e9,cQ]at hl;rw[hl];clear hn hl hb
 case inr.inr=>
  by_cases hle:mL x y*s<=0
  all_goals
   simp only[hle,cQ,e9];go_enter func213,ntmps213;go_wp2_with (first|(go_at_call 8;refine(fB _ (by omega) (by omega) _).mono ?_;rintro e w' ⟨rfl,rfl⟩)|(go_at_call 233;refine(KD _ _ (by omega) (by omega) (by omega) (by omega) _).mono ?_;rintro e w' ⟨rfl,rfl⟩))
   go_ret;exact⟨rfl,rfl⟩
 all_goals
  clear hm;go_enter func213,ntmps213;go_wp2_with (first|(go_at_call 8;refine(fB _ (by omega) (by omega) _).mono ?_;rintro e w' ⟨rfl,rfl⟩)|(go_at_call 233;refine(KD _ _ (by omega) (by omega) (by omega) (by omega) _).mono ?_;rintro e w' ⟨rfl,rfl⟩))
  go_ret;exact⟨rfl,rfl⟩
theorem Yz (x y:Int) (h0:0<=x) (h1:x<=18446744073709551615) (y0:0<=y) (y1:y<=18446744073709551615) (w:World):
  Calls prog 161 #[.int .u64 x,.int .u64 y] w fun e w'=>e=.returned (.int .u64 (rW x y 1))/\w=w':=by
 go_enter func161,ntmps161;go_wp2_with (go_at_call 213;refine(Md _ _ _ (by omega) (by omega) (by omega) (by omega) (by omega) (by omega) _).mono ?_;rintro e w' ⟨rfl,rfl⟩)
 go_ret;exact⟨rfl,rfl⟩
theorem QC (x y:Int) (h0:0<=x) (h1:x<=18446744073709551615) (y0:0<=y) (y1:y<=18446744073709551615) (w:World):
  Calls prog 162 #[.int .u64 x,.int .u64 y] w fun e w'=>e=.returned (.int .u64 (rW x y (-1)))/\w=w':=by
 go_enter func162,ntmps162;go_wp2_with (go_at_call 213;refine(Md _ _ _ (by omega) (by omega) (by omega) (by omega) (by omega) (by omega) _).mono ?_;rintro e w' ⟨rfl,rfl⟩)
 go_ret;exact⟨rfl,rfl⟩
theorem II (n:Int) (h0: -9218868437227405312<=n) (h1:n<=9218868437227405312) (w:World):
  Calls prog 212 #[.int .i64 n] w fun e w'=>e=.returned (.tuple #[.int .u64 (mb n),.int .i64 0])/\w=w':=by
 by_cases hc:n<0
 .have e1:=NZ (-n) (by omega) (by omega)
  have e2:mb n= -n+9223372036854775808:=by unfold mb;omega
  rw[e2];clear e2;go_enter func212,ntmps212;go_wp2;go_ret2;exact⟨rfl,rfl⟩
 .have e2:mb n=n:=by unfold mb;omega
  rw[e2];clear e2;go_enter func212,ntmps212;go_wp2;go_ret2;exact⟨rfl,rfl⟩
theorem OO (x:Int) (h0:0<=x) (h1:x<=18446744073709551615) (w:World):
  Calls prog 158 #[.int .u64 x] w fun e w'=>e=.returned (.int .u64 (qu x))/\w=w':=by
 have hb:=xg x;by_cases hn:9218868437227405312<ay x
 .have h3:fe x=4:=by unfold fe;omega
  have h4:qu x=9221120237041090560:=by unfold qu;rw[aj hn]
  rw[h4];clear h4;go_enter func158,ntmps158;go_wp2_with (go_at_call 211;refine(p8 x h0 h1 _).mono ?_;rintro e w' ⟨rfl,rfl⟩)
  go_ret;exact⟨rfl,rfl⟩
 .have h3:fe x=0:=by unfold fe;omega
  have h4:qu x=if bO x=9218868437227405312 then x else if bO x= -1 then 9223372036854775808 else mb (bO x+1):=by unfold qu;rw[ag hn]
  by_cases ha:bO x=9218868437227405312
  .rw[aj ha]at h4
   rw[h4];clear h4;go_enter func158,ntmps158;go_wp2_with (go_at_call 211;refine(p8 x h0 h1 _).mono ?_;rintro e w' ⟨rfl,rfl⟩)
   go_ret;exact⟨rfl,rfl⟩
  .rw[ag ha]at h4
   by_cases hc:bO x= -1
   .rw[aj hc]at h4
    rw[h4];clear h4;go_enter func158,ntmps158;go_wp2_with (go_at_call 211;refine(p8 x h0 h1 _).mono ?_;rintro e w' ⟨rfl,rfl⟩)
    go_ret;exact⟨rfl,rfl⟩
   .rw[ag hc]at h4
    rw[h4];clear h4;have k1:bO x<=9218868437227405311:=by omega
    have ha':(bO x==9218868437227405312)=false:=by rw[aH];exact ha
    have hc':(bO x== -1)=false:=by rw[aH];exact hc
    clear ha hc;go_enter func158,ntmps158;go_wp2_with (first|(go_at_call 211;refine(p8 x h0 h1 _).mono ?_;rintro e w' ⟨rfl,rfl⟩)|(go_at_call 212;refine(II _ (by omega) (by omega) _).mono ?_;rintro e w' ⟨rfl,rfl⟩))
    go_ret;exact⟨rfl,rfl⟩
theorem Zm (x:Int) (h0:0<=x) (h1:x<=18446744073709551615) (w:World):
  Calls prog 159 #[.int .u64 x] w fun e w'=>e=.returned (.int .u64 (qj x))/\w=w':=by
 have hb:=xg x;by_cases hn:9218868437227405312<ay x
 .have h3:fe x=4:=by unfold fe;omega
  have h4:qj x=9221120237041090560:=by unfold qj;rw[aj hn]
  rw[h4];clear h4;go_enter func159,ntmps159;go_wp2_with (go_at_call 211;refine(p8 x h0 h1 _).mono ?_;rintro e w' ⟨rfl,rfl⟩)
  go_ret;exact⟨rfl,rfl⟩
 .have h3:fe x=0:=by unfold fe;omega
  have h4:qj x=if bO x= -9218868437227405312 then x else mb (bO x-1):=by unfold qj;rw[ag hn]
  by_cases ha:bO x= -9218868437227405312
  .rw[aj ha]at h4
   rw[h4];clear h4;go_enter func159,ntmps159;go_wp2_with (go_at_call 211;refine(p8 x h0 h1 _).mono ?_;rintro e w' ⟨rfl,rfl⟩)
   go_ret;exact⟨rfl,rfl⟩
  .rw[ag ha]at h4
   rw[h4];clear h4;have k1: -9218868437227405311<=bO x:=by omega
   have ha':(bO x== -9218868437227405312)=false:=by rw[aH];exact ha
   clear ha;go_enter func159,ntmps159;go_wp2_with (first|(go_at_call 211;refine(p8 x h0 h1 _).mono ?_;rintro e w' ⟨rfl,rfl⟩)|(go_at_call 212;refine(II _ (by omega) (by omega) _).mono ?_;rintro e w' ⟨rfl,rfl⟩))
   go_ret;exact⟨rfl,rfl⟩
