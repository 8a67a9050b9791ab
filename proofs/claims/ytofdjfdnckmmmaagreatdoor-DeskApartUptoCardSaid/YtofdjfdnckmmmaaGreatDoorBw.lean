import Derived.Test.YtofdjfdnckmmmaaGreatDoorAl
import Derived.Test.YtofdjfdnckmmmaaGreatDoorNat7
set_option linter.all false
set_option maxHeartbeats 2000000
open Go.Proofs.Tryz
open Go.Lib (hid)
namespace Go.Proofs.YtofdjfdnckmmmaaGreatDoor
open Go.RowKit Nt Fm
theorem yR (vd:Value) (d:D) (k0:Nat) (w:World) (hd:DV w vd d) (hdm:d.m<2^k0) (hk0:k0<=16000000000000):
  Calls prog 207 #[vd] w (iR w (aO d)):=by
 obtain⟨g,m,x⟩:=d;obtain⟨s,rfl,hs⟩:=hd;simp only at *;obtain⟨ao,n,c,rfl,l1,l2,lz⟩:=fD hs;have hcl:=fun w1 h1=>Ks (.slice ao n c) m k0 w1 h1 hdm (by omega)
 have hcase:(g=true/\aO ⟨g,m,x⟩=⟨false,m,x⟩)\/(g=false/\n=0/\aO ⟨g,m,x⟩=⟨false,m,x⟩)\/(g=false/\decide (0<n)=true/\aO ⟨g,m,x⟩=⟨true,m,x⟩):=by
  unfold aO;cases g
  .right
   rcases lz with⟨h1,h2⟩|⟨h1,h2⟩
   .left;exact⟨rfl,h2,by simp [h1]⟩
   .right;exact⟨rfl,by simp;omega,by simp [h1]⟩
  .left;exact⟨rfl,by simp⟩
 generalize aO ⟨g,m,x⟩=S at *;have HCL:=hid hcl;have HS:=hid hs;clear hcl hs hdm lz;rcases hcase with⟨rfl,rfl⟩|⟨rfl,rfl,rfl⟩|⟨rfl,hn,rfl⟩
 all_goals
  go_enter func207,ntmps207;go_wp2_with fail
  refine(HCL.out _ (HS.out.below (gL _ _ _))).mono ?_;rintro r w1 ⟨v,rfl,hv,hb⟩;obtain⟨a1,n1,c1,rfl⟩:=hv.shape;have X1:=hid (((ax.new w _ _ _ _).alloc _).below hb);have Z1:=hid ((ax.new2 w _ _ _ _ _).below hb);have B1:=hid (af (gL w _ _) le0 hb);have HV:=hid hv;obtain⟨q0,q1,q2,f0,f1,f2⟩:=X1.out.cells;obtain⟨p0,p1,p2,g0,g1,g2⟩:=Z1.out.cells;clear hv hb;go_wp2
  first
   |(refine bodyPost_ret (v:= .agg #[.bool false,.slice a1 n1 c1,.int .i64 x]) ?_ rfl ?_;focus (simp [results,Tryz.results207,go_sem,p0,p1,p2];done))
   |(refine bodyPost_ret (v:= .agg #[.bool true,.slice a1 n1 c1,.int .i64 x]) ?_ rfl ?_;focus (simp [results,Tryz.results207,go_sem,p0,p1,p2];done))
  exact⟨_,rfl,⟨.slice a1 n1 c1,rfl,(HV.out.setBox X1.out (ml _) (dO _ _ _) (kq _) _ _).setD (Z1.out.set (by omega) _)⟩,cJ (B1.out.setCell le0 _) (by omega) _ _ _⟩
