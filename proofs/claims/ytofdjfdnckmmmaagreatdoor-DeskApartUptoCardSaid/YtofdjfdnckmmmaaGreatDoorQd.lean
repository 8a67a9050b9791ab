import Derived.Test.YtofdjfdnckmmmaaGreatDoorAx
set_option linter.all false
namespace Go.Proofs.YtofdjfdnckmmmaaGreatDoor.Qd
structure Dat (P ul vl u0 T v0 v1 U V:Nat):Prop where
 hP:0<P
 h_ul:ul<P
 h_vl:vl<P
 h_u0:u0<4294967296
 h_v0:v0<4294967296
 h_v1:2147483648<=v1
 h_v1':v1<4294967296
 h_U:U=ul+P*(u0+4294967296*T)
 h_V:V=vl+P*(v0+4294967296*v1)
 h_lt:U<V*4294967296
def GRel (T v1 U V g r:Nat):Prop:=g*v1+r=T/\g<4294967296/\U<(g+1)*V
def Fin (U V g:Nat):Prop:=g<4294967296/\U<(g+1)*V/\g*V<=U+V
variable {P ul vl u0 T v0 v1 U V:Nat}
theorem Dat.U_lt (D:Dat P ul vl u0 T v0 v1 U V):U<P*(4294967296*(T+1)):=by
 have h1:=D.h_ul;have h2:=D.h_u0;have h3:=D.h_U;have h4:4294967296*(T+1)=(u0+4294967296*T)+(4294967296-u0):=by omega
 rw[h4,cP,h3];have :P*1<=P*(4294967296-u0):=cZ _ (by omega);omega
theorem Dat.V_ge (D:Dat P ul vl u0 T v0 v1 U V):P*(4294967296*v1)<=V:=by
 rw[D.h_V,cP];omega
theorem start (D:Dat P ul vl u0 T v0 v1 U V):GRel T v1 U V (min (T/v1) 4294967295) (T-min (T/v1) 4294967295*v1)/\min (T/v1) 4294967295*v1<=T:=by
 have h1:=D.h_v1;have hd:=qH T v1;have hle:min (T/v1) 4294967295*v1<=T:=ct (bR _ (Nat.min_le_left _ _)) hd;refine⟨⟨by omega,by omega,?_⟩,hle⟩;rcases Nat.le_total (T/v1) 4294967295 with h|h
 .rw[i_ h]
  have h2:T+1<=(T/v1+1)*v1:=by
   have :=kt T v1;have :=ew T (show 0<v1 by omega);rw[a_,aW (T/v1)];omega
  calc U<P*(4294967296*(T+1)):=D.U_lt
   _<=P*(4294967296*((T/v1+1)*v1)):=cZ _ (cZ _ h2)
   _=(T/v1+1)*(P*(4294967296*v1)):=by rw[<-aF 4294967296,aW 4294967296,aF,fQ]
   _<=(T/v1+1)*V:=cZ _ D.V_ge
 .rw[Nat.min_eq_right h,show 4294967295+1=4294967296 by decide,aW];exact D.h_lt
theorem step (D:Dat P ul vl u0 T v0 v1 U V) {g r:Nat}(h:GRel T v1 U V (g+1) r) (hc:r*4294967296+u0<(g+1)*v0):GRel T v1 U V g (r+v1):=by
 obtain⟨h1,h2,h3⟩:=h;rw[a_]at h1;refine⟨by omega,by omega,?_⟩
 have h4:u0+4294967296*T+1<=(g+1)*(v0+4294967296*v1):=by
  rw[cP,fQ (g+1),a_ g 1 v1,<-h1];omega
 have h5:=cZ P h4
 have h6:P*((g+1)*(v0+4294967296*v1))<=(g+1)*V:=by
  rw[fQ,D.h_V];exact cZ _ (by omega)
 have hu:=D.h_ul;rw[D.h_U];rw[cP P (u0+4294967296*T) 1]at h5;omega
theorem exit (D:Dat P ul vl u0 T v0 v1 U V) {g r:Nat}(h:GRel T v1 U V g r) (hc:4294967296<=r\/g*v0<=r*4294967296+u0):Fin U V g:=by
 obtain⟨h1,h2,h3⟩:=h;refine⟨h2,h3,?_⟩
 have hc2:g*v0<=r*4294967296+u0:=by
  rcases hc with hc|hc
  .have :=D.h_v0
   have a:g*v0<=4294967296*4294967296:=eI (by omega) (by omega);have b:4294967296*4294967296<=r*4294967296:=bR _ hc;omega
  .exact hc
 have h4:g*(v0+4294967296*v1)<=u0+4294967296*T:=by
  rw[cP,fQ,<-h1];omega
 have h5:=cZ P h4;have h6:g*V=g*vl+P*(g*(v0+4294967296*v1)):=by rw[D.h_V,cP,fQ]
 have hvl:=D.h_vl;have h7:g*vl<=4294967296*P:=eI (by omega) (by omega)
 have h8:4294967296*P<=V:=by
  refine ct ?_ D.V_ge;have hv1:=D.h_v1;rw[aW];exact cZ _ (by omega)
 have hU:=D.h_U;omega
theorem sub_limb {c g vi ui bo C p c' ui' bo':Nat}(hC:C=c+g*vi) (hp:p=C%4294967296) (hc':c'=C/4294967296) (h:ui'+p+bo=ui+4294967296*bo'):bo+c+(ui'+g*vi)=ui+4294967296*(bo'+c'):=by
 have :=kt C 4294967296;rw[<-hp,<-hc']at this;omega
theorem carry_lt {c g vi C:Nat}(hC:C=c+g*vi) (hc:c<4294967296) (hg:g<4294967296) (hv:vi<4294967296):C<18446744073709551616/\C/4294967296<4294967296:=by
 have :g*vi<=4294967295*4294967295:=eI (by omega) (by omega);omega
theorem done0 {g W:Nat}(h:Fin U V g) (hW:W+g*V=U):g=U/V/\W=U%V:=by
 obtain⟨h1,h2,h3⟩:=h;rw[a_]at h2
 have hV:0<V:=by
  rcases fl V with h0|h0
  .subst h0;omega
  .exact h0
 have hlt:W<V:=by omega
 rw[<-hW,ai0 _ _ hV,nY hlt,ai1,lV hlt];omega
theorem done1 {g W W' s M:Nat}(h:Fin U V g) (hW:W+g*V=U+M) (hWM:W<M) (hV:V<M) (hW':W'+M*s=W+V) (hW'M:W' <M):1<=g/\g-1=U/V/\W'=U%V:=by
 obtain⟨h1,h2,h3⟩:=h
 have hg:1<=g:=by
  rcases fl g with h0|h0
  .subst h0;omega
  .exact h0
 obtain⟨k,rfl⟩:∃k,g=k+1:=⟨g-1,by omega⟩;rw[a_]at hW h3
 have hs:s=1:=by
  rcases ju s 1 with h0|h0|h0
  .have :s=0:=by omega
   subst this;omega
  .exact h0
  .have :M*2<=M*s:=cZ _ h0
   omega
 subst hs;refine⟨hg,?_⟩
 have hV0:0<V:=by
  rcases fl V with h0|h0
  .subst h0;omega
  .exact h0
 have hU:W'+k*V=U:=by omega
 have hlt:W' <V:=by omega
 rw[<-hU,ai0 _ _ hV0,nY hlt,ai1,lV hlt];omega
