/- Part Go of the proof. -/
import Derived.Test.YtlloonffibabfaaGreatDoorGn
import Derived.Test.YtlloonffibabfaaGreatDoorGi
import Derived.Test.YtlloonffibabfaaGreatDoorGl
import Derived.Test.YtlloonffibabfaaGreatDoorGm
set_option linter.unusedVariables false
set_option linter.unusedSimpArgs false
namespace Go.Sx
open Cr
section
variable {F:Type}[Fd F]{a b:F}
structure Ln (a b l m x1 x2 x3:F):Prop where
 h2:l*l=x1+x2+x3
 h1:l*m+l*m=a + -(x1*x2+x1*x3+x2*x3)
 h0:m*m=b+x1*x2*x3
theorem Ln.sw{l m x1 x2 x3:F}(h:Ln a b l m x1 x2 x3):Ln a b (-l) (-m) x1 x2 x3:=by
 refine⟨?_,?_,?_⟩
 ·rw[<- h.h2];exact PE.same (rho [l]) (-PE.v 0 * -PE.v 0) (PE.v 0*PE.v 0) rfl
 ·rw[<- h.h1];exact PE.same (rho [l,m]) (-PE.v 0 * -PE.v 1 + -PE.v 0 * -PE.v 1) (PE.v 0*PE.v 1+PE.v 0*PE.v 1) rfl
 ·rw[<- h.h0];exact PE.same (rho [m]) (-PE.v 0 * -PE.v 0) (PE.v 0*PE.v 0) rfl
def Lp(l m:F):Po F:=Cc l*Xx+Cc m
def Le(a b l m:F):Cu F a b:=Yy + -io (Lp l m)
theorem Xaq(x l m:F):Yf x (Lp l m)=l*x+m:=by unfold Lp;rw[Ya,Xq,Vr,Vr,Qme]
theorem Xdp(l m:F):Lp (-l) (-m)=-Lp l m:=by
 unfold Lp;rw[Qe3,Qe3];exact PE.same (rho [Cc l,Xx,Cc m]) (-PE.v 0*PE.v 1 + -PE.v 2) (-(PE.v 0*PE.v 1+PE.v 2)) rfl
theorem Zwg(l m:F):Le a b l m≠0:=fun h=>Fd.one_ne (α:=F) (by
 have h1:(Le a b l m).v.1 0=zero:=by rw[h];rfl
 have h2:(Le a b l m).v.1 0=one:=by
  show add one (neg zero)=one;rw[neg_zero,add_zero]
 rw[<- h2,h1])
theorem Xei{l m x1 x2 x3:F}(h:Ln a b l m x1 x2 x3):Lp l m*Lp l m + -cub a b=-(Ax x1*Ax x2*Ax x3):=by
 have e2:Cc l*Cc l=Cc x1+Cc x2+Cc x3:=by rw[<- Ym,h.h2,Uv,Uv]
 have e1:Cc l*Cc m+Cc l*Cc m=Cc a + -(Cc x1*Cc x2+Cc x1*Cc x3+Cc x2*Cc x3):=by rw[<- Ym,<- Uv,h.h1,Uv,Qe3,Uv,Uv,Ym,Ym,Ym]
 have e0:Cc m*Cc m=Cc b+Cc x1*Cc x2*Cc x3:=by rw[<- Ym,h.h0,Uv,Ym,Ym]
 unfold Lp cub Ax
 have e:(Cc l*Xx+Cc m)*(Cc l*Xx+Cc m) + -(Xx*Xx*Xx+Cc a*Xx+Cc b)=Cc l*Cc l*(Xx*Xx)+(Cc l*Cc m+Cc l*Cc m)*Xx+Cc m*Cc m + -(Xx*Xx*Xx+Cc a*Xx+Cc b) :=
  PE.same (rho [Cc l,Cc m,Xx,Cc a,Cc b]) ((PE.v 0*PE.v 2+PE.v 1)*(PE.v 0*PE.v 2+PE.v 1) + -(PE.v 2*PE.v 2*PE.v 2+PE.v 3*PE.v 2+PE.v 4)) (PE.v 0*PE.v 0*(PE.v 2*PE.v 2)+(PE.v 0*PE.v 1+PE.v 0*PE.v 1)*PE.v 2+PE.v 1*PE.v 1 + -(PE.v 2*PE.v 2*PE.v 2+PE.v 3*PE.v 2+PE.v 4)) rfl
 rw[e,e2,e1,e0];exact PE.same (rho [Xx,Cc a,Cc b,Cc x1,Cc x2,Cc x3]) ((PE.v 3+PE.v 4+PE.v 5)*(PE.v 0*PE.v 0)+(PE.v 1 + -(PE.v 3*PE.v 4+PE.v 3*PE.v 5+PE.v 4*PE.v 5))*PE.v 0+(PE.v 2+PE.v 3*PE.v 4*PE.v 5) + -(PE.v 0*PE.v 0*PE.v 0+PE.v 1*PE.v 0+PE.v 2)) (-((PE.v 0 + -PE.v 3)*(PE.v 0 + -PE.v 4)*(PE.v 0 + -PE.v 5))) rfl
theorem Zyi{l m x1 x2 x3:F}(h:Ln a b l m x1 x2 x3):io (Ax x1)*io (Ax x2)*io (Ax x3)=Le a b l m*Le a b (-l) (-m):=by
 have e:Le a b l m*Le a b (-l) (-m)=Yy*Yy + -(io (Lp l m)*io (Lp l m)):=by
  unfold Le;rw[Xdp,Qhy];exact PE.same (rho [Yy,io (Lp l m)]) ((PE.v 0 + -PE.v 1)*(PE.v 0 + - -PE.v 1)) (PE.v 0*PE.v 0 + -(PE.v 1*PE.v 1)) rfl
 have e3:cub a b + -(Lp l m*Lp l m)=Ax x1*Ax x2*Ax x3:=by
  have h2:-(Lp l m*Lp l m + -cub a b)=- -(Ax x1*Ax x2*Ax x3):=by rw[Xei h]
  rw[show - -(Ax x1*Ax x2*Ax x3)=Ax x1*Ax x2*Ax x3 from neg_neg _]at h2;rw[<- h2];exact PE.same (rho [cub a b,Lp l m*Lp l m]) (PE.v 0 + -PE.v 1) (-(PE.v 1 + -PE.v 0)) rfl
 rw[e,YY,<- Jg,<- Jg,<- Jg,<- Qhy,<- Qe2,e3]
theorem Qmu{l m x:F}{h:Cu F a b}(hv:van (.P x (l*x+m)) h):∃s w:Cu F a b,h=io (Ax x)*s+Le a b l m*w:=by
 obtain⟨q,hq⟩:=Zeg x (h.u+Lp l m*h.v);have h0:Yf x h.u+(l*x+m)*Yf x h.v=0:=hv;have hz:Yf x (h.u+Lp l m*h.v)=0:=by rw[Ya,Xq,Xaq];exact h0
 rw[hz]at hq;have hq:h.u+Lp l m*h.v=Ax x*q:=by
  refine hq.trans ?_;rw[Zvg];exact add_zero _
 refine⟨io q,io h.v,(uv h).trans ?_⟩;unfold Le;rw[<- Jg,<- hq,Qe2,Jg];exact PE.same (rho [io h.u,io h.v,Yy,io (Lp l m)]) (PE.v 0+PE.v 1*PE.v 2) (PE.v 0+PE.v 3*PE.v 1+(PE.v 2 + -PE.v 3)*PE.v 1) rfl
theorem Zea{l m x1 x2 x3:F}(h:Ln a b l m x1 x2 x3){L:List (Pn F)}{w:Cu F a b}(hw:Vi (.P x1 (l*x1+m) :: .P x2 (l*x2+m) :: .P x3 (l*x3+m)::L) w):∃k,Vi L k/\w=Le a b l m*k:=by
 refine Yk (C:=fun w=>∃k,Vi L k/\w=Le a b l m*k) (B6 _) (fun _ _=>B4) (fun h1 k1 v1 i1=>?_) hw;refine Yk (C:=fun k1=>∃k,Vi L k/\h1*k1=Le a b l m*k) (by rw[rmz];exact B6 _) (fun _ _ i j=>by rw[rma];exact B4 i j) (fun h2 k2 v2 i2=>?_) i1;refine Yk (C:=fun k2=>∃k,Vi L k/\h1*(h2*k2)=Le a b l m*k) (by rw[rmz,rmz];exact B6 _) (fun _ _ i j=>by rw[rma,rma];exact B4 i j) (fun h3 k v3 ik=>?_) i2;obtain⟨s1,w1,rfl⟩:=Qmu v1;obtain⟨s2,w2,rfl⟩:=Qmu v2;obtain⟨s3,w3,rfl⟩:=Qmu v3;have e:=Zyi h;refine⟨(Le a b (-l) (-m)*(s1*s2*s3)+(w1*((io (Ax x2)*s2+Le a b l m*w2)*(io (Ax x3)*s3+Le a b l m*w3))+io (Ax x1)*s1*(w2*(io (Ax x3)*s3+Le a b l m*w3)+io (Ax x2)*s2*w3)))*k,Qi7 L _ ik,?_⟩
 have e1:(io (Ax x1)*s1+Le a b l m*w1)*((io (Ax x2)*s2+Le a b l m*w2)*((io (Ax x3)*s3+Le a b l m*w3)*k))=(io (Ax x1)*io (Ax x2)*io (Ax x3)*(s1*s2*s3)+Le a b l m*(w1*((io (Ax x2)*s2+Le a b l m*w2)*(io (Ax x3)*s3+Le a b l m*w3))+io (Ax x1)*s1*(w2*(io (Ax x3)*s3+Le a b l m*w3)+io (Ax x2)*s2*w3)))*k :=
  PE.same (rho [io (Ax x1),io (Ax x2),io (Ax x3),s1,s2,s3,w1,w2,w3,Le a b l m,k]) ((PE.v 0*PE.v 3+PE.v 9*PE.v 6)*((PE.v 1*PE.v 4+PE.v 9*PE.v 7)*((PE.v 2*PE.v 5+PE.v 9*PE.v 8)*PE.v 10))) ((PE.v 0*PE.v 1*PE.v 2*(PE.v 3*PE.v 4*PE.v 5)+PE.v 9*(PE.v 6*((PE.v 1*PE.v 4+PE.v 9*PE.v 7)*(PE.v 2*PE.v 5+PE.v 9*PE.v 8))+PE.v 0*PE.v 3*(PE.v 7*(PE.v 2*PE.v 5+PE.v 9*PE.v 8)+PE.v 1*PE.v 4*PE.v 8)))*PE.v 10) rfl
 rw[e1,e];generalize w1*((io (Ax x2)*s2+Le a b l m*w2)*(io (Ax x3)*s3+Le a b l m*w3))+io (Ax x1)*s1*(w2*(io (Ax x3)*s3+Le a b l m*w3)+io (Ax x2)*s2*w3)=Z;exact PE.same (rho [Le a b l m,Le a b (-l) (-m),s1*s2*s3,Z,k]) ((PE.v 0*PE.v 1*PE.v 2+PE.v 0*PE.v 3)*PE.v 4) (PE.v 0*((PE.v 1*PE.v 2+PE.v 3)*PE.v 4)) rfl
theorem Zor(l x m:F):-(l*x+m)=-l*x + -m:=PE.same (rho [l,x,m]) (-(PE.v 0*PE.v 1+PE.v 2)) (-PE.v 0*PE.v 1 + -PE.v 2) rfl
theorem Zus(ns:NS a b){l m x1 x2 x3:F}(h:Ln a b l m x1 x2 x3)(o1:(Pn.P x1 (l*x1+m)).on a b)(o2:(Pn.P x2 (l*x2+m)).on a b)(o3:(Pn.P x3 (l*x3+m)).on a b){L:List (Pn F)}{k:Cu F a b}(hk:Vi L k) :
  Vi (.P x1 (l*x1+m) :: .P x2 (l*x2+m) :: .P x3 (l*x3+m)::L) (Le a b l m*k):=by
 have i3:=Qgf ns o3 hk;have i2:=Qgf ns o2 i3;have i1:=Qgf ns o1 i2;generalize hP:Pn.P x1 (l*x1+m)=P at *
 generalize hQ:Pn.P x2 (l*x2+m)=Q at *
 generalize hR:Pn.P x3 (l*x3+m)=R at *
 have hP':Pn.P x1 (-(l*x1+m))=Pn.P x1 (-l*x1 + -m):=by rw[Zor]
 have hQ':Pn.P x2 (-(l*x2+m))=Pn.P x2 (-l*x2 + -m):=by rw[Zor]
 have hR':Pn.P x3 (-(l*x3+m))=Pn.P x3 (-l*x3 + -m):=by rw[Zor]
 rw[hP',hQ',hR']at i1;have hp:(P::Pn.P x1 (-l*x1 + -m)::Q::Pn.P x2 (-l*x2 + -m)::R::Pn.P x3 (-l*x3 + -m)::L).Perm (P::Q::R::Pn.P x1 (-l*x1 + -m)::Pn.P x2 (-l*x2 + -m)::Pn.P x3 (-l*x3 + -m)::L):=by
  refine .cons _ ((List.Perm.swap _ _ _).trans (.cons _ ?_));exact((List.Perm.swap _ _ _).cons _).trans (List.Perm.swap _ _ _)
 have i4:=Qm1 hp i1;have key:∀ {w:Cu F a b},Vi (P::Q::R::Pn.P x1 (-l*x1 + -m)::Pn.P x2 (-l*x2 + -m)::Pn.P x3 (-l*x3 + -m)::L) w->∃j,Vi (P::Q::R::L) j/\w=Le a b (-l) (-m)*j:=fun {w} hw=>by
  refine Yk (C:=fun w=>∃j,Vi (P::Q::R::L) j/\w=Le a b (-l) (-m)*j) (B6 _) (fun _ _=>B4) (fun h1 k1 v1 i1=>?_) hw;refine Yk (C:=fun k1=>∃j,Vi (P::Q::R::L) j/\h1*k1=Le a b (-l) (-m)*j) (by rw[rmz];exact B6 _) (fun _ _ i j=>by rw[rma];exact B4 i j) (fun h2 k2 v2 i2=>?_) i1;refine Yk (C:=fun k2=>∃j,Vi (P::Q::R::L) j/\h1*(h2*k2)=Le a b (-l) (-m)*j) (by rw[rmz,rmz];exact B6 _) (fun _ _ i j=>by rw[rma,rma];exact B4 i j) (fun h3 k3 v3 i3=>?_) i2;obtain⟨j,hj,rfl⟩:=Zea h.sw i3;refine⟨h1*(h2*(h3*j)),.mul v1 (.mul v2 (.mul v3 hj)),?_⟩;exact PE.same (rho [h1,h2,h3,Le a b (-l) (-m),j]) (PE.v 0*(PE.v 1*(PE.v 2*(PE.v 3*PE.v 4)))) (PE.v 3*(PE.v 0*(PE.v 1*(PE.v 2*PE.v 4)))) rfl
 obtain⟨j,hj,e⟩:=key i4;have e2:io (Ax x1)*(io (Ax x2)*(io (Ax x3)*k))=Le a b (-l) (-m)*(Le a b l m*k):=by
  have e3:io (Ax x1)*(io (Ax x2)*(io (Ax x3)*k))=io (Ax x1)*io (Ax x2)*io (Ax x3)*k :=
   PE.same (rho [io (Ax x1),io (Ax x2),io (Ax x3),k]) (PE.v 0*(PE.v 1*(PE.v 2*PE.v 3))) (PE.v 0*PE.v 1*PE.v 2*PE.v 3) rfl
  rw[e3,Zyi h];exact PE.same (rho [Le a b l m,Le a b (-l) (-m),k]) (PE.v 0*PE.v 1*PE.v 2) (PE.v 1*(PE.v 0*PE.v 2)) rfl
 rw[e2]at e;rw[Qfz (Zwg _ _) e];exact hj
def Cl(a b:F)(A B:List (Pn F)):Prop:=∃f g:Cu F a b,(f≠0/\g≠0)/\(∀h,Vi A h->∃k,Vi B k/\f*h=g*k)/\(∀k,Vi B k->∃h,Vi A h/\f*h=g*k)
theorem Qdc:(1:Cu F a b)≠0:=fun h=>Fd.one_ne (α:=F) (by
 have:(1:Cu F a b).u.1 0=(0:Cu F a b).u.1 0:=by rw[h]
 exact this)
theorem Uo{A B:List (Pn F)}(h:A.Perm B):Cl a b A B:=⟨1,1,⟨Qdc,Qdc⟩,fun w hw=>⟨w,Qm1 h hw,rfl⟩,fun w hw=>⟨w,Qm1 h.symm hw,rfl⟩⟩
theorem Qpo(A:List (Pn F)):Cl a b A A:=Uo (.refl A)
theorem Qaz{A B:List (Pn F)}(h:Cl a b A B):Cl a b B A:=by
 obtain⟨f,g,⟨hf,hg⟩,h1,h2⟩:=h;refine⟨g,f,⟨hg,hf⟩,fun k hk=>?_,fun w hw=>?_⟩
 ·obtain⟨w,hw,e⟩:=h2 k hk;exact⟨w,hw,e.symm⟩
 ·obtain⟨k,hk,e⟩:=h1 w hw;exact⟨k,hk,e.symm⟩
theorem Xc{A B C:List (Pn F)}(h:Cl a b A B)(h':Cl a b B C):Cl a b A C:=by
 obtain⟨f,g,⟨hf,hg⟩,h1,h2⟩:=h;obtain⟨f',g',⟨hf',hg'⟩,h1',h2'⟩:=h';have e:∀ {w k l:Cu F a b},f*w=g*k->f'*k=g'*l->f*f'*w=g*g'*l:=fun {w k l} e e'=>by
  have e1:f*f'*w=f'*(f*w):=PE.same (rho [f,f',w]) (PE.v 0*PE.v 1*PE.v 2) (PE.v 1*(PE.v 0*PE.v 2)) rfl;rw[e1,e,rml,e'];exact(rms _ _ _).symm
 refine⟨f*f',g*g',⟨Qbi hf hf',Qbi hg hg'⟩,fun w hw=>?_,fun l hl=>?_⟩
 ·obtain⟨k,hk,e1⟩:=h1 w hw;obtain⟨l,hl,e2⟩:=h1' k hk;exact⟨l,hl,e e1 e2⟩
 ·obtain⟨k,hk,e2⟩:=h2' l hl;obtain⟨w,hw,e1⟩:=h2 k hk;exact⟨w,hw,e e1 e2⟩
theorem Qet{A B:List (Pn F)}(P:Pn F)(h:Cl a b A B):Cl a b (P::A) (P::B):=by
 obtain⟨f,g,hfg,h1,h2⟩:=h;refine⟨f,g,hfg,fun w hw=>?_,fun w hw=>?_⟩
 ·refine Yk (C:=fun w=>∃k,Vi (P::B) k/\f*w=g*k) ⟨0,.zero _ _,by rw[rmz,rmz]⟩ (fun w w' i j=>?_) (fun h k hv hk=>?_) hw
  ·obtain⟨k,hk,e⟩:=i;obtain⟨l,hl,e'⟩:=j;exact⟨k+l,.add hk hl,by rw[rma,rma,e,e']⟩
  ·obtain⟨l,hl,e⟩:=h1 k hk;exact⟨h*l,.mul hv hl,by rw[rml,e,rml]⟩
 ·refine Yk (C:=fun w=>∃k,Vi (P::A) k/\f*k=g*w) ⟨0,.zero _ _,by rw[rmz,rmz]⟩ (fun w w' i j=>?_) (fun h k hv hk=>?_) hw
  ·obtain⟨k,hk,e⟩:=i;obtain⟨l,hl,e'⟩:=j;exact⟨k+l,.add hk hl,by rw[rma,rma,e,e']⟩
  ·obtain⟨l,hl,e⟩:=h2 k hk;exact⟨h*l,.mul hv hl,by rw[rml,e,rml]⟩
theorem Qwh:∀(L:List (Pn F)) {A B:List (Pn F)},Cl a b A B->Cl a b (L++A) (L++B)
 |[],_,_,h=>h
 |P::L,_,_,h=>Qet P (Qwh L h)
theorem Qnz(A:List (Pn F)):Cl a b (Pn.O::A) A:=⟨1,1,⟨Qdc,Qdc⟩,fun w hw=>⟨w,Zvw.1 hw,rfl⟩,fun w hw=>⟨w,Zvw.2 hw,rfl⟩⟩
inductive Sm (a b:F):Pn F->Pn F->Pn F->Prop
 |zl (Q:Pn F):Sm a b .O Q Q
 |zr (P:Pn F):Sm a b P .O P
 |opp (x y:F):Sm a b (.P x y) (.P x (-y)) .O
 |ln {l m x1 x2 x3:F} (h:Ln a b l m x1 x2 x3):Sm a b (.P x1 (l*x1+m)) (.P x2 (l*x2+m)) (.P x3 (-(l*x3+m)))
theorem Qei(ns:NS a b){P Q S:Pn F}(h:Sm a b P Q S)(hP:P.on a b)(hQ:Q.on a b)(hS:S.on a b):Cl a b [P,Q] [S]:=by
 cases h with
 |zl=>exact Qnz [Q]
 |zr=>exact Xc (Uo (List.Perm.swap _ _ _)) (Qnz [P])
 |opp x y =>
  refine Xc (B:=[]) ?_ (Qaz (Qnz []));refine⟨1,io (Ax x),⟨Qdc,Qul (Qnv x)⟩,fun w hw=>?_,fun k hk=>⟨io (Ax x)*k,Qgf ns hP hk,?_⟩⟩
  ·obtain⟨k,hk,e⟩:=Zcq hP hw;exact⟨k,hk,by rw[e,show(1:Cu F a b)*(io (Ax x)*k)=io (Ax x)*k from by rw[rmc];exact mul_one _]⟩
  ·rw[rmc];exact mul_one _
 |@ln l m x1 x2 x3 h =>
  have o3:(Pn.P x3 (l*x3+m)).on a b:=by
   have:=Pn.Xjk hS;rw[Pn.ng,show - -(l*x3+m)=l*x3+m from neg_neg _]at this;exact this
  refine⟨io (Ax x3),Le a b l m,⟨Qul (Qnv x3),Zwg _ _⟩,fun w hw=>?_,fun k hk=>?_⟩
  ·have i:=Qgf ns o3 hw
   have hp:(Pn.P x3 (l*x3+m)::Pn.P x3 (-(l*x3+m))::Pn.P x1 (l*x1+m)::Pn.P x2 (l*x2+m)::([]:List (Pn F))).Perm (Pn.P x1 (l*x1+m)::Pn.P x2 (l*x2+m)::Pn.P x3 (l*x3+m)::[Pn.P x3 (-(l*x3+m))]) :=
    List.perm_append_comm (l₁:=[_,_]) (l₂:=[_,_])
   obtain⟨k,hk,e⟩:=Zea h (Qm1 hp i);exact⟨k,hk,e⟩
  ·have i:=Zus ns h hP hQ o3 hk
   have hp:(Pn.P x1 (l*x1+m)::Pn.P x2 (l*x2+m)::Pn.P x3 (l*x3+m)::[Pn.P x3 (-(l*x3+m))]).Perm (Pn.P x3 (l*x3+m)::Pn.P x3 (-(l*x3+m))::Pn.P x1 (l*x1+m)::Pn.P x2 (l*x2+m)::([]:List (Pn F))) :=
    List.perm_append_comm (l₁:=[_,_]) (l₂:=[_,_])
   obtain⟨w,hw,e⟩:=Zcq o3 (Qm1 hp i);exact⟨w,hw,e.symm⟩
theorem Zdq{P:Pn F}(hP:P.on a b){w:Cu F a b}(hw:Vi [P] w):van P w:=by
 cases P with
 |O=>trivial
 |P x y =>
  refine Yk (C:=van (.P x y)) ?_ (fun h k hh hk=>?_) (fun h k hv _=>?_) hw
  ·show rev x y 0=0;show Yf x 0+y*Yf x 0=0;rw[Qmc,show y*0=(0:F)from mul_zero y];exact add_zero _
  ·show rev x y (h+k)=0;rw[Quy,show rev x y h=0 from hh,show rev x y k=0 from hk];exact add_zero _
  ·rw[rmc];exact Zuv hP k hv
theorem Qp1{P:Pn F}{w:Cu F a b}(hv:van P w):Vi [P] w:=by
 have:=Vi.mul hv (Vi.nil (1:Cu F a b));rwa[show w*1=w from mul_one w]at this
theorem Zoc(x:F):nd 2 (io (Ax x):Cu F a b):=by
 have h1:dg 1 (Ax x):=⟨fun i hi=>by
  show add ((Xx:Po F).1 i) (neg ((Cc x).1 i))=zero
  match i,hi with
  |i+2,_=>show add zero (neg zero)=zero;rw[neg_zero,add_zero],by
  show add one (neg zero)≠zero;rw[neg_zero,add_zero];exact Fd.one_ne⟩
 have h2:=Qiz h1 h1;unfold nd;have e:Qsd (io (Ax x):Cu F a b)=Ax x*Ax x:=PE.same (rho [Ax x,cub a b]) (PE.v 0*PE.v 0 + -(PE.v 1*(PE.p0*PE.p0))) (PE.v 0*PE.v 0) rfl;rw[e];exact h2
theorem Qk6{P:Pn F}{x y:F}(hP:P=.P x y){w:Cu F a b}{n:Nat}(hn:nd n w)(hv:van P w):2<=n:=by
 refine Classical.byContradiction fun hc=>?_
 obtain⟨e,hne,_⟩:=Zzk hn (by omega);rw[hP]at hv;have h0:rev x y w=0:=hv;rw[e]at h0;have h1:rev x y (⟨Cc (w.u.1 0),0⟩:Cu F a b)=w.u.1 0:=(Qz9 x y _).trans (Vr _ _);exact hne (h1.symm.trans h0)
theorem Xfh{x y:F}{w:Cu F a b}(hn:nd 2 w)(hv:van (.P x y) w):∃c,c≠0/\w=io (Cc c*Ax x):=by
 have e:=Xat hn (Nat.le_refl _);have h0:rev x y w=0:=hv;have h1:Yf x w.u=0:=by
  have:rev x y w=Yf x w.u:=by
   have hv:w.v=0:=congrArg Rc.v e;show Yf x w.u+y*Yf x w.v=_;rw[hv,Qmc,show y*0=(0:F)from mul_zero y];exact add_zero _
  exact this.symm.trans h0
 have hu:w.u=Cc (w.u.1 0)+Cc (w.u.1 1)*Xx:=congrArg Rc.u e;have h2:w.u.1 0+w.u.1 1*x=0:=by
  rw[<- h1];have:Yf x w.u=Yf x (Cc (w.u.1 0)+Cc (w.u.1 1)*Xx):=congrArg _ hu;rw[this,Ya,Xq,Vr,Vr,Qme]
 have h3:w.u.1 0=-(w.u.1 1*x):=Yl (by rw[add_comm];exact h2);have hw:w=io (Cc (w.u.1 1)*Ax x):=by
  refine Y7 ?_ (show w.v=0 from congrArg Rc.v e);refine hu.trans ?_;rw[show Cc (w.u.1 0)=-(Cc (w.u.1 1)*Cc x)from by rw[<- Ym,<- Qe3,h3]];exact PE.same (rho [Cc (w.u.1 1),Cc x,Xx]) (-(PE.v 0*PE.v 1)+PE.v 0*PE.v 2) (PE.v 0*(PE.v 2 + -PE.v 1)) rfl
 refine⟨w.u.1 1,fun h0=>Zx8 hn ?_,hw⟩;rw[hw,h0,Zvg,show(0:Po F)*Ax x=0 from by rw[show(0:Po F)*Ax x=Ax x*0 from mul_comm _ _];exact mul_zero _];rfl
theorem Zwh{x y:F}(h:Cl a b [Pn.O] [Pn.P x y])(hB:(Pn.P x y).on a b):False:=by
 obtain⟨f,g,⟨hf,hg⟩,h1,h2⟩:=h;obtain⟨b0,hb0,e0⟩:=h1 1 (Qp1 trivial);have e0:f=g*b0:=by rw[<- e0];exact(mul_one f).symm
 obtain⟨r,_,e1⟩:=h2 _ (Qp1 (Qmr x y));have hb0v:=Zdq hB hb0;have hb:b0≠0:=fun hc=>hf (by rw[e0,hc,rmz])
 have e2:b0*r=io (Ax x):=Qfz hg (by rw[<- e1,e0,rms]);have hr:r≠0:=fun hc=>Qul (Qnv x) (e2.symm.trans (by rw[hc,rmz]))
 obtain⟨m,hm⟩:=Zcl hb;obtain⟨n,hn⟩:=Zcl hr;have hmn:=Qy4 hm hn;rw[e2]at hmn;have hs:=Qr8 hmn (Zoc x);have hm2:=Qk6 rfl hm hb0v;have hm2:m=2:=by omega
 subst hm2;obtain⟨c,hc,eb⟩:=Xfh hm hb0v;obtain⟨s,_,e3⟩:=h2 _ (Qp1 (Zbz x y));have e4:b0*s=Yy + -io (Cc y):=Qfz hg (by rw[<- e3,e0,rms]);have e5:(b0*s).v=(Yy + -io (Cc y):Cu F a b).v:=congrArg Rc.v e4;rw[eb]at e5;have e6:Cc c*Ax x*s.v+0*s.u=(1:Po F) + -0:=e5;have e7:Yf x (Cc c*Ax x*s.v+0*s.u)=Yf x ((1:Po F) + -0):=by rw[e6]
 rw[Ya,Xq,Xq,Xq,Qyf,Qmc,Ya,Zwt,Qhj,Qmc]at e7;refine Fd.one_ne (α:=F) ?_;have e8:Yf x (Cc c)*0*Yf x s.v+0*Yf x s.u=(0:F):=PE.same (rho [Yf x (Cc c),Yf x s.v,Yf x s.u]) (PE.v 0*PE.p0*PE.v 1+PE.p0*PE.v 2) PE.p0 rfl;have e9:(1:F) + -0=1:=PE.same (rho []) (PE.p1 + -PE.p0) PE.p1 rfl;rw[e8,e9]at e7;exact e7.symm
theorem Xga{x y x' y':F}(h:Cl a b [Pn.P x y] [Pn.P x' y'])(hA:(Pn.P x y).on a b)(hB:(Pn.P x' y').on a b):x=x'/\y=y':=by
 obtain⟨f,g,⟨hf,hg⟩,h1,h2⟩:=h;obtain⟨k1,hk1,e1⟩:=h1 _ (Qp1 (Qmr x y));obtain⟨a1,ha1,e2⟩:=h2 _ (Qp1 (Qmr x' y'));have vk:=Zdq hB hk1;have va:=Zdq hA ha1;have hk1n:k1≠0:=fun hc=>Qbi hf (Qul (a:=a) (b:=b) (Qnv x)) (by rw[e1,hc,rmz])
 have ha1n:a1≠0:=fun hc=>Qbi hg (Qul (a:=a) (b:=b) (Qnv x')) (by rw[<- e2,hc,rmz])
 have e3:k1*a1=io (Ax x)*io (Ax x'):=by
  refine Qfz (Qbi hf hg) ?_;have e4:f*g*(k1*a1)=(g*k1)*(f*a1):=PE.same (rho [f,g,k1,a1]) (PE.v 0*PE.v 1*(PE.v 2*PE.v 3)) (PE.v 1*PE.v 2*(PE.v 0*PE.v 3)) rfl;rw[e4,<- e1,e2];exact PE.same (rho [f,g,io (Ax x),io (Ax x')]) (PE.v 0*PE.v 2*(PE.v 1*PE.v 3)) (PE.v 0*PE.v 1*(PE.v 2*PE.v 3)) rfl
 obtain⟨m,hm⟩:=Zcl hk1n;obtain⟨n,hn⟩:=Zcl ha1n;have hmn:=Qy4 hm hn;rw[e3]at hmn;have hs:=Qr8 hmn (Qy4 (Zoc x) (Zoc x'));have m2:=Qk6 rfl hm vk;have n2:=Qk6 rfl hn va;have hm2:m=2:=by omega
 subst hm2;obtain⟨c,hc,ek⟩:=Xfh hm vk;obtain⟨k2,hk2,e5⟩:=h1 _ (Qp1 (Zbz x y));have vk2:=Zdq hB hk2;have e6:io (Ax x)*k2=k1*(Yy + -io (Cc y)):=by
  refine Qfz (Qbi hf hg) ?_;have e7:f*g*(io (Ax x)*k2)=(f*io (Ax x))*(g*k2):=PE.same (rho [f,g,io (Ax x),k2]) (PE.v 0*PE.v 1*(PE.v 2*PE.v 3)) (PE.v 0*PE.v 2*(PE.v 1*PE.v 3)) rfl;rw[e7,e1,<- e5];exact PE.same (rho [f,g,k1,Yy + -io (Cc y)]) (PE.v 1*PE.v 2*(PE.v 0*PE.v 3)) (PE.v 0*PE.v 1*(PE.v 2*PE.v 3)) rfl
 rw[ek]at e6;have ev:(io (Ax x)*k2).v=(io (Cc c*Ax x')*(Yy + -io (Cc y)):Cu F a b).v:=congrArg Rc.v e6;have eu:(io (Ax x)*k2).u=(io (Cc c*Ax x')*(Yy + -io (Cc y)):Cu F a b).u:=congrArg Rc.u e6;have ev1:Ax x*k2.v=Cc c*Ax x':=by
  have l:(io (Ax x)*k2).v=Ax x*k2.v:=PE.same (rho [Ax x,k2.v,k2.u]) (PE.v 0*PE.v 1+PE.p0*PE.v 2) (PE.v 0*PE.v 1) rfl;have r:(io (Cc c*Ax x')*(Yy + -io (Cc y)):Cu F a b).v=Cc c*Ax x':=PE.same (rho [Cc c*Ax x',Cc y]) (PE.v 0*(PE.p1 + -PE.p0)+PE.p0*(PE.p0 + -PE.v 1)) (PE.v 0) rfl;rw[<- l,ev,r]
 have eu1:Ax x*k2.u=-(Cc c*Cc y*Ax x'):=by
  have l:(io (Ax x)*k2).u=Ax x*k2.u:=PE.same (rho [Ax x,k2.v,k2.u,cub a b]) (PE.v 0*PE.v 2+PE.v 3*(PE.p0*PE.v 1)) (PE.v 0*PE.v 2) rfl;have r:(io (Cc c*Ax x')*(Yy + -io (Cc y)):Cu F a b).u=-(Cc c*Cc y*Ax x'):=PE.same (rho [Cc c,Ax x',Cc y,cub a b]) (PE.v 0*PE.v 1*(PE.p0 + -PE.v 2)+PE.v 3*(PE.p0*(PE.p1 + -PE.p0))) (-(PE.v 0*PE.v 2*PE.v 1)) rfl;rw[<- l,eu,r]
 have hx:x=x':=by
  have h3:Yf x (Ax x*k2.v)=Yf x (Cc c*Ax x'):=by rw[ev1]
  rw[Xq,Xq,Qyf,Vr]at h3;have h4:c*Yf x (Ax x')=0:=by
   rw[<- h3,show(0:F)*Yf x k2.v=Yf x k2.v*0 from mul_comm _ _];exact mul_zero _
  rcases Qbr h4 with h5|h5
  ·exact absurd h5 hc
  ·unfold Ax at h5;rw[Ya,Qhj,Qme,Vr]at h5;have:=Yl (a:=neg x') (b:=x) (by rw[add_comm];exact h5);rw[this];exact neg_neg _
 subst hx;refine⟨rfl,?_⟩;have hv2:k2.v=Cc c:=Zei (Qnv x) (ev1.trans (mul_comm _ _));have hu2:k2.u=-(Cc c*Cc y):=Zei (Qnv x) (eu1.trans (PE.same (rho [Cc c,Cc y,Ax x]) (-(PE.v 0*PE.v 1*PE.v 2)) (PE.v 2 * -(PE.v 0*PE.v 1)) rfl));have h6:Yf x k2.u+y'*Yf x k2.v=0:=vk2;rw[hu2,hv2,Qhj,Xq,Vr,Vr]at h6;have h7:c*(y' + -y)=0:=by
  rw[<- h6];exact PE.same (rho [c,y,y']) (PE.v 0*(PE.v 2 + -PE.v 1)) (-(PE.v 0*PE.v 1)+PE.v 2*PE.v 0) rfl
 rcases Qbr h7 with h8|h8
 ·exact absurd h8 hc
 ·have:=Yl (a:=neg y) (b:=y') (by rw[add_comm];exact h8);rw[this];exact(neg_neg _).symm
theorem Qsm{A B:Pn F}(h:Cl a b [A] [B])(hA:A.on a b)(hB:B.on a b):A=B:=by
 cases A with
 |O=>cases B with
  |O=>rfl
  |P x y=>exact(Zwh h hB).elim
 |P x y=>cases B with
  |O=>exact(Zwh (Qaz h) hA).elim
  |P x' y'=>obtain⟨rfl,rfl⟩:=Xga h hA hB;rfl
end
section
variable {F:Type}[Fd F]{a b:F}
theorem Qjo{x y:F}(h:x + -y=0):x=y:=by
 have:=Yl (a:=neg y) (b:=x) (by rw[add_comm];exact h);rw[this];exact neg_neg _
theorem Zkx{l x1 y1 x2 y2:F}(h1:y1*y1=x1*x1*x1+a*x1+b)(h2:y2*y2=x2*x2*x2+a*x2+b)(hx:x2 + -x1≠0)(hl:l*(x2 + -x1)=y2 + -y1):Ln a b l (y1 + -(l*x1)) x1 x2 (l*l + -x1 + -x2):=by
 have ey2:y2=l*(x2 + -x1)+y1:=by rw[hl];exact PE.same (rho [y1,y2]) (PE.v 1) (PE.v 1 + -PE.v 0+PE.v 0) rfl
 have hb1:b=y1*y1 + -(x1*x1*x1+a*x1):=by rw[h1];exact PE.same (rho [x1*x1*x1+a*x1,b]) (PE.v 1) (PE.v 0+PE.v 1 + -PE.v 0) rfl
 have key:(x2 + -x1)*(l*(y1 + -(l*x1))+l*(y1 + -(l*x1)) + -(a + -(x1*x2+x1*(l*l + -x1 + -x2)+x2*(l*l + -x1 + -x2))))=0:=by
  have e:(x2 + -x1)*(l*(y1 + -(l*x1))+l*(y1 + -(l*x1)) + -(a + -(x1*x2+x1*(l*l + -x1 + -x2)+x2*(l*l + -x1 + -x2))))=((l*(x2 + -x1)+y1)*(l*(x2 + -x1)+y1) + -(x2*x2*x2+a*x2)) + -(y1*y1 + -(x1*x1*x1+a*x1)) :=
   PE.same (rho [l,x1,x2,y1,a]) ((PE.v 2 + -PE.v 1)*(PE.v 0*(PE.v 3 + -(PE.v 0*PE.v 1))+PE.v 0*(PE.v 3 + -(PE.v 0*PE.v 1)) + -(PE.v 4 + -(PE.v 1*PE.v 2+PE.v 1*(PE.v 0*PE.v 0 + -PE.v 1 + -PE.v 2)+PE.v 2*(PE.v 0*PE.v 0 + -PE.v 1 + -PE.v 2))))) (((PE.v 0*(PE.v 2 + -PE.v 1)+PE.v 3)*(PE.v 0*(PE.v 2 + -PE.v 1)+PE.v 3) + -(PE.v 2*PE.v 2*PE.v 2+PE.v 4*PE.v 2)) + -(PE.v 3*PE.v 3 + -(PE.v 1*PE.v 1*PE.v 1+PE.v 4*PE.v 1))) rfl
  rw[e,<- ey2,h2,<- hb1];exact PE.same (rho [x2*x2*x2+a*x2,b]) (PE.v 0+PE.v 1 + -PE.v 0 + -PE.v 1) PE.p0 rfl
 have h1':l*(y1 + -(l*x1))+l*(y1 + -(l*x1))=a + -(x1*x2+x1*(l*l + -x1 + -x2)+x2*(l*l + -x1 + -x2)):=Qjo ((Qbr key).resolve_left hx);refine⟨PE.same (rho [l,x1,x2]) (PE.v 0*PE.v 0) (PE.v 1+PE.v 2+(PE.v 0*PE.v 0 + -PE.v 1 + -PE.v 2)) rfl,h1',?_⟩;rw[hb1]
 have e:(y1 + -(l*x1))*(y1 + -(l*x1))=y1*y1 + -(x1*(l*(y1 + -(l*x1))+l*(y1 + -(l*x1)))) + -(x1*x1*(l*l)) :=
  PE.same (rho [l,x1,y1]) ((PE.v 2 + -(PE.v 0*PE.v 1))*(PE.v 2 + -(PE.v 0*PE.v 1))) (PE.v 2*PE.v 2 + -(PE.v 1*(PE.v 0*(PE.v 2 + -(PE.v 0*PE.v 1))+PE.v 0*(PE.v 2 + -(PE.v 0*PE.v 1)))) + -(PE.v 1*PE.v 1*(PE.v 0*PE.v 0))) rfl
 rw[e,h1'];exact PE.same (rho [l,x1,x2,y1,a]) (PE.v 3*PE.v 3 + -(PE.v 1*(PE.v 4 + -(PE.v 1*PE.v 2+PE.v 1*(PE.v 0*PE.v 0 + -PE.v 1 + -PE.v 2)+PE.v 2*(PE.v 0*PE.v 0 + -PE.v 1 + -PE.v 2)))) + -(PE.v 1*PE.v 1*(PE.v 0*PE.v 0))) (PE.v 3*PE.v 3 + -(PE.v 1*PE.v 1*PE.v 1+PE.v 4*PE.v 1)+PE.v 1*PE.v 2*(PE.v 0*PE.v 0 + -PE.v 1 + -PE.v 2)) rfl
theorem Xba{l x1 y1:F}(h1:y1*y1=x1*x1*x1+a*x1+b)(hl:l*(y1+y1)=x1*x1+x1*x1+x1*x1+a):Ln a b l (y1 + -(l*x1)) x1 x1 (l*l + -x1 + -x1):=by
 have hb1:b=y1*y1 + -(x1*x1*x1+a*x1):=by rw[h1];exact PE.same (rho [x1*x1*x1+a*x1,b]) (PE.v 1) (PE.v 0+PE.v 1 + -PE.v 0) rfl
 have h1':l*(y1 + -(l*x1))+l*(y1 + -(l*x1))=a + -(x1*x1+x1*(l*l + -x1 + -x1)+x1*(l*l + -x1 + -x1)):=by
  have e:l*(y1 + -(l*x1))+l*(y1 + -(l*x1))=l*(y1+y1) + -(x1*(l*l)+x1*(l*l)) :=
   PE.same (rho [l,x1,y1]) (PE.v 0*(PE.v 2 + -(PE.v 0*PE.v 1))+PE.v 0*(PE.v 2 + -(PE.v 0*PE.v 1))) (PE.v 0*(PE.v 2+PE.v 2) + -(PE.v 1*(PE.v 0*PE.v 0)+PE.v 1*(PE.v 0*PE.v 0))) rfl
  rw[e,hl];exact PE.same (rho [l,x1,a]) (PE.v 1*PE.v 1+PE.v 1*PE.v 1+PE.v 1*PE.v 1+PE.v 2 + -(PE.v 1*(PE.v 0*PE.v 0)+PE.v 1*(PE.v 0*PE.v 0))) (PE.v 2 + -(PE.v 1*PE.v 1+PE.v 1*(PE.v 0*PE.v 0 + -PE.v 1 + -PE.v 1)+PE.v 1*(PE.v 0*PE.v 0 + -PE.v 1 + -PE.v 1))) rfl
 refine⟨PE.same (rho [l,x1]) (PE.v 0*PE.v 0) (PE.v 1+PE.v 1+(PE.v 0*PE.v 0 + -PE.v 1 + -PE.v 1)) rfl,h1',?_⟩;rw[hb1]
 have e:(y1 + -(l*x1))*(y1 + -(l*x1))=y1*y1 + -(x1*(l*(y1 + -(l*x1))+l*(y1 + -(l*x1)))) + -(x1*x1*(l*l)) :=
  PE.same (rho [l,x1,y1]) ((PE.v 2 + -(PE.v 0*PE.v 1))*(PE.v 2 + -(PE.v 0*PE.v 1))) (PE.v 2*PE.v 2 + -(PE.v 1*(PE.v 0*(PE.v 2 + -(PE.v 0*PE.v 1))+PE.v 0*(PE.v 2 + -(PE.v 0*PE.v 1)))) + -(PE.v 1*PE.v 1*(PE.v 0*PE.v 0))) rfl
 rw[e,h1'];exact PE.same (rho [l,x1,y1,a]) (PE.v 2*PE.v 2 + -(PE.v 1*(PE.v 3 + -(PE.v 1*PE.v 1+PE.v 1*(PE.v 0*PE.v 0 + -PE.v 1 + -PE.v 1)+PE.v 1*(PE.v 0*PE.v 0 + -PE.v 1 + -PE.v 1)))) + -(PE.v 1*PE.v 1*(PE.v 0*PE.v 0))) (PE.v 2*PE.v 2 + -(PE.v 1*PE.v 1*PE.v 1+PE.v 3*PE.v 1)+PE.v 1*PE.v 1*(PE.v 0*PE.v 0 + -PE.v 1 + -PE.v 1)) rfl
theorem Zys{l m x1 x2 x3:F}(h:Ln a b l m x1 x2 x3):(Pn.P x3 (-(l*x3+m))).on a b:=by
 show -(l*x3+m) * -(l*x3+m)=x3*x3*x3+a*x3+b;have e:-(l*x3+m) * -(l*x3+m)=l*l*(x3*x3)+(l*m+l*m)*x3+m*m:=PE.same (rho [l,m,x3]) (-(PE.v 0*PE.v 2+PE.v 1) * -(PE.v 0*PE.v 2+PE.v 1)) (PE.v 0*PE.v 0*(PE.v 2*PE.v 2)+(PE.v 0*PE.v 1+PE.v 0*PE.v 1)*PE.v 2+PE.v 1*PE.v 1) rfl;rw[e,h.h2,h.h1,h.h0];exact PE.same (rho [x1,x2,x3,a,b]) ((PE.v 0+PE.v 1+PE.v 2)*(PE.v 2*PE.v 2)+(PE.v 3 + -(PE.v 0*PE.v 1+PE.v 0*PE.v 2+PE.v 1*PE.v 2))*PE.v 2+(PE.v 4+PE.v 0*PE.v 1*PE.v 2)) (PE.v 2*PE.v 2*PE.v 2+PE.v 3*PE.v 2+PE.v 4) rfl
theorem Qlk{l x1 y1 x2 y2:F}(h1:(Pn.P x1 y1).on a b)(h2:(Pn.P x2 y2).on a b)(hx:x2 + -x1≠0)(hl:l*(x2 + -x1)=y2 + -y1):Sm a b (.P x1 y1) (.P x2 y2) (.P (l*l + -x1 + -x2) (l*(x1 + -(l*l + -x1 + -x2)) + -y1))/\(Pn.P (l*l + -x1 + -x2) (l*(x1 + -(l*l + -x1 + -x2)) + -y1)).on a b:=by
 have h:=Zkx (l:=l) h1 h2 hx hl;have e1:y1=l*x1+(y1 + -(l*x1)):=PE.same (rho [l,x1,y1]) (PE.v 2) (PE.v 0*PE.v 1+(PE.v 2 + -(PE.v 0*PE.v 1))) rfl;have e2:y2=l*x2+(y1 + -(l*x1)):=by
  have e:l*x2+(y1 + -(l*x1))=l*(x2 + -x1)+y1:=PE.same (rho [l,x1,x2,y1]) (PE.v 0*PE.v 2+(PE.v 3 + -(PE.v 0*PE.v 1))) (PE.v 0*(PE.v 2 + -PE.v 1)+PE.v 3) rfl;rw[e,hl];exact PE.same (rho [y1,y2]) (PE.v 1) (PE.v 1 + -PE.v 0+PE.v 0) rfl
 have e3:l*(x1 + -(l*l + -x1 + -x2)) + -y1=-(l*(l*l + -x1 + -x2)+(y1 + -(l*x1))):=PE.same (rho [l,x1,x2,y1]) (PE.v 0*(PE.v 1 + -(PE.v 0*PE.v 0 + -PE.v 1 + -PE.v 2)) + -PE.v 3) (-(PE.v 0*(PE.v 0*PE.v 0 + -PE.v 1 + -PE.v 2)+(PE.v 3 + -(PE.v 0*PE.v 1)))) rfl;rw[e3];refine⟨?_,Zys h⟩;have:=Sm.ln h;rw[<- e1,<- e2]at this;exact this
theorem Qx2{l x1 y1:F}(h1:(Pn.P x1 y1).on a b)(hl:l*(y1+y1)=x1*x1+x1*x1+x1*x1+a):Sm a b (.P x1 y1) (.P x1 y1) (.P (l*l + -x1 + -x1) (l*(x1 + -(l*l + -x1 + -x1)) + -y1))/\(Pn.P (l*l + -x1 + -x1) (l*(x1 + -(l*l + -x1 + -x1)) + -y1)).on a b:=by
 have h:=Xba (l:=l) h1 hl;have e1:y1=l*x1+(y1 + -(l*x1)):=PE.same (rho [l,x1,y1]) (PE.v 2) (PE.v 0*PE.v 1+(PE.v 2 + -(PE.v 0*PE.v 1))) rfl;have e3:l*(x1 + -(l*l + -x1 + -x1)) + -y1=-(l*(l*l + -x1 + -x1)+(y1 + -(l*x1))):=PE.same (rho [l,x1,y1]) (PE.v 0*(PE.v 1 + -(PE.v 0*PE.v 0 + -PE.v 1 + -PE.v 1)) + -PE.v 2) (-(PE.v 0*(PE.v 0*PE.v 0 + -PE.v 1 + -PE.v 1)+(PE.v 2 + -(PE.v 0*PE.v 1)))) rfl;rw[e3];refine⟨?_,Zys h⟩;have:=Sm.ln h;rw[<- e1]at this;exact this
theorem Zb7{x y y':F}(h1:(Pn.P x y).on a b)(h2:(Pn.P x y').on a b)(hn:y' + -y≠0):y'=-y:=by
 have h1:y*y=x*x*x+a*x+b:=h1;have h2:y'*y'=x*x*x+a*x+b:=h2;have e:(y' + -y)*(y'+y)=0:=by
  have e:(y' + -y)*(y'+y)=y'*y' + -(y*y):=PE.same (rho [y,y']) ((PE.v 1 + -PE.v 0)*(PE.v 1+PE.v 0)) (PE.v 1*PE.v 1 + -(PE.v 0*PE.v 0)) rfl;rw[e,h1,h2];exact add_neg _
 exact Yl (by rw[add_comm];exact(Qbr e).resolve_left hn)
theorem Qxu{y:F}(h:y≠0):y+y≠0:=by
 have:(1+1:F)*y≠0:=Xp Fd.two_ne h;rwa[show(1+1:F)*y=y+y from PE.same (rho [y]) ((PE.p1+PE.p1)*PE.v 0) (PE.v 0+PE.v 0) rfl]at this
end
structure Ph {α F:Type} [Fd F] (R:Rg α) (φ:α->F):Prop where
 add:∀a b,φ (R.add a b)=φ a+φ b
 sub:∀a b,φ (R.sub a b)=φ a + -φ b
 mul:∀a b,φ (R.mul a b)=φ a*φ b
 one:φ R.one=1
 zero:φ R.zero=0
 isz:∀a,R.isz a=true↔φ a=0
 md:∀a,φ (R.md a)=φ a
section
variable {α F:Type}[Fd F]{R:Rg α}{φ:α->F}{b:F}
def Jr(φ:α->F)(P:J α):Pn F->Prop
 |.O=>φ P.z=0
 |.P x y=>φ P.z≠0/\φ P.x=x*(φ P.z*φ P.z)/\φ P.y=y*(φ P.z*φ P.z*φ P.z)
theorem Zlo(H:Ph R φ){P:J α}{A:Pn F}(h:Jr φ P A):Jr φ (J.md R P) A:=by
 cases A with
 |O=>exact(H.md _).trans h
 |P x y =>
  obtain⟨h1,h2,h3⟩:=h;refine⟨?_,?_,?_⟩
  ·show φ (R.md P.z)≠0;rw[H.md];exact h1
  ·show φ (R.md P.x)=x*(φ (R.md P.z)*φ (R.md P.z));rw[H.md,H.md];exact h2
  ·show φ (R.md P.y)=y*(φ (R.md P.z)*φ (R.md P.z)*φ (R.md P.z));rw[H.md,H.md];exact h3
theorem Zo5(H:Ph R φ):Jr φ (oJ R) .O:=H.zero
theorem mz(x:F):x*0=0:=mul_zero x
theorem zm(x:F):0*x=0:=(mul_comm _ _).trans (mul_zero x)
theorem Zjw(H:Ph R φ){P:J α}{A:Pn F}(h:Jr φ P A)(hA:A.on 0 b):∃B,Jr φ (Xg R P) B/\Sm 0 b A A B/\B.on 0 b:=by
 have ez:φ (Xg R P).z=φ P.y*φ P.z+φ P.y*φ P.z:=by show φ (R.add (R.mul P.y P.z) (R.mul P.y P.z))=_;rw[H.add,H.mul]
 cases A with
 |O =>
  refine⟨.O,?_,.zl _,trivial⟩;show φ (Xg R P).z=0;rw[ez,show φ P.z=0 from h,mz];exact add_zero _
 |P x y =>
  obtain⟨h1,h2,h3⟩:=h;by_cases hy:y=0
  ·refine⟨.O,?_,?_,trivial⟩
   ·show φ (Xg R P).z=0;rw[ez,h3,hy,zm,zm];exact add_zero _
   ·have:=Sm.opp (a:=0) (b:=b) x y;rw[hy,show -(0:F)=0 from neg_zero]at this;rw[hy];exact this
  ·obtain⟨i,hi⟩:=Fd.inv_ex _ (Qxu hy);have hl:(x*x+x*x+x*x+0)*i*(y+y)=x*x+x*x+x*x+0:=by
    have e:(x*x+x*x+x*x+0)*i*(y+y)=(x*x+x*x+x*x+0)*((y+y)*i):=PE.same (rho [x*x+x*x+x*x+0,i,y]) (PE.v 0*PE.v 1*(PE.v 2+PE.v 2)) (PE.v 0*((PE.v 2+PE.v 2)*PE.v 1)) rfl;rw[e,show(y+y)*i=1 from hi];exact mul_one _
   obtain⟨s1,s2⟩:=Qx2 hA hl;refine⟨_,?_,s1,s2⟩;generalize (x*x+x*x+x*x+0)*i=l at hl ⊢;have hl:l*(y+y)=x*x+x*x+x*x:=by rw[hl];exact add_zero _
   have ex:φ (Xg R P).x=(φ P.x*φ P.x+φ P.x*φ P.x+φ P.x*φ P.x)*(φ P.x*φ P.x+φ P.x*φ P.x+φ P.x*φ P.x) + -((φ P.x*(φ P.y*φ P.y)+φ P.x*(φ P.y*φ P.y))+(φ P.x*(φ P.y*φ P.y)+φ P.x*(φ P.y*φ P.y))+((φ P.x*(φ P.y*φ P.y)+φ P.x*(φ P.y*φ P.y))+(φ P.x*(φ P.y*φ P.y)+φ P.x*(φ P.y*φ P.y)))):=by
    simp only[Xg,H.add,H.sub,H.mul]
   have ey:φ (Xg R P).y=(φ P.x*φ P.x+φ P.x*φ P.x+φ P.x*φ P.x)*((φ P.x*(φ P.y*φ P.y)+φ P.x*(φ P.y*φ P.y))+(φ P.x*(φ P.y*φ P.y)+φ P.x*(φ P.y*φ P.y)) + -φ (Xg R P).x) + -((φ P.y*φ P.y*(φ P.y*φ P.y)+φ P.y*φ P.y*(φ P.y*φ P.y))+(φ P.y*φ P.y*(φ P.y*φ P.y)+φ P.y*φ P.y*(φ P.y*φ P.y))+((φ P.y*φ P.y*(φ P.y*φ P.y)+φ P.y*φ P.y*(φ P.y*φ P.y))+(φ P.y*φ P.y*(φ P.y*φ P.y)+φ P.y*φ P.y*(φ P.y*φ P.y)))):=by
    simp only[Xg,H.add,H.sub,H.mul]
   rw[h2,h3]at ex ey;rw[h3]at ez;generalize φ P.z=z at *
   have ez':φ (Xg R P).z=(y+y)*(z*z*(z*z)):=by
    rw[ez];exact PE.same (rho [y,z]) (PE.v 0*(PE.v 1*PE.v 1*PE.v 1)*PE.v 1+PE.v 0*(PE.v 1*PE.v 1*PE.v 1)*PE.v 1) ((PE.v 0+PE.v 0)*(PE.v 1*PE.v 1*(PE.v 1*PE.v 1))) rfl
   have z2:z*z*(z*z)≠0:=Xp (Xp h1 h1) (Xp h1 h1);have q0:φ (Xg R P).x=(l*l + -x + -x)*(φ (Xg R P).z*φ (Xg R P).z):=by
    rw[ex,ez']
    have e:(l*l + -x + -x)*((y+y)*(z*z*(z*z))*((y+y)*(z*z*(z*z))))=((l*(y+y))*(l*(y+y)) + -((x+x)*((y+y)*(y+y))))*(z*z*(z*z)*(z*z*(z*z))) :=
     PE.same (rho [l,x,y,z]) ((PE.v 0*PE.v 0 + -PE.v 1 + -PE.v 1)*((PE.v 2+PE.v 2)*(PE.v 3*PE.v 3*(PE.v 3*PE.v 3))*((PE.v 2+PE.v 2)*(PE.v 3*PE.v 3*(PE.v 3*PE.v 3))))) (((PE.v 0*(PE.v 2+PE.v 2))*(PE.v 0*(PE.v 2+PE.v 2)) + -((PE.v 1+PE.v 1)*((PE.v 2+PE.v 2)*(PE.v 2+PE.v 2))))*(PE.v 3*PE.v 3*(PE.v 3*PE.v 3)*(PE.v 3*PE.v 3*(PE.v 3*PE.v 3)))) rfl
    rw[e,hl];exact PE.same (rho [x,y,z]) (let X:=PE.v 0*(PE.v 2*PE.v 2);let Y:=PE.v 1*(PE.v 2*PE.v 2*PE.v 2);(X*X+X*X+X*X)*(X*X+X*X+X*X) + -((X*(Y*Y)+X*(Y*Y))+(X*(Y*Y)+X*(Y*Y))+((X*(Y*Y)+X*(Y*Y))+(X*(Y*Y)+X*(Y*Y))))) (((PE.v 0*PE.v 0+PE.v 0*PE.v 0+PE.v 0*PE.v 0)*(PE.v 0*PE.v 0+PE.v 0*PE.v 0+PE.v 0*PE.v 0) + -((PE.v 0+PE.v 0)*((PE.v 1+PE.v 1)*(PE.v 1+PE.v 1))))*(PE.v 2*PE.v 2*(PE.v 2*PE.v 2)*(PE.v 2*PE.v 2*(PE.v 2*PE.v 2)))) rfl
   refine⟨by rw[ez'];exact Xp (Qxu hy) z2,q0,?_⟩;rw[ey,q0,ez']
   have e:(l*(x + -(l*l + -x + -x)) + -y)*((y+y)*(z*z*(z*z))*((y+y)*(z*z*(z*z)))*((y+y)*(z*z*(z*z))))=((l*(y+y))*((x + -(l*l + -x + -x))*((y+y)*(z*z*(z*z))*((y+y)*(z*z*(z*z))))) + -(y*((y+y)*(z*z*(z*z))*((y+y)*(z*z*(z*z)))*(y+y))))*(z*z*(z*z)) :=
    PE.same (rho [l,x,y,z]) ((PE.v 0*(PE.v 1 + -(PE.v 0*PE.v 0 + -PE.v 1 + -PE.v 1)) + -PE.v 2)*((PE.v 2+PE.v 2)*(PE.v 3*PE.v 3*(PE.v 3*PE.v 3))*((PE.v 2+PE.v 2)*(PE.v 3*PE.v 3*(PE.v 3*PE.v 3)))*((PE.v 2+PE.v 2)*(PE.v 3*PE.v 3*(PE.v 3*PE.v 3))))) (((PE.v 0*(PE.v 2+PE.v 2))*((PE.v 1 + -(PE.v 0*PE.v 0 + -PE.v 1 + -PE.v 1))*((PE.v 2+PE.v 2)*(PE.v 3*PE.v 3*(PE.v 3*PE.v 3))*((PE.v 2+PE.v 2)*(PE.v 3*PE.v 3*(PE.v 3*PE.v 3))))) + -(PE.v 2*((PE.v 2+PE.v 2)*(PE.v 3*PE.v 3*(PE.v 3*PE.v 3))*((PE.v 2+PE.v 2)*(PE.v 3*PE.v 3*(PE.v 3*PE.v 3)))*(PE.v 2+PE.v 2))))*(PE.v 3*PE.v 3*(PE.v 3*PE.v 3))) rfl
   rw[e,hl];generalize l*l + -x + -x=x3;exact PE.same (rho [x,y,z,x3]) (let X:=PE.v 0*(PE.v 2*PE.v 2);let Y:=PE.v 1*(PE.v 2*PE.v 2*PE.v 2);let Z:=(PE.v 1+PE.v 1)*(PE.v 2*PE.v 2*(PE.v 2*PE.v 2));(X*X+X*X+X*X)*((X*(Y*Y)+X*(Y*Y))+(X*(Y*Y)+X*(Y*Y)) + -(PE.v 3*(Z*Z))) + -((Y*Y*(Y*Y)+Y*Y*(Y*Y))+(Y*Y*(Y*Y)+Y*Y*(Y*Y))+((Y*Y*(Y*Y)+Y*Y*(Y*Y))+(Y*Y*(Y*Y)+Y*Y*(Y*Y))))) (((PE.v 0*PE.v 0+PE.v 0*PE.v 0+PE.v 0*PE.v 0)*((PE.v 0 + -PE.v 3)*((PE.v 1+PE.v 1)*(PE.v 2*PE.v 2*(PE.v 2*PE.v 2))*((PE.v 1+PE.v 1)*(PE.v 2*PE.v 2*(PE.v 2*PE.v 2))))) + -(PE.v 1*((PE.v 1+PE.v 1)*(PE.v 2*PE.v 2*(PE.v 2*PE.v 2))*((PE.v 1+PE.v 1)*(PE.v 2*PE.v 2*(PE.v 2*PE.v 2)))*(PE.v 1+PE.v 1))))*(PE.v 2*PE.v 2*(PE.v 2*PE.v 2))) rfl
end
section
variable {α F:Type}[Fd F]{R:Rg α}{φ:α->F}{b:F}
theorem Zaq(H:Ph R φ){P Q:J α}{A B:Pn F}(h:Jr φ P A)(h':Jr φ Q B)(hA:A.on 0 b)(hB:B.on 0 b):∃C,Jr φ (Xb R P Q) C/\Sm 0 b A B C/\C.on 0 b:=by
 cases A with
 |O=>exact⟨B,by rw[Qhq ((H.isz _).2 h)];exact h',.zl _,hB⟩
 |P x1 y1=>cases B with
  |O=>exact⟨.P x1 y1,by rw[Qr3 (fun hc=>h.1 ((H.isz _).1 hc)) ((H.isz _).2 h')];exact h,.zr _,hA⟩
  |P x2 y2 =>
   have nz1:¬R.isz P.z=true:=fun hc=>h.1 ((H.isz _).1 hc)
   have nz2:¬R.isz Q.z=true:=fun hc=>h'.1 ((H.isz _).1 hc)
   obtain⟨z1,hx1,hy1⟩:=h;obtain⟨z2,hx2,hy2⟩:=h';have eh:φ (hJ R P Q)=(x2 + -x1)*(φ P.z*φ P.z*(φ Q.z*φ Q.z)):=by
    unfold hJ;rw[H.sub,H.mul,H.mul,H.mul,H.mul,hx1,hx2];exact PE.same (rho [x1,x2,φ P.z,φ Q.z]) (PE.v 1*(PE.v 3*PE.v 3)*(PE.v 2*PE.v 2) + -(PE.v 0*(PE.v 2*PE.v 2)*(PE.v 3*PE.v 3))) ((PE.v 1 + -PE.v 0)*(PE.v 2*PE.v 2*(PE.v 3*PE.v 3))) rfl
   have er:φ (rJ R P Q)=(y2 + -y1)*(φ P.z*φ P.z*φ P.z*(φ Q.z*φ Q.z*φ Q.z)):=by
    unfold rJ;rw[H.sub,H.mul,H.mul,H.mul,H.mul,H.mul,H.mul,hy1,hy2];exact PE.same (rho [y1,y2,φ P.z,φ Q.z]) (PE.v 1*(PE.v 3*PE.v 3*PE.v 3)*(PE.v 2*PE.v 2*PE.v 2) + -(PE.v 0*(PE.v 2*PE.v 2*PE.v 2)*(PE.v 3*PE.v 3*PE.v 3))) ((PE.v 1 + -PE.v 0)*(PE.v 2*PE.v 2*PE.v 2*(PE.v 3*PE.v 3*PE.v 3))) rfl
   have z12:φ P.z*φ P.z*(φ Q.z*φ Q.z)≠0:=Xp (Xp z1 z1) (Xp z2 z2);have z13:φ P.z*φ P.z*φ P.z*(φ Q.z*φ Q.z*φ Q.z)≠0:=Xp (Xp (Xp z1 z1) z1) (Xp (Xp z2 z2) z2);by_cases hh:R.isz (hJ R P Q)=true
   ·have h0:(x2 + -x1)*(φ P.z*φ P.z*(φ Q.z*φ Q.z))=0:=by rw[<- eh];exact(H.isz _).1 hh
    have hx:x2=x1:=Qjo ((Qbr h0).resolve_right z12);subst hx;by_cases hr:R.isz (rJ R P Q)=true
    ·have h0:(y2 + -y1)*(φ P.z*φ P.z*φ P.z*(φ Q.z*φ Q.z*φ Q.z))=0:=by rw[<- er];exact(H.isz _).1 hr
     have hy:y2=y1:=Qjo ((Qbr h0).resolve_right z13);subst hy;rw[Ql8 nz1 nz2 hh hr];exact Zjw H (A:=.P x2 y2) ⟨z1,hx1,hy1⟩ hA
    ·rw[Qmm nz1 nz2 hh hr];have hn:y2 + -y1≠0:=fun h0=>hr ((H.isz _).2 (by rw[er,h0,zm]))
     have hy:=Zb7 hA hB hn;subst hy;exact⟨.O,Zo5 H,.opp _ _,trivial⟩
   ·rw[Qn7 nz1 nz2 hh];have hd:x2 + -x1≠0:=fun h0=>hh ((H.isz _).2 (by rw[eh,h0,zm]))
    obtain⟨i,hi⟩:=Fd.inv_ex _ hd;have hl:(y2 + -y1)*i*(x2 + -x1)=y2 + -y1:=by
     have e:(y2 + -y1)*i*(x2 + -x1)=(y2 + -y1)*((x2 + -x1)*i):=PE.same (rho [y2 + -y1,i,x2 + -x1]) (PE.v 0*PE.v 1*PE.v 2) (PE.v 0*(PE.v 2*PE.v 1)) rfl;rw[e,show(x2 + -x1)*i=1 from hi];exact mul_one _
    obtain⟨s1,s2⟩:=Qlk hA hB hd hl;refine⟨_,?_,s1,s2⟩;generalize (y2 + -y1)*i=l at hl ⊢;have ez:φ (Qfj R P Q).z=φ (hJ R P Q)*(φ P.z*φ Q.z):=by
     show φ (R.mul (hJ R P Q) (R.mul P.z Q.z))=_;rw[H.mul,H.mul]
    have ex:φ (Qfj R P Q).x=φ (rJ R P Q)*φ (rJ R P Q) + -(φ (hJ R P Q)*φ (hJ R P Q)*φ (hJ R P Q)) + -(φ P.x*(φ Q.z*φ Q.z)*(φ (hJ R P Q)*φ (hJ R P Q))+φ P.x*(φ Q.z*φ Q.z)*(φ (hJ R P Q)*φ (hJ R P Q))):=by
     show φ (R.sub (R.sub (R.mul (rJ R P Q) (rJ R P Q)) (R.mul (R.mul (hJ R P Q) (hJ R P Q)) (hJ R P Q))) (R.add (R.mul (R.mul P.x (R.mul Q.z Q.z)) (R.mul (hJ R P Q) (hJ R P Q))) (R.mul (R.mul P.x (R.mul Q.z Q.z)) (R.mul (hJ R P Q) (hJ R P Q)))))=_;simp only[H.add,H.sub,H.mul]
    have ey:φ (Qfj R P Q).y=φ (rJ R P Q)*(φ P.x*(φ Q.z*φ Q.z)*(φ (hJ R P Q)*φ (hJ R P Q)) + -φ (Qfj R P Q).x) + -(φ P.y*(φ Q.z*φ Q.z*φ Q.z)*(φ (hJ R P Q)*φ (hJ R P Q)*φ (hJ R P Q))):=by
     show φ (R.sub (R.mul (rJ R P Q) (R.sub (R.mul (R.mul P.x (R.mul Q.z Q.z)) (R.mul (hJ R P Q) (hJ R P Q))) (Qfj R P Q).x)) (R.mul (R.mul P.y (R.mul (R.mul Q.z Q.z) Q.z)) (R.mul (R.mul (hJ R P Q) (hJ R P Q)) (hJ R P Q))))=_;simp only[H.sub,H.mul]
    have er':φ (rJ R P Q)=(l*(x2 + -x1))*(φ P.z*φ P.z*φ P.z*(φ Q.z*φ Q.z*φ Q.z)):=by rw[hl];exact er
    rw[eh,er',hx1]at ex;rw[eh,er',hx1,hy1]at ey;rw[eh]at ez;generalize φ P.z=z at *
    generalize φ Q.z=w at *
    have q0:φ (Qfj R P Q).x=(l*l + -x1 + -x2)*(φ (Qfj R P Q).z*φ (Qfj R P Q).z):=by
     rw[ex,ez];exact PE.same (rho [l,x1,x2,z,w]) (let r:=(PE.v 0*(PE.v 2 + -PE.v 1))*(PE.v 3*PE.v 3*PE.v 3*(PE.v 4*PE.v 4*PE.v 4));let h:=(PE.v 2 + -PE.v 1)*(PE.v 3*PE.v 3*(PE.v 4*PE.v 4));let W:=PE.v 1*(PE.v 3*PE.v 3)*(PE.v 4*PE.v 4)*(h*h);r*r + -(h*h*h) + -(W+W)) (let Z:=(PE.v 2 + -PE.v 1)*(PE.v 3*PE.v 3*(PE.v 4*PE.v 4))*(PE.v 3*PE.v 4);(PE.v 0*PE.v 0 + -PE.v 1 + -PE.v 2)*(Z*Z)) rfl
    refine⟨by rw[ez];exact Xp (Xp hd z12) (Xp z1 z2),q0,?_⟩;rw[ey,q0,ez];generalize l*l + -x1 + -x2=x3;exact PE.same (rho [l,x1,x2,z,w,x3,y1]) (let r:=(PE.v 0*(PE.v 2 + -PE.v 1))*(PE.v 3*PE.v 3*PE.v 3*(PE.v 4*PE.v 4*PE.v 4));let h:=(PE.v 2 + -PE.v 1)*(PE.v 3*PE.v 3*(PE.v 4*PE.v 4));let W:=PE.v 1*(PE.v 3*PE.v 3)*(PE.v 4*PE.v 4)*(h*h);let Z:=(PE.v 2 + -PE.v 1)*(PE.v 3*PE.v 3*(PE.v 4*PE.v 4))*(PE.v 3*PE.v 4);r*(W + -(PE.v 5*(Z*Z))) + -(PE.v 6*(PE.v 3*PE.v 3*PE.v 3)*(PE.v 4*PE.v 4*PE.v 4)*(h*h*h))) (let Z:=(PE.v 2 + -PE.v 1)*(PE.v 3*PE.v 3*(PE.v 4*PE.v 4))*(PE.v 3*PE.v 4);(PE.v 0*(PE.v 1 + -PE.v 5) + -PE.v 6)*(Z*Z*Z)) rfl
def Ml(a b:F)(n:Nat)(A B:Pn F):Prop:=Cl a b [B] (List.replicate n A)/\B.on a b
theorem J4{a:F}{n:Nat}{A B C:Pn F}(h:Ml a b n A B)(h':Ml a b n A C):B=C:=Qsm (Xc h.1 (Qaz h'.1)) h.2 h'.2
theorem Zgg{a:F}(A:Pn F):Ml a b 0 A .O:=⟨Qnz [],trivial⟩
theorem Zsl{a:F}{A:Pn F}(hA:A.on a b):Ml a b 1 A A:=⟨Qpo [A],hA⟩
theorem Qff{a:F}(ns:NS a b){m n:Nat}{A B C D:Pn F}(h:Ml a b m A B)(h':Ml a b n A C)(s:Sm a b B C D)(hD:D.on a b):Ml a b (m+n) A D:=by
 refine⟨Xc (Qaz (Qei ns s h.2 h'.2 hD)) ?_,hD⟩;rw[<- List.replicate_append_replicate];exact Xc (Qet B h'.1) (Xc (Uo (L3 (l₁:=[B]))) (Xc (Qwh _ h.1) (Uo L3)))
theorem Qwq(H:Ph R φ)(ns:NS 0 b){P:J α}{A:Pn F}(h:Jr φ P A)(hA:A.on 0 b):∀(k n:Nat),n<2^k->∃B,Jr φ (Xd R P k n) B/\Ml 0 b n A B
 |0,n,hn=>by
  have:n=0:=by simpa using hn
  subst this;exact⟨.O,Zo5 H,Zgg A⟩
 |k+1,n,hn=>by
  have e1:Xd R P (k+1) n=if n=0 then oJ R else(if n%2=1 then J.md R (Xb R (J.md R (Xg R (Xd R P k (n/2)))) P)else J.md R (Xg R (Xd R P k (n/2)))):=rfl
  rw[e1];by_cases h0:n=0
  ·rw[if_pos h0,h0];exact⟨.O,Zo5 H,Zgg A⟩
  ·rw[if_neg h0];obtain⟨B,j1,m1⟩:=Qwq H ns h hA k (n/2) (by rw[Nat.pow_succ]at hn;omega);obtain⟨C,j2,s2,o2⟩:=Zjw H j1 m1.2;have m2:=Qff ns m1 m1 s2 o2;by_cases hb:n%2=1
   ·rw[if_pos hb];obtain⟨D,j3,s3,o3⟩:=Zaq H (Zlo H j2) h o2 hA;have m3:=Qff ns m2 (Zsl hA) s3 o3;rw[show n/2+n/2+1=n by omega]at m3;exact⟨D,Zlo H j3,m3⟩
   ·rw[if_neg hb];rw[show n/2+n/2=n by omega]at m2;exact⟨C,Zlo H j2,m2⟩
theorem Zw4{a:F}(A B:Pn F)(hA:A.on a b)(hB:B.on a b):∃C,Sm a b A B C/\C.on a b:=by
 cases A with
 |O=>exact⟨B,.zl _,hB⟩
 |P x1 y1=>cases B with
  |O=>exact⟨.P x1 y1,.zr _,hA⟩
  |P x2 y2 =>
   by_cases hx:x2 + -x1=0
   ·have hx:=Qjo hx;subst hx;by_cases hy:y2 + -y1=0
    ·have hy:=Qjo hy;subst hy;by_cases hz:y2=0
     ·subst hz;refine⟨.O,?_,trivial⟩;have:=Sm.opp (a:=a) (b:=b) x2 0;rw[show -(0:F)=0 from neg_zero]at this;exact this
     ·obtain⟨i,hi⟩:=Fd.inv_ex _ (Qxu hz);have hl:(x2*x2+x2*x2+x2*x2+a)*i*(y2+y2)=x2*x2+x2*x2+x2*x2+a:=by
       have e:(x2*x2+x2*x2+x2*x2+a)*i*(y2+y2)=(x2*x2+x2*x2+x2*x2+a)*((y2+y2)*i):=PE.same (rho [x2*x2+x2*x2+x2*x2+a,i,y2]) (PE.v 0*PE.v 1*(PE.v 2+PE.v 2)) (PE.v 0*((PE.v 2+PE.v 2)*PE.v 1)) rfl;rw[e,show(y2+y2)*i=1 from hi];exact mul_one _
      exact⟨_,Qx2 hA hl⟩
    ·have:=Zb7 hA hB hy;subst this;exact⟨.O,.opp _ _,trivial⟩
   ·obtain⟨i,hi⟩:=Fd.inv_ex _ hx;have hl:(y2 + -y1)*i*(x2 + -x1)=y2 + -y1:=by
     have e:(y2 + -y1)*i*(x2 + -x1)=(y2 + -y1)*((x2 + -x1)*i):=PE.same (rho [y2 + -y1,i,x2 + -x1]) (PE.v 0*PE.v 1*PE.v 2) (PE.v 0*(PE.v 2*PE.v 1)) rfl;rw[e,show(x2 + -x1)*i=1 from hi];exact mul_one _
    exact⟨_,Qlk hA hB hx hl⟩
theorem Zt0{a:F}(ns:NS a b){A B C D:Pn F}(hA:A.on a b)(hB:B.on a b)(hC:C.on a b)(hD:D.on a b)(h:Sm a b A B C)(h':Sm a b B A D):C=D :=
 Qsm (Xc (Qaz (Qei ns h hA hB hC)) (Xc (Uo (List.Perm.swap _ _ _)) (Qei ns h' hB hA hD))) hC hD
theorem Qu4{a:F}(ns:NS a b){A:Pn F}(hA:A.on a b):∀n,∃B,Ml a b n A B
 |0=>⟨.O,Zgg A⟩
 |n+1=>by
  obtain⟨B,hB⟩:=Qu4 ns hA n;obtain⟨C,s,hC⟩:=Zw4 B A hB.2 hA;exact⟨C,Qff ns hB (Zsl hA) s hC⟩
theorem Zlt{a:F}{A:Pn F}{L:List (Pn F)}(h:Cl a b [A] L):∀n,Cl a b (List.replicate n A) (List.replicate n L).flatten
 |0=>Qpo []
 |n+1=>by
  show Cl a b (A::List.replicate n A) (L++(List.replicate n L).flatten);exact Xc (Qet A (Zlt h n)) (Xc (Uo (L3 (l₁:=[A]))) (Xc (Qwh _ h) (Uo L3)))
omit [Fd F] in
theorem Qwl(A:Pn F)(m:Nat):∀n,(List.replicate n (List.replicate m A)).flatten=List.replicate (n*m) A
 |0=>by rw[Nat.zero_mul];rfl
 |n+1=>by
  show List.replicate m A++(List.replicate n (List.replicate m A)).flatten=_;rw[Qwl A m n,List.replicate_append_replicate,Nat.succ_mul,Hr]
theorem Qy0{a:F}{m n:Nat}{A B C:Pn F}(h:Ml a b m A B)(h':Ml a b n B C):Ml a b (n*m) A C:=by
 refine⟨Xc h'.1 ?_,h'.2⟩;rw[<- Qwl];exact Zlt h.1 n
theorem Zc3{a:F}{P Q S:Pn F}(h:Cl a b [S] [P,Q]):∀n,Cl a b (List.replicate n S) (List.replicate n P++List.replicate n Q)
 |0=>Qpo []
 |n+1=>by
  show Cl a b (S::List.replicate n S) (P::(List.replicate n P++(Q::List.replicate n Q)));refine Xc (Qet S (Zc3 h n)) (Xc (Uo (L3 (l₁:=[S]))) (Xc (Qwh _ h) (Xc (Uo L3) ?_)));exact Qet P (Uo (show(Q::(List.replicate n P++List.replicate n Q)).Perm _ from List.perm_middle.symm))
theorem Zbx{a:F}(ns:NS a b){n:Nat}{P Q S A B C:Pn F}(hP:P.on a b)(hQ:Q.on a b)(hS:S.on a b)(s:Sm a b P Q S)(h:Ml a b n P A)(h':Ml a b n Q B)(s':Sm a b A B C)(hC:C.on a b):Ml a b n S C:=by
 refine⟨?_,hC⟩;refine Xc (Qaz (Qei ns s' h.2 h'.2 hC)) (Xc ?_ (Qaz (Zc3 (Qaz (Qei ns s hP hQ hS)) n)));exact Xc (Qet A h'.1) (Xc (Uo (L3 (l₁:=[A]))) (Xc (Qwh _ h.1) (Uo L3)))
theorem Xam{a:F}(ns:NS a b){r n:Nat}{A B:Pn F}(h0:Ml a b r A .O)(hA:A.on a b):Ml a b (n%r) A B↔Ml a b n A B:=by
 obtain⟨C,hC⟩:=Qu4 ns hA (n%r);have hz:Ml a b (n/r*r) A .O:=by
  obtain⟨Z,hZ⟩:=Qu4 (A:=(Pn.O:Pn F)) ns trivial (n/r);have hO:Ml a b (n/r) .O (.O:Pn F):=by
   refine⟨?_,trivial⟩;refine Xc (Qnz []) (Qaz ?_);generalize n/r=k
   induction k with
   |zero=>exact Qpo []
   |succ k ih=>exact Xc (Qnz _) ih
  exact Qy0 h0 hO
 have hD:=Qff ns hz hC (.zl C) hC.2;rw[show n/r*r+n%r=n by rw[Nat.mul_comm];exact Nat.div_add_mod n r]at hD;exact⟨fun h=>by rw[J4 h hC];exact hD,fun h=>by rw[J4 h hD];exact hC⟩
theorem Zvh{a:F}(ns:NS a b){P Q S T:Pn F}(hP:P.on a b)(hQ:Q.on a b)(hS:S.on a b)(hT:T.on a b)(s:Sm a b P Q S)(s':Sm a b S P.ng T):T=Q:=by
 have hn:=Pn.Xjk hP;refine Qsm (Xc (Qaz (Qei ns s' hS hn hT)) ?_) hT hQ;have h0:Sm a b P P.ng .O:=by
  cases P with
  |O=>exact .zl _
  |P x y=>exact .opp x y
 refine Xc (Uo (List.Perm.swap _ _ _)) (Xc (Qet _ (Qaz (Qei ns s hP hQ hS))) ?_);refine Xc (Uo (L3 (l₁:=[P.ng,P]) (l₂:=[Q]))) (Xc (Qet Q (Xc (Uo (List.Perm.swap _ _ _)) (Xc (Qei ns h0 hP hn trivial) (Qnz [])))) (Qpo _))
end
end Go.Sx
namespace Go.Sx
structure Cong {α:Type} (C:Cr α) (r:α->α->Prop):Prop where
 eqv:Equivalence r
 add:∀ {a b c d},r a b->r c d->r (C.add a c) (C.add b d)
 mul:∀ {a b c d},r a b->r c d->r (C.mul a c) (C.mul b d)
 neg:∀ {a b},r a b->r (C.neg a) (C.neg b)
abbrev Cong.st{α:Type}{C:Cr α}{r:α->α->Prop}(h:Cong C r):Setoid α:=⟨r,h.eqv⟩
@[reducible] def Cong.cr {α:Type} {C:Cr α} {r:α->α->Prop} (h:Cong C r):Cr (Quotient h.st) where
 add:=Quotient.lift₂ (fun a b=>Quotient.mk h.st (C.add a b)) fun a b c d hac hbd=>Quotient.sound (h.add hac hbd)
 mul:=Quotient.lift₂ (fun a b=>Quotient.mk h.st (C.mul a b)) fun a b c d hac hbd=>Quotient.sound (h.mul hac hbd)
 neg:=Quotient.lift (fun a=>Quotient.mk h.st (C.neg a)) fun a b hab=>Quotient.sound (h.neg hab)
 zero:=Quotient.mk h.st C.zero
 one:=Quotient.mk h.st C.one
 add_assoc a b c:=Quotient.inductionOn₃ a b c fun a b c=>congrArg (Quotient.mk h.st) (C.add_assoc a b c)
 add_comm a b:=Quotient.inductionOn₂ a b fun a b=>congrArg (Quotient.mk h.st) (C.add_comm a b)
 add_zero a:=Quotient.inductionOn a fun a=>congrArg (Quotient.mk h.st) (C.add_zero a)
 add_neg a:=Quotient.inductionOn a fun a=>congrArg (Quotient.mk h.st) (C.add_neg a)
 mul_assoc a b c:=Quotient.inductionOn₃ a b c fun a b c=>congrArg (Quotient.mk h.st) (C.mul_assoc a b c)
 mul_comm a b:=Quotient.inductionOn₂ a b fun a b=>congrArg (Quotient.mk h.st) (C.mul_comm a b)
 mul_one a:=Quotient.inductionOn a fun a=>congrArg (Quotient.mk h.st) (C.mul_one a)
 mul_add a b c:=Quotient.inductionOn₃ a b c fun a b c=>congrArg (Quotient.mk h.st) (C.mul_add a b c)
@[reducible] def crInt:Cr Int where
 add:=(·+ ·)
 mul:=(·* ·)
 neg:=fun a=>-a
 zero:=0
 one:=1
 add_assoc:=Int.add_assoc
 add_comm:=Int.add_comm
 add_zero:=Oah
 add_neg:=Int.add_right_neg
 mul_assoc:=Kx
 mul_comm:=Mw
 mul_one:=Ha
 mul_add:=Int.mul_add
theorem cgP(p:Int):Cong crInt (fun a b=>a%p=b%p) where
 eqv:=⟨fun _=>rfl,fun h=>h.symm,fun h h'=>h.trans h'⟩
 add h h':=Z8 h h'
 mul h h':=Q2 h h'
 neg h:=U7 h
def Zp(p:Int):Type:=Quotient (cgP p).st
instance  (p:Int):Cr (Zp p):=(cgP p).cr
def zp(p:Int)(a:Int):Zp p:=Quotient.mk (cgP p).st a
theorem Qey{p a b:Int}:zp p a=zp p b↔a%p=b%p:=⟨fun h=>Quotient.exact h,fun h=>Quotient.sound (s:=(cgP p).st) h⟩
theorem Zyw(p a b:Int):zp p (a+b)=zp p a+zp p b:=rfl
theorem Jv(p a b:Int):zp p (a*b)=zp p a*zp p b:=rfl
theorem Zze(p a:Int):zp p (-a)=-zp p a:=rfl
theorem Xgz(p:Int):zp p 0=0:=rfl
theorem Qez(p a b:Int):zp p (a-b)=zp p a + -zp p b:=by rw[Int.sub_eq_add_neg];rfl
theorem Qc8(p a:Int):zp p (a%p)=zp p a:=Qey.2 (Ms _ (L5 _))
theorem Qoq{p a:Int}:zp p a=0↔a%p=0:=by rw[<- Xgz,Qey,Int.zero_emod]
@[reducible] def fdOf (p:Int) (h:∀a:Int,¬a%p=0->∃b,(a*b)%p=1%p) (h1:¬(1:Int)%p=0) (h2:¬(2:Int)%p=0):Fd (Zp p) where
 toCr:=inferInstance
 inv_ex a:=Quotient.inductionOn a fun a hn=>by
  obtain⟨b,hb⟩:=h a fun hc=>hn (show zp p a=0 from Qoq.2 hc)
  exact⟨zp p b,show zp p (a*b)=zp p 1 from Qey.2 hb⟩
 one_ne:=fun hc=>h1 (Qoq.1 (show zp p 1=0 from hc))
 two_ne:=fun hc=>h2 (Qoq.1 (show zp p (1+1)=0 from hc))
instance:Fd (Zp bP):=fdOf bP (fun a ha=>⟨Xo a,(Qb8 ha).trans (by decide)⟩) (by decide) (by decide)
theorem ph1:Ph R1 (zp bP) where
 add a b:=rfl
 sub a b:=Qez bP a b
 mul a b:=rfl
 one:=rfl
 zero:=rfl
 isz a:=by
  show(a%bP==0)=true↔_;rw[beq_iff_eq,Qoq]
 md a:=Qc8 bP a
theorem Zef{x y:Int}(h:(x*y)%bP=0):x%bP=0∨y%bP=0:=by
 by_cases hx:x%bP=0
 ·exact .inl hx
 ·exact .inr (Qbk h hx)
theorem ns1:NS (0:Zp bP) (zp bP 4):=fun x=>Quotient.inductionOn x fun x h hc=>by
 have h:zp bP (x*x*x+0*x+4)=0:=h;have hc:zp bP (x*x+x*x+(x*x+0))=0:=hc;rw[Qoq]at h hc;rw[show x*x+x*x+(x*x+0)=3*(x*x) by omega]at hc;have h3:(x*x)%bP=0:=(Zef hc).resolve_left (by decide);have h4:x%bP=0:=by rcases Zef h3 with h|h <;> exact h
 have h5:(x*x*x+0*x+4)%bP=(0+4)%bP:=Z8 (by rw[K7,Oah,M3,h4,H7]) rfl;rw[h5]at h;exact absurd h (by decide)
@[reducible] def crE2:Cr E2 where
 add a b:=(a.1+b.1,a.2+b.2)
 mul a b:=(a.1*b.1-a.2*b.2,a.1*b.2+a.2*b.1)
 neg a:=(-a.1,-a.2)
 zero:=(0,0)
 one:=(1,0)
 add_assoc a b c:=Prod.ext (Int.add_assoc _ _ _) (Int.add_assoc _ _ _)
 add_comm a b:=Prod.ext (Int.add_comm _ _) (Int.add_comm _ _)
 add_zero a:=Prod.ext (Oah _) (Oah _)
 add_neg a:=Prod.ext (Int.add_right_neg _) (Int.add_right_neg _)
 mul_assoc a b c:=Prod.ext (by grind) (by grind)
 mul_comm a b:=Prod.ext (by grind) (by grind)
 mul_one a:=Prod.ext (by simp) (by simp)
 mul_add a b c:=Prod.ext (by grind) (by grind)
theorem cg2:Cong crE2 S2 where
 eqv:=⟨W5,Zcc,X8⟩
 add h h':=Wz h h'
 mul h h':=Q4 h h'
 neg h:=⟨U7 h.1,U7 h.2⟩
def F2:Type:=Quotient cg2.st
instance:Cr F2:=cg2.cr
def z2(a:E2):F2:=Quotient.mk cg2.st a
theorem Qcp{a b:E2}:z2 a=z2 b↔S2 a b:=⟨fun h=>Quotient.exact h,fun h=>Quotient.sound (s:=cg2.st) h⟩
theorem Qk5{a:E2}:z2 a=0↔R2.isz a=true:=by
 have:z2 a=0↔S2 a (0,0):=Qcp (b:=(0,0));rw[this];obtain⟨x,y⟩:=a;rw[Qap];constructor
 ·rintro ⟨h1,h2⟩;exact⟨h1,h2⟩
 ·rintro ⟨h1,h2⟩;exact⟨h1,h2⟩
instance:Fd F2 where
 toCr:=inferInstance
 inv_ex a:=Quotient.inductionOn a fun a hn=>⟨z2 (Zq a),Qcp.2 (Zo8 fun hc=>hn (Qk5.2 hc))⟩
 one_ne:=fun hc=>absurd (Qk5.1 (show z2 (1,0)=0 from hc)) (by decide)
 two_ne:=fun hc=>absurd (Qk5.1 (show z2 (2,0)=0 from hc)) (by decide)
theorem ph2:Ph R2 z2 where
 add a b:=rfl
 sub a b:=Qcp.2 ⟨by show(a.1-b.1)%bP=(a.1 + -b.1)%bP;rw[Int.sub_eq_add_neg],by show(a.2-b.2)%bP=(a.2 + -b.2)%bP;rw[Int.sub_eq_add_neg]⟩
 mul a b:=rfl
 one:=rfl
 zero:=rfl
 isz a:=Qk5.symm
 md a:=Qcp.2 ⟨Q9 _,Q9 _⟩
theorem ns2:NS (0:F2) (z2 (4,4)):=fun x=>Quotient.inductionOn x fun x h hc=>by
 have m0:∀x:F2,0*x=0:=fun x=>(Cr.mul_comm _ _).trans (Cr.mul_zero x)
 have h:z2 x*z2 x*z2 x+0*z2 x+z2 (4,4)=0:=h;have hc:z2 x*z2 x+z2 x*z2 x+(z2 x*z2 x+0)=0:=hc;have h3:z2 (3,0)*(z2 x*z2 x)=0:=by
  rw[<- hc];have:z2 (3,0)=1+1+1:=rfl;rw[this];exact PE.same (rho [z2 x]) ((PE.p1+PE.p1+PE.p1)*(PE.v 0*PE.v 0)) (PE.v 0*PE.v 0+PE.v 0*PE.v 0+(PE.v 0*PE.v 0+PE.p0)) rfl
 have h4:z2 x*z2 x=0:=(Qbr h3).resolve_left fun hc=>absurd (Qk5.1 hc) (by decide)
 have h5:z2 x=0:=by rcases Qbr h4 with h|h <;> exact h
 rw[h5,m0,m0]at h;have h6:z2 (4,4)=0:=by
  rw[<- h];exact PE.same (rho [z2 (4,4)]) (PE.v 0) (PE.p0+PE.p0+PE.v 0) rfl
 exact absurd (Qk5.1 h6) (by decide)
theorem Qlo{p:Int}(hp:prP p):(¬(1:Int)%p=0)/\(¬(2:Int)%p=0)/\∀a:Int,¬a%p=0->∃b,(a*b)%p=1%p:=by
 have hpos:0<p:=by rcases hp with h|h <;> rw[h] <;> decide
 refine⟨?_,?_,fun a ha=>?_⟩
 ·rcases hp with h|h <;> rw[h] <;> decide
 ·rcases hp with h|h <;> rw[h] <;> decide
 ·have h0:=Mr a (show p≠0 by omega);obtain⟨z,hz⟩:=Zab hp h0 (fun hd=>ha (by
   have:=Hd hd;rwa[Ms _ (L5 _)]at this))
  refine⟨Qb2 p (a%p),?_⟩;have e:(a*Qb2 p (a%p))%p=(a%p*Qb2 p (a%p))%p:=Q2 (Ms _ (L5 _)).symm rfl;rw[e,show a%p*Qb2 p (a%p)=1+p*z by omega,Hi]
@[reducible] def fdP {p:Int} (hp:prP p):Fd (Zp p):=fdOf p (Qlo hp).2.2 (Qlo hp).1 (Qlo hp).2.1
structure Gp (T F:Type) [Fd F] (K:Nat) where
 a:F
 b:F
 ns:NS a b
 pt:T->Pn F
 can:T->Prop
 on:∀ {t},can t->(pt t).on a b
 inj:∀ {t t'},can t->can t'->pt t=pt t'->t=t'
 o:T
 o_ok:can o/\pt o=.O
 add:T->T->T
 add_ok:∀ {t t'},can t->can t'->can (add t t')/\Sm a b (pt t) (pt t') (pt (add t t'))
 mul:T->Nat->T
 mul_ok:∀ {t n},can t->n<2^K->can (mul t n)/\Ml a b n (pt t) (pt (mul t n))
 neg:T->T
 neg_ok:∀ {t},can t->can (neg t)/\pt (neg t)=(pt t).ng
namespace Gp
variable {T F:Type}[Fd F]{K:Nat}(G:Gp T F K)
def In(r:Nat)(t:T):Prop:=G.can t/\Ml G.a G.b r (G.pt t) .O
variable {r:Nat}{s t u:T}
theorem comm(hs:G.can s)(ht:G.can t):G.add s t=G.add t s:=by
 have h1:=G.add_ok hs ht;have h2:=G.add_ok ht hs;exact G.inj h1.1 h2.1 (Zt0 G.ns (G.on hs) (G.on ht) (G.on h1.1) (G.on h2.1) h1.2 h2.2)
theorem in_add(hs:G.In r s)(ht:G.In r t):G.In r (G.add s t):=by
 have h:=G.add_ok hs.1 ht.1;exact⟨h.1,Zbx G.ns (G.on hs.1) (G.on ht.1) (G.on h.1) h.2 hs.2 ht.2 (.zl _) trivial⟩
theorem mlO(n:Nat):Ml G.a G.b n (.O:Pn F) .O:=by
 refine⟨?_,trivial⟩;refine Xc (Qnz []) (Qaz ?_)
 induction n with
 |zero=>exact Qpo []
 |succ k ih=>exact Xc (Qnz _) ih
theorem in_mul{n:Nat}(hn:n<2^K)(hs:G.In r s):G.In r (G.mul s n):=by
 have h:=G.mul_ok hs.1 hn;refine⟨h.1,?_⟩;obtain⟨C,hC⟩:=Qu4 G.ns (G.on h.1) r;have h1:=Qy0 h.2 hC;have h2:=Qy0 hs.2 (G.mlO n);rw[Nat.mul_comm]at h2;rw[J4 h1 h2]at hC;exact hC
theorem ml_ng{n:Nat}{A B:Pn F}(hA:A.on G.a G.b)(h:Ml G.a G.b n A B):Ml G.a G.b n A.ng B.ng:=by
 have h0:∀ {A:Pn F},Sm G.a G.b A A.ng .O:=fun {A}=>by
  cases A with
  |O=>exact .zl _
  |P x y=>exact .opp x y
 obtain⟨C,hC⟩:=Qu4 G.ns (Pn.Xjk hA) n;obtain⟨D,sD,oD⟩:=Zw4 B C h.2 hC.2;have hd:=Zbx G.ns (n:=n) (S:=.O) hA (Pn.Xjk hA) trivial h0 h hC sD oD;have hD:D=.O:=J4 hd (G.mlO n);subst hD;have:C=B.ng:=by
  refine Qsm (a:=G.a) (b:=G.b) ?_ hC.2 (Pn.Xjk h.2);have e1:Cl G.a G.b [B,C] [.O]:=Qei G.ns sD h.2 hC.2 trivial;have e2:Cl G.a G.b [B,B.ng] [.O]:=Qei G.ns h0 h.2 (Pn.Xjk h.2) trivial;have e3:Cl G.a G.b [B.ng,B,C] [C]:=by
   refine Xc (Uo (L3 (l₁:=[B.ng,B]) (l₂:=[C]))) ?_;exact Qet C (Xc (Uo (List.Perm.swap _ _ _)) (Xc e2 (Qnz [])))
  have e4:Cl G.a G.b [B.ng,B,C] [B.ng]:=Qet B.ng (Xc e1 (Qnz []));exact Xc (Qaz e3) e4
 rw[<- this];exact hC
theorem in_neg(hs:G.In r s):G.In r (G.neg s):=by
 have h:=G.neg_ok hs.1;refine⟨h.1,?_⟩;rw[h.2];exact G.ml_ng (G.on hs.1) hs.2
theorem mul_add{m n:Nat}(hm:m<2^K)(hn:n<2^K)(hr:(m+n)%r<2^K)(hs:G.In r s):G.add (G.mul s m) (G.mul s n)=G.mul s ((m+n)%r):=by
 have h1:=G.mul_ok hs.1 hm;have h2:=G.mul_ok hs.1 hn;have h3:=G.mul_ok hs.1 hr;have h4:=G.add_ok h1.1 h2.1;have h5:=Qff G.ns h1.2 h2.2 h4.2 (G.on h4.1);exact G.inj h4.1 h3.1 (J4 h5 ((Xam G.ns hs.2 (G.on hs.1)).1 h3.2))
theorem mul_one(hK:1<2^K)(hs:G.can s):G.mul s 1=s:=by
 have h:=G.mul_ok hs hK;exact G.inj h.1 hs (J4 h.2 (Zsl (G.on hs)))
theorem mul_zero(hs:G.can s):G.mul s 0=G.o:=by
 have h:=G.mul_ok (n:=0) hs (Nat.two_pow_pos K);exact G.inj h.1 G.o_ok.1 (by rw[J4 h.2 (Zgg _),G.o_ok.2])
theorem back(hs:G.can s)(ht:G.can t):G.add (G.add s t) (G.neg s)=t:=by
 have h1:=G.add_ok hs ht;have h2:=G.neg_ok hs;have h3:=G.add_ok h1.1 h2.1;refine G.inj h3.1 ht ?_;have:=h3.2;rw[h2.2]at this;exact Zvh G.ns (G.on hs) (G.on ht) (G.on h1.1) (G.on h3.1) h1.2 this
end Gp
end Go.Sx
namespace Go.Sx
open Cr
abbrev T1:Type:=Int×Int×Int
def Zgm(t:T1):Prop:=(0<=t.1/\0<=t.2.1)/\(t.2.2=0∨t.2.2=1)/\onV t.1 t.2.1 t.2.2
def pt1(t:T1):Pn (Zp bP):=if t.2.2=0 then .P (zp bP t.1) (zp bP t.2.1)else .O
def Qnu(P:J Int):T1:=((Qan P).1%bP,(Qan P).2.1%bP,(Qan P).2.2)
def rsT(t:T1):J Int:=rsV t.1 t.2.1 t.2.2
theorem Qm4{t:T1}(h:Zgm t):(pt1 t).on 0 (zp bP 4):=by
 obtain⟨x,y,z⟩:=t;unfold pt1;by_cases hz:z=0
 ·have h2:=h.2.2.2;rw[if_pos hz]at h2 ⊢;show zp bP y*zp bP y=zp bP x*zp bP x*zp bP x+0*zp bP x+zp bP 4;have:zp bP (y*y)=zp bP (x*x*x+4):=Qey.2 h2;rw[<- Jv,this,zm,show zp bP x*zp bP x*zp bP x+0=zp bP x*zp bP x*zp bP x from add_zero _];rfl
 ·rw[if_neg hz];trivial
theorem Qsn{t:T1}(h:Zgm t):Jr (zp bP) (rsT t) (pt1 t):=by
 obtain⟨x,y,z⟩:=t;unfold rsT pt1 rsV;by_cases hz:z=0
 ·rw[if_pos hz,if_pos hz];refine⟨fun hc=>one_ne (Qoq.1 hc),?_,?_⟩
  ·show zp bP x=zp bP x*(1*1)
   exact PE.same (rho [zp bP x]) (PE.v 0) (PE.v 0*(PE.p1*PE.p1)) rfl
  ·show zp bP y=zp bP y*(1*1*1)
   exact PE.same (rho [zp bP y]) (PE.v 0) (PE.v 0*(PE.p1*PE.p1*PE.p1)) rfl
 ·rw[if_neg hz,if_neg hz];exact Zo5 ph1
theorem Zc7{P:J Int}{A:Pn (Zp bP)}(h:Jr (zp bP) P A)(hA:A.on 0 (zp bP 4)):Zgm (Qnu P)/\pt1 (Qnu P)=A:=by
 cases A with
 |O =>
  have hz:P.z%bP=0:=Qoq.1 h;have e:Qnu P=(0,0,1):=by unfold Qnu Qan;rw[if_pos hz];rfl
  rw[e];exact⟨⟨⟨Int.le_refl _,Int.le_refl _⟩,.inr rfl,⟨Q5,Q5⟩,rfl,rfl⟩,rfl⟩
 |P x y =>
  obtain⟨h1,h2,h3⟩:=h;have hz:¬P.z%bP=0:=fun hc=>h1 (Qoq.2 hc)
  have hi:zp bP P.z*zp bP (Xo P.z)=1:=Qey.2 ((Qb8 hz).trans (by decide));have e:Qnu P=((P.x*(Xo P.z*Xo P.z))%bP,(P.y*(Xo P.z*Xo P.z*Xo P.z))%bP,0):=by unfold Qnu Qan Xo;rw[if_neg hz]
  rw[e];have ex:zp bP ((P.x*(Xo P.z*Xo P.z))%bP)=x:=by
   rw[Qc8,Jv,Jv,h2];have e:x*(zp bP P.z*zp bP P.z)*(zp bP (Xo P.z)*zp bP (Xo P.z))=x*((zp bP P.z*zp bP (Xo P.z))*(zp bP P.z*zp bP (Xo P.z))):=PE.same (rho [x,zp bP P.z,zp bP (Xo P.z)]) (PE.v 0*(PE.v 1*PE.v 1)*(PE.v 2*PE.v 2)) (PE.v 0*((PE.v 1*PE.v 2)*(PE.v 1*PE.v 2))) rfl;rw[e,hi];exact PE.same (rho [x]) (PE.v 0*(PE.p1*PE.p1)) (PE.v 0) rfl
  have ey:zp bP ((P.y*(Xo P.z*Xo P.z*Xo P.z))%bP)=y:=by
   rw[Qc8,Jv,Jv,Jv,h3];have e:y*(zp bP P.z*zp bP P.z*zp bP P.z)*(zp bP (Xo P.z)*zp bP (Xo P.z)*zp bP (Xo P.z))=y*((zp bP P.z*zp bP (Xo P.z))*(zp bP P.z*zp bP (Xo P.z))*(zp bP P.z*zp bP (Xo P.z))):=PE.same (rho [y,zp bP P.z,zp bP (Xo P.z)]) (PE.v 0*(PE.v 1*PE.v 1*PE.v 1)*(PE.v 2*PE.v 2*PE.v 2)) (PE.v 0*((PE.v 1*PE.v 2)*(PE.v 1*PE.v 2)*(PE.v 1*PE.v 2))) rfl;rw[e,hi];exact PE.same (rho [y]) (PE.v 0*(PE.p1*PE.p1*PE.p1)) (PE.v 0) rfl
  have lx:=Zl (x:=P.x*(Xo P.z*Xo P.z)) Q5;have ly:=Zl (x:=P.y*(Xo P.z*Xo P.z*Xo P.z)) Q5;generalize (P.x*(Xo P.z*Xo P.z))%bP=X at *
  generalize (P.y*(Xo P.z*Xo P.z*Xo P.z))%bP=Y at *
  have hA:y*y=x*x*x+0*x+zp bP 4:=hA;refine⟨⟨⟨lx.1,ly.1⟩,.inl rfl,⟨lx.2,ly.2⟩,?_⟩,?_⟩
  ·show Y*Y%bP=(X*X*X+4)%bP;refine Qey.1 ?_;rw[<- ex,<- ey]at hA;rw[Jv,hA,zm,show zp bP X*zp bP X*zp bP X+0=zp bP X*zp bP X*zp bP X from add_zero _];rfl
  ·show Pn.P (zp bP X) (zp bP Y)=_;rw[ex,ey]
theorem Zn1{x y:Int}(hx:0<=x/\x<bP)(hy:0<=y/\y<bP)(h:zp bP x=zp bP y):x=y:=by
 have:=Qey.1 h;rwa[Ox hx.1 hx.2,Ox hy.1 hy.2]at this
theorem Zlb{x y z:Int}(h:Zgm (x,y,z))(hz:¬z=0):x=0/\y=0/\z=1:=by
 have h2:=h.2.2.2;rw[if_neg hz]at h2;exact⟨h2.1,h2.2,h.2.1.resolve_left hz⟩
def G1:Gp T1 (Zp bP) 384 where
 a:=0
 b:=zp bP 4
 ns:=ns1
 pt:=pt1
 can:=Zgm
 on:=Qm4
 inj {t t'} h h' e:=by
  obtain⟨x,y,z⟩:=t;obtain⟨x',y',z'⟩:=t';unfold pt1 at e;by_cases hz:z=0
  ·by_cases hz':z'=0
   ·rw[if_pos hz,if_pos hz']at e;injection e with e1 e2;have l:=h.2.2.1;have l':=h'.2.2.1;have q1:x=x':=Zn1 ⟨h.1.1,l.1⟩ ⟨h'.1.1,l'.1⟩ e1;have q2:y=y':=Zn1 ⟨h.1.2,l.2⟩ ⟨h'.1.2,l'.2⟩ e2;rw[q1,q2,hz,hz']
   ·rw[if_pos hz,if_neg hz']at e;cases e
  ·by_cases hz':z'=0
   ·rw[if_neg hz,if_pos hz']at e;cases e
   ·obtain⟨q1,q2,q3⟩:=Zlb h hz;obtain⟨q1',q2',q3'⟩:=Zlb h' hz';rw[q1,q2,q3,q1',q2',q3']
 o:=(0,0,1)
 o_ok:=⟨⟨⟨Int.le_refl _,Int.le_refl _⟩,.inr rfl,⟨Q5,Q5⟩,rfl,rfl⟩,rfl⟩
 add t t':=Qnu (Xb R1 (rsT t) (rsT t'))
 add_ok {t t'} h h':=by
  obtain⟨C,j,s,o⟩:=Zaq ph1 (Qsn h) (Qsn h') (Qm4 h) (Qm4 h');obtain⟨c,e⟩:=Zc7 j o;exact⟨c,by rw[e];exact s⟩
 mul t n:=Qnu (Xd R1 (rsT t) 384 n)
 mul_ok {t n} h hn:=by
  obtain⟨C,j,m⟩:=Qwq ph1 ns1 (Qsn h) (Qm4 h) 384 n hn;obtain⟨c,e⟩:=Zc7 j m.2;exact⟨c,by rw[e];exact m⟩
 neg t:=(t.1,(-t.2.1)%bP,t.2.2)
 neg_ok {t} h:=by
  obtain⟨x,y,z⟩:=t;have ly:=Zl (x:=-y) Q5;have o:=h.2.2;refine⟨⟨⟨h.1.1,ly.1⟩,h.2.1,⟨o.1.1,ly.2⟩,?_⟩,?_⟩
  ·have o2:=o.2;by_cases hz:z=0
   ·rw[if_pos hz]at o2 ⊢;rw[<- o2];have e:((-y)%bP*((-y)%bP))%bP=(-y * -y)%bP:=Q2 (Q9 _) (Q9 _);rw[show((x,(-y)%bP,z):T1).2.1=(-y)%bP from rfl,e,Hb]
   ·rw[if_neg hz]at o2 ⊢;have hy:y=0:=o2.2;exact⟨o2.1,by show(-y)%bP=0;rw[hy];rfl⟩
  ·unfold pt1;by_cases hz:z=0
   ·rw[if_pos hz,if_pos hz];show Pn.P (zp bP x) (zp bP ((-y)%bP))=Pn.P (zp bP x) (-zp bP y);rw[Qc8];rfl
   ·rw[if_neg hz,if_neg hz];rfl
abbrev T2:Type:=E2×E2×Int
def Qh8(t:T2):Prop:=(cn t.1/\cn t.2.1)/\(t.2.2=0∨t.2.2=1)/\Qd9 t.1.1 t.1.2 t.2.1.1 t.2.1.2 t.2.2
def pt2(t:T2):Pn F2:=if t.2.2=0 then .P (z2 t.1) (z2 t.2.1)else .O
def Qc3(P:J E2):T2:=(R2.md (Qaq P).1,R2.md (Qaq P).2,Qkd P)
def rsU(t:T2):J E2:=Ja t.1.1 t.1.2 t.2.1.1 t.2.1.2 t.2.2
theorem Zvv(a:E2):z2 (R2.md a)=z2 a:=ph2.md a
theorem Qbl(a b:E2):z2 (R2.mul a b)=z2 a*z2 b:=rfl
theorem Za1(x:E2):z2 (X2 x)=z2 x*z2 x*z2 x+0*z2 x+z2 (4,4):=by
 have e:z2 (X2 x)=z2 x*z2 x*z2 x+z2 (4,4):=Qcp.2 ⟨by simp only[X2,R2];rfl,by simp only[X2,R2];rfl⟩;rw[e,zm,show z2 x*z2 x*z2 x+0=z2 x*z2 x*z2 x from add_zero _]
theorem Qlg{t:T2}(h:Qh8 t):(pt2 t).on 0 (z2 (4,4)):=by
 obtain⟨x,y,z⟩:=t;unfold pt2;by_cases hz:z=0
 ·have h2:=((Qie (show((x,y,z):T2).2.2=0 from hz)).1 h.2.2).2;rw[if_pos hz];show z2 y*z2 y=z2 x*z2 x*z2 x+0*z2 x+z2 (4,4);rw[<- Za1,<- Qbl];exact Qcp.2 ⟨congrArg Prod.fst h2,congrArg Prod.snd h2⟩
 ·rw[if_neg hz];trivial
theorem Qq7{t:T2}(h:Qh8 t):Jr z2 (rsU t) (pt2 t):=by
 obtain⟨x,y,z⟩:=t;unfold rsU pt2 Ja;by_cases hz:z=0
 ·rw[if_pos hz,if_pos hz];refine⟨fun hc=>Zty (Qk5.1 hc),?_,?_⟩
  ·show z2 x=z2 x*(1*1)
   exact PE.same (rho [z2 x]) (PE.v 0) (PE.v 0*(PE.p1*PE.p1)) rfl
  ·show z2 y=z2 y*(1*1*1)
   exact PE.same (rho [z2 y]) (PE.v 0) (PE.v 0*(PE.p1*PE.p1*PE.p1)) rfl
 ·rw[if_neg hz,if_neg hz];exact Zo5 ph2
theorem Za0{P:J E2}{A:Pn F2}(h:Jr z2 P A)(hA:A.on 0 (z2 (4,4))):Qh8 (Qc3 P)/\pt2 (Qc3 P)=A:=by
 cases A with
 |O =>
  have hz:=Qap.1 (Qk5.1 h);have e:Qc3 P=((0,0),(0,0),1):=by unfold Qc3 Qaq Qkd;rw[if_pos hz,if_pos hz];rfl
  rw[e];exact⟨⟨⟨⟨⟨Int.le_refl _,Q5⟩,Int.le_refl _,Q5⟩,⟨Int.le_refl _,Q5⟩,Int.le_refl _,Q5⟩,.inr rfl,(Qlm (by decide)).2 ⟨⟨⟨Q5,Q5⟩,Q5,Q5⟩,⟨rfl,rfl⟩,rfl,rfl⟩⟩,rfl⟩
 |P x y =>
  obtain⟨h1,h2,h3⟩:=h;have hz:¬R2.isz P.z=true:=fun hc=>h1 (Qk5.2 hc)
  have hz':¬(P.z.1%bP=0/\P.z.2%bP=0):=fun hc=>hz (Qap.2 hc)
  have hi:z2 P.z*z2 (Zq P.z)=1:=Qcp.2 (Zo8 hz);have e:Qc3 P=(R2.md (R2.mul P.x (R2.mul (Zq P.z) (Zq P.z))),R2.md (R2.mul P.y (R2.mul (R2.mul (Zq P.z) (Zq P.z)) (Zq P.z))),0):=by unfold Qc3 Qaq Qkd;rw[if_neg hz',if_neg hz']
  rw[e];have ex:z2 (R2.md (R2.mul P.x (R2.mul (Zq P.z) (Zq P.z))))=x:=by
   rw[Zvv,Qbl,Qbl,h2];have e:x*(z2 P.z*z2 P.z)*(z2 (Zq P.z)*z2 (Zq P.z))=x*((z2 P.z*z2 (Zq P.z))*(z2 P.z*z2 (Zq P.z))):=PE.same (rho [x,z2 P.z,z2 (Zq P.z)]) (PE.v 0*(PE.v 1*PE.v 1)*(PE.v 2*PE.v 2)) (PE.v 0*((PE.v 1*PE.v 2)*(PE.v 1*PE.v 2))) rfl;rw[e,hi];exact PE.same (rho [x]) (PE.v 0*(PE.p1*PE.p1)) (PE.v 0) rfl
  have ey:z2 (R2.md (R2.mul P.y (R2.mul (R2.mul (Zq P.z) (Zq P.z)) (Zq P.z))))=y:=by
   rw[Zvv,Qbl,Qbl,Qbl,h3];have e:y*(z2 P.z*z2 P.z*z2 P.z)*(z2 (Zq P.z)*z2 (Zq P.z)*z2 (Zq P.z))=y*((z2 P.z*z2 (Zq P.z))*(z2 P.z*z2 (Zq P.z))*(z2 P.z*z2 (Zq P.z))):=PE.same (rho [y,z2 P.z,z2 (Zq P.z)]) (PE.v 0*(PE.v 1*PE.v 1*PE.v 1)*(PE.v 2*PE.v 2*PE.v 2)) (PE.v 0*((PE.v 1*PE.v 2)*(PE.v 1*PE.v 2)*(PE.v 1*PE.v 2))) rfl;rw[e,hi];exact PE.same (rho [y]) (PE.v 0*(PE.p1*PE.p1*PE.p1)) (PE.v 0) rfl
  have lx:=Qem (R2.mul P.x (R2.mul (Zq P.z) (Zq P.z)));have ly:=Qem (R2.mul P.y (R2.mul (R2.mul (Zq P.z) (Zq P.z)) (Zq P.z)));generalize R2.md (R2.mul P.x (R2.mul (Zq P.z) (Zq P.z)))=X at *
  generalize R2.md (R2.mul P.y (R2.mul (R2.mul (Zq P.z) (Zq P.z)) (Zq P.z)))=Y at *
  have hA:y*y=x*x*x+0*x+z2 (4,4):=hA;refine⟨⟨⟨lx,ly⟩,.inl rfl,(Qie rfl).2 ⟨⟨⟨lx.1.2,lx.2.2⟩,ly.1.2,ly.2.2⟩,?_⟩⟩,?_⟩
  ·have h4:z2 (R2.mul Y Y)=z2 (X2 X):=by
    rw[Za1,Qbl,ex,ey];exact hA
   have h5:=Qcp.1 h4;exact Prod.ext h5.1 h5.2
  ·show Pn.P (z2 X) (z2 Y)=_;rw[ex,ey]
theorem Zni{x y:E2}(hx:cn x)(hy:cn y)(h:z2 x=z2 y):x=y:=by
 have:=Qcp.1 h;obtain⟨h1,h2⟩:=this;rw[Ox hx.1.1 hx.1.2,Ox hy.1.1 hy.1.2]at h1;rw[Ox hx.2.1 hx.2.2,Ox hy.2.1 hy.2.2]at h2;exact Prod.ext h1 h2
theorem Qzx{x y:E2}{z:Int}(h:Qh8 (x,y,z))(hz:¬z=0):x=(0,0)/\y=(0,0)/\z=1:=by
 obtain⟨_,h1,h2⟩:=(Qlm (show ¬((x,y,z):T2).2.2=0 from hz)).1 h.2.2;exact⟨Prod.ext h1.1 h1.2,Prod.ext h2.1 h2.2,h.2.1.resolve_left hz⟩
def G2:Gp T2 F2 384 where
 a:=0
 b:=z2 (4,4)
 ns:=ns2
 pt:=pt2
 can:=Qh8
 on:=Qlg
 inj {t t'} h h' e:=by
  obtain⟨x,y,z⟩:=t;obtain⟨x',y',z'⟩:=t';unfold pt2 at e;by_cases hz:z=0
  ·by_cases hz':z'=0
   ·rw[if_pos hz,if_pos hz']at e;injection e with e1 e2;have q1:x=x':=Zni h.1.1 h'.1.1 e1;have q2:y=y':=Zni h.1.2 h'.1.2 e2;rw[q1,q2,hz,hz']
   ·rw[if_pos hz,if_neg hz']at e;cases e
  ·by_cases hz':z'=0
   ·rw[if_neg hz,if_pos hz']at e;cases e
   ·obtain⟨q1,q2,q3⟩:=Qzx h hz;obtain⟨q1',q2',q3'⟩:=Qzx h' hz';rw[q1,q2,q3,q1',q2',q3']
 o:=((0,0),(0,0),1)
 o_ok:=⟨⟨⟨⟨⟨Int.le_refl _,Q5⟩,Int.le_refl _,Q5⟩,⟨Int.le_refl _,Q5⟩,Int.le_refl _,Q5⟩,.inr rfl,(Qlm (by decide)).2 ⟨⟨⟨Q5,Q5⟩,Q5,Q5⟩,⟨rfl,rfl⟩,rfl,rfl⟩⟩,rfl⟩
 add t t':=Qc3 (Xb R2 (rsU t) (rsU t'))
 add_ok {t t'} h h':=by
  obtain⟨C,j,s,o⟩:=Zaq ph2 (Qq7 h) (Qq7 h') (Qlg h) (Qlg h');obtain⟨c,e⟩:=Za0 j o;exact⟨c,by rw[e];exact s⟩
 mul t n:=Qc3 (Xd R2 (rsU t) 384 n)
 mul_ok {t n} h hn:=by
  obtain⟨C,j,m⟩:=Qwq ph2 ns2 (Qq7 h) (Qlg h) 384 n hn;obtain⟨c,e⟩:=Za0 j m.2;exact⟨c,by rw[e];exact m⟩
 neg t:=(t.1,ng2 t.2.1,t.2.2)
 neg_ok {t} h:=by
  obtain⟨x,y,z⟩:=t;have hn:cn (ng2 y):=Zxj y;have hz2:z2 (ng2 y)=-z2 y:=Qcp.2 ⟨Q9 _,Q9 _⟩;refine⟨⟨⟨h.1.1,hn⟩,h.2.1,?_⟩,?_⟩
  ·by_cases hz:z=0
   ·have o:=(Qie (show((x,y,z):T2).2.2=0 from hz)).1 h.2.2;refine(Qie hz).2 ⟨⟨o.1.1,hn.1.2,hn.2.2⟩,?_⟩;refine Eq.trans ?_ o.2;have:z2 (R2.mul (ng2 y) (ng2 y))=z2 (R2.mul y y):=by
     rw[Qbl,Qbl,hz2];exact PE.same (rho [z2 y]) (-PE.v 0 * -PE.v 0) (PE.v 0*PE.v 0) rfl
    have h5:=Qcp.1 this;exact Prod.ext h5.1 h5.2
   ·obtain⟨q1,q2,q3⟩:=Qzx h hz;refine(Qlm hz).2 ⟨⟨⟨h.1.1.1.2,h.1.1.2.2⟩,hn.1.2,hn.2.2⟩,?_⟩;rw[q1,q2];exact⟨⟨rfl,rfl⟩,show(ng2 (0,0)).1=0 from by decide,show(ng2 (0,0)).2=0 from by decide⟩
  ·unfold pt2;by_cases hz:z=0
   ·rw[if_pos hz,if_pos hz];show Pn.P (z2 x) (z2 (ng2 y))=Pn.P (z2 x) (-z2 y);rw[hz2]
   ·rw[if_neg hz,if_neg hz];rfl
end Go.Sx
namespace Go.Sx
open Go Go.RowKit
set_option maxRecDepth 100000
def Qa7(x:Int):Prop:=sqV (Zy x)
noncomputable def Wm(x:Int):Nat:=Ys Qa7 bP x
noncomputable def Bg(x:Int):Int:=(x+Wm x)%bP
noncomputable def Zat(x:Int):List Int:=[Bg x,(Y0 (Zy (Bg x))).getD 0 0,0]
noncomputable def Ql9(f:FuncId):K:={fn:=f,ext:=false,ins:=[iN],outs:=[.agg Jn,oI],pre:=fun|[x]=>∃n:Nat,Qa7 ((x+n)%bP)|_=>False,sem:=fun|[x]=>Zat x++[wr .i64 (Wm x)]|_=>[] }
theorem Qp3(h:Int->Prop)(p x:Int):Ys h p (x%p)=Ys h p x:=by
 unfold Ys;congr 1;funext m;rw[Kw]
def Zjt:Qn:=(xw 1 [] 1 Q7
(xw 0 [.v 1] 2 [.num,kU,.num]
(xw 2 [.v 2,.v 3,.v 4,.v 0] 5 Q7
(.loop [.v 5,.n 0] [.num,kI] 6
(xw 3 [.v 6] 8 [.num,.num,.bit,.bit]
(.split 11
(.ret [.v 8,.v 9,.v 10,.v 7])
(xw 5 [.n 1] 108 Q7
(xw 4 [.v 2,.v 3,.v 4,.v 6,.v 108] 156 Q7
(.l 252 kI (.b .add .i64 (.v 7) (.n 1))
(.back 0 [.v 156,.v 252]))))))))))
theorem Zfc(te:TypeId)(f0 f1 f2 f3 f4 f5 f:FuncId)(e:Nat->Int)(hk:Qy [.num] [e 0])(hp:(Ql9 f).pre [e 0]):Zjt.Xij [Qgb f0 te,Qam f1,W4 f2,Zzb f3,Qi4 f4,kOf f5] ⟨fun ys=>ys=(Ql9 f).sem [e 0],[]⟩ e:=by
 have hex:∃n:Nat,Qa7 ((e 0+n)%bP):=hp;show Zjt.Xij _ ⟨fun ys=>ys=Zat (e 0)++[wr .i64 (Wm (e 0))],[]⟩ e;clear hk;have hb3:bP%2=1/\3<=bP/\bP<2^382:=⟨Bj,by decide +kernel,by decide +kernel⟩
 refine⟨trivial,fun a1 _=>?_⟩;have v1:e 1=bP:=a1;refine⟨by show e 1%2=1/\3<=e 1/\e 1<2^382;rw[v1];exact hb3,fun a2 _ a3 _ a4 _=>?_⟩;have v2:e 2=bP:=(show e 2=e 1 from a2).trans v1;have v3:e 3=Qeh (e 1):=a3;have v4:e 4=Z9 (e 1):=a4;have hg:Wr (e 2) (e 3) (e 4):=by rw[v3,v4,v1,v2];exact Qph hb3.1 hb3.2.1 hb3.2.2
 refine⟨hg,fun a5 _=>?_⟩;have v5:e 5=e 0%bP:=by rw[show e 5=e 0%e 2 from a5,v2]
 obtain⟨n,hn⟩:∃n,n=Wm (e 0):=⟨_,rfl⟩
 have hV:Zat (e 0)++[wr .i64 (Wm (e 0))]=[(e 0+n)%bP,(Y0 (Zy ((e 0+n)%bP))).getD 0 0,0,wr .i64 n]:=by rw[hn];rfl
 rw[hV];clear hV;refine⟨fun|[x,k]=>(0<=x/\x<bP)/\(∃n:Nat,Qa7 ((x+n)%bP))/\∃j:Nat,x=(e 0+j)%bP/\k=wr .i64 j/\j+Wm x=n|_=>False,fun|[x,k]=>Wm x|_=>0,?_,fun e' he hkk hI=>?_⟩
 ·show(0<=e 5/\e 5<bP)/\(∃n:Nat,Qa7 ((e 5+n)%bP))/\∃j:Nat,e 5=(e 0+j)%bP/\(0:Int)=wr .i64 j/\j+Wm (e 5)=n;refine⟨by rw[v5];exact Zl Q5,?_,0,by rw[v5];simp,rfl,?_⟩
  ·obtain⟨m,hm⟩:=hex;exact⟨m,by rw[v5,Kw];exact hm⟩
  ·rw[M2,hn,v5];exact Qp3 _ _ _
 obtain⟨hx,hex',j,q1,q2,q3⟩:(0<=e' 6/\e' 6<bP)/\(∃n:Nat,Qa7 ((e' 6+n)%bP))/\∃j:Nat,e' 6=(e 0+j)%bP/\e' 7=wr .i64 j/\j+Wm (e' 6)=n:=hI;rw[<- he 2 (by decide),<- he 3 (by decide),<- he 4 (by decide)]at hg;have v2:=(he 2 (by decide)).trans v2;rw[<- he 0 (by decide)]at q1 ⊢;clear he hkk a1 a2 a3 a4 a5 v1 v3 v4 v5 hn hex hp;refine⟨trivial,fun a8 _ a9 _ a10 _ a11 _=>?_⟩;have v8:e' 8=e' 6:=a8;have v9:e' 9=(Y0 (Zy (e' 6))).getD 0 0:=a9;have v10:e' 10=0:=a10;have v11:e' 11=bj (Qa7 (e' 6)):=a11;refine⟨fun h=>?_,fun h=>?_⟩
 ·have hh:Qa7 (e' 6):=by
   by_cases hc:Qa7 (e' 6)
   ·exact hc
   ·rw[Jf hc]at v11;exact absurd v11 h
  have hz:Wm (e' 6)=0:=Qe4 hx hh;have hj:j=n:=by omega
  show[e' 8,e' 9,e' 10,e' 7]=_;rw[v8,v9,v10,q2,<- hj,<- q1]
 ·have hh:¬Qa7 (e' 6):=fun hc=>by rw[Qbp hc]at v11;omega
  obtain⟨hs,hex2⟩:=Qfd (h:=Qa7) hx hex' hh;refine⟨trivial,fun a108 _=>⟨hg,fun a156 _ a252 _=>?_⟩⟩;have v156:e' 156=(e' 6+1)%bP:=by rw[show e' 156=(e' 6+e' 108)%e' 2 from a156,v2,show e' 108=1 from a108]
  rw[<- v156]at hs hex2;show((0<=e' 156/\e' 156<bP)/\(∃n:Nat,Qa7 ((e' 156+n)%bP))/\∃j:Nat,e' 156=(e' 0+j)%bP/\e' 252=wr .i64 j/\j+Wm (e' 156)=n)/\Wm (e' 156)<Wm (e' 6);have hs:Wm (e' 6)=Wm (e' 156)+1:=hs;refine⟨⟨by rw[v156];exact Zl Q5,hex2,j+1,?_,?_,by omega⟩,by omega⟩
  ·rw[v156,q1,Kw];congr 1;omega
  ·exact(show e' 252=wr .i64 (e' 7+1)from a252).trans (Qs4 q2)
def Uk(b x:Int):Prop:=Wt (X2 (x,b))
noncomputable def Qe6(a b:Int):Nat:=Ys (Uk (b%bP)) bP a
noncomputable def Qmj(a b:Int):Int:=(a+Qe6 a b)%bP
noncomputable def Qae(a b:Int):T2:=((Qmj a b,b%bP),rt2 (X2 (Qmj a b,b%bP)),0)
def T2.L(t:T2):List Int:=[t.1.1,t.1.2,t.2.1.1,t.2.1.2,t.2.2]
noncomputable def Qmg(f:FuncId):K:={fn:=f,ext:=false,ins:=[iE2],outs:=[.agg Qax,oI],pre:=fun|[a,b]=>∃n:Nat,Uk (b%bP) ((a+n)%bP)|_=>False,sem:=fun|[a,b]=>T2.L (Qae a b)++[wr .i64 (Qe6 a b)]|_=>[] }
theorem Zhm{a b:Int}(h:∃n:Nat,Uk (b%bP) ((a+n)%bP)):Qh8 (Qae a b):=by
 have h1:Wt (X2 (Qmj a b,b%bP)):=(Qbd h).1;exact⟨⟨⟨Zl Q5,Zl Q5⟩,Qy2 _⟩,.inl rfl,Zzo (Zl Q5).2 (Zl Q5).2 h1⟩
def Zlu:Qn:=(xw 0 [.v 0,.v 1,.n 0,.n 0] 2 Yr
(.loop [.v 2,.v 3,.n 0] [.num,.num,kI] 4
(xw 1 [.v 4,.v 5] 7 [.num,.num,.num,.num,.bit,.bit]
(.split 12
(.ret [.v 7,.v 8,.v 9,.v 10,.v 11,.v 6])
(xw 2 [.n 1] 61 Q7
(xw 0 [.v 4,.v 5,.v 61,.n 0] 157 Yr
(.l 253 kI (.b .add .i64 (.v 6) (.n 1))
(.back 0 [.v 157,.v 158,.v 253]))))))))
theorem Zhx(f0 f1 f2 f:FuncId)(e:Nat->Int)(hp:(Qmg f).pre [e 0,e 1]):Zlu.Xij [Qkw f0,Zyy f1,kOf f2] ⟨fun ys=>ys=(Qmg f).sem [e 0,e 1],[]⟩ e:=by
 have hex:∃n:Nat,Uk (e 1%bP) ((e 0+n)%bP):=hp;show Zlu.Xij _ ⟨fun ys=>ys=T2.L (Qae (e 0) (e 1))++[wr .i64 (Qe6 (e 0) (e 1))],[]⟩ e;refine⟨trivial,fun a2 _ a3 _=>?_⟩;have v2:e 2=e 0%bP:=by rw[show e 2=(e 0+0)%bP from a2,Oah]
 have v3:e 3=e 1%bP:=by rw[show e 3=(e 1+0)%bP from a3,Oah]
 obtain⟨n,hn⟩:∃n,n=Qe6 (e 0) (e 1):=⟨_,rfl⟩
 obtain⟨b,hb⟩:∃b,b=e 1%bP:=⟨_,rfl⟩
 have hV:T2.L (Qae (e 0) (e 1))++[wr .i64 (Qe6 (e 0) (e 1))]=[(e 0+n)%bP,b,(rt2 (X2 ((e 0+n)%bP,b))).1,(rt2 (X2 ((e 0+n)%bP,b))).2,0,wr .i64 n]:=by rw[hn,hb];rfl
 rw[hV];clear hV;have hbr:0<=b/\b<bP:=by rw[hb];exact Zl Q5
 rw[<- hb]at hex;refine⟨fun|[x,y,k]=>y=b/\(0<=x/\x<bP)/\(∃n:Nat,Uk b ((x+n)%bP))/\∃j:Nat,x=(e 0+j)%bP/\k=wr .i64 j/\j+Ys (Uk b) bP x=n|_=>False,fun|[x,_,k]=>Ys (Uk b) bP x|_=>0,?_,fun e' he hkk hI=>?_⟩
 ·show e 3=b/\(0<=e 2/\e 2<bP)/\(∃n:Nat,Uk b ((e 2+n)%bP))/\∃j:Nat,e 2=(e 0+j)%bP/\(0:Int)=wr .i64 j/\j+Ys (Uk b) bP (e 2)=n;refine⟨v3.trans hb.symm,by rw[v2];exact Zl Q5,?_,0,by rw[v2];simp,rfl,?_⟩
  ·obtain⟨m,hm⟩:=hex;exact⟨m,by rw[v2,Kw];exact hm⟩
  ·rw[M2,hn,v2,hb];exact Qp3 _ _ _
 obtain⟨q0,hx,hex',j,q1,q2,q3⟩:e' 5=b/\(0<=e' 4/\e' 4<bP)/\(∃n:Nat,Uk b ((e' 4+n)%bP))/\∃j:Nat,e' 4=(e 0+j)%bP/\e' 6=wr .i64 j/\j+Ys (Uk b) bP (e' 4)=n:=hI;rw[<- he 0 (by decide)]at q1 ⊢;clear he hkk a2 a3 v2 v3 hn hex hp hb;refine⟨trivial,fun a7 _ a8 _ a9 _ a10 _ a11 _ a12 _=>?_⟩;have v7:e' 7=e' 4:=a7;have v8:e' 8=b:=(show e' 8=e' 5 from a8).trans q0;have v9:e' 9=(rt2 (X2 (e' 4,b))).1:=by rw[<- q0];exact a9
 have v10:e' 10=(rt2 (X2 (e' 4,b))).2:=by rw[<- q0];exact a10
 have v11:e' 11=0:=a11;have v12:e' 12=bj (Uk b (e' 4)):=by rw[<- q0];exact a12
 refine⟨fun h=>?_,fun h=>?_⟩
 ·have hh:Uk b (e' 4):=by
   by_cases hc:Uk b (e' 4)
   ·exact hc
   ·rw[Jf hc]at v12;exact absurd v12 h
  have hz:Ys (Uk b) bP (e' 4)=0:=Qe4 hx hh;have hj:j=n:=by omega
  show[e' 7,e' 8,e' 9,e' 10,e' 11,e' 6]=_;rw[v7,v8,v9,v10,v11,q2,<- hj,<- q1]
 ·have hh:¬Uk b (e' 4):=fun hc=>by rw[Qbp hc]at v12;omega
  obtain⟨hs,hex2⟩:=Qfd (h:=Uk b) hx hex' hh;refine⟨trivial,fun a61 _=>⟨trivial,fun a157 _ a158 _ a253 _=>?_⟩⟩;have v157:e' 157=(e' 4+1)%bP:=by rw[show e' 157=(e' 4+e' 61)%bP from a157,show e' 61=1 from a61]
  have v158:e' 158=b:=by rw[show e' 158=(e' 5+0)%bP from a158,Oah,q0,Ox hbr.1 hbr.2]
  rw[<- v157]at hs hex2;show(e' 158=b/\(0<=e' 157/\e' 157<bP)/\(∃n:Nat,Uk b ((e' 157+n)%bP))/\∃j:Nat,e' 157=(e' 0+j)%bP/\e' 253=wr .i64 j/\j+Ys (Uk b) bP (e' 157)=n)/\Ys (Uk b) bP (e' 157)<Ys (Uk b) bP (e' 4);refine⟨⟨v158,by rw[v157];exact Zl Q5,hex2,j+1,?_,?_,by omega⟩,by omega⟩
  ·rw[v157,q1,Kw];congr 1;omega
  ·exact(show e' 253=wr .i64 (e' 6+1)from a253).trans (Qs4 q2)
end Go.Sx
namespace Go.Sx
open Cr
section
variable {p:Int}
def ptL(p:Int)(t:Pt):Pn (Zp p):=if t.z=0 then .P (zp p t.x) (zp p t.y)else .O
theorem Qr2(hp:prP p):0<p:=by rcases hp with h|h <;> rw[h] <;> decide
theorem Zp2{a b:Int}(h:p∣a-b):zp p a=zp p b:=Qey.2 (Qal.2 h)
theorem Qg0{x y:Int}(hx:0<=x/\x<p)(hy:0<=y/\y<p)(h:zp p x=zp p y):x=y:=by
 have:=Qey.1 h;rwa[Ox hx.1 hx.2,Ox hy.1 hy.2]at this
theorem Qh1(hp:prP p){t:Pt}(h:onL p t):@Pn.on (Zp p) (fdP hp) 1 0 (ptL p t):=by
 unfold ptL;by_cases hz:t.z=0
 ·rw[if_pos hz];have h2:=h.1;unfold Bp at h2;rw[if_pos hz,Qob]at h2;show zp p t.y*zp p t.y=zp p t.x*zp p t.x*zp p t.x+1*zp p t.x+0;have:zp p (t.y*t.y)=zp p (t.x*t.x*t.x+t.x):=Qey.2 h2.2.2;rw[<- Jv,this,Zyw,Jv,Jv];exact PE.same (rho [zp p t.x]) (PE.v 0*PE.v 0*PE.v 0+PE.v 0) (PE.v 0*PE.v 0*PE.v 0+PE.p1*PE.v 0+PE.p0) rfl
 ·rw[if_neg hz];trivial
theorem nsL(hp:prP p):@NS (Zp p) (fdP hp) 1 0:=fun x=>Quotient.inductionOn x fun x h hc=>by
 letI:=fdP hp;have h:zp p x*zp p x*zp p x+1*zp p x+0=0:=h;have hc:zp p x*zp p x+zp p x*zp p x+(zp p x*zp p x+1)=0:=hc;generalize zp p x=x at *
 have h1:x*(x*x+1)=0:=by
  rw[<- h];exact PE.same (rho [x]) (PE.v 0*(PE.v 0*PE.v 0+PE.p1)) (PE.v 0*PE.v 0*PE.v 0+PE.p1*PE.v 0+PE.p0) rfl
 rcases Qbr h1 with h2|h2
 ·rw[h2]at hc;refine Fd.one_ne (α:=Zp p) ?_;show(1:Zp p)=0;rw[<- hc];exact PE.same (rho ([]:List (Zp p))) PE.p1 (PE.p0*PE.p0+PE.p0*PE.p0+(PE.p0*PE.p0+PE.p1)) rfl
 ·
  have h3:(1+1:Zp p)=0:=by
   have e:(1+1:Zp p)=(x*x+1)+(x*x+1)+(x*x+1) + -(x*x+x*x+(x*x+1)):=PE.same (rho [x]) (PE.p1+PE.p1) ((PE.v 0*PE.v 0+PE.p1)+(PE.v 0*PE.v 0+PE.p1)+(PE.v 0*PE.v 0+PE.p1) + -(PE.v 0*PE.v 0+PE.v 0*PE.v 0+(PE.v 0*PE.v 0+PE.p1))) rfl;rw[e,hc,h2];exact PE.same (rho ([]:List (Zp p))) (PE.p0+PE.p0+PE.p0 + -PE.p0) PE.p0 rfl
  exact Fd.two_ne (α:=Zp p) h3
theorem Qq5(hp:prP p){a b:Pt}(ha:onL p a)(hb:onL p b):@Sm (Zp p) (fdP hp) 1 0 (ptL p a) (ptL p b) (ptL p (Xv p a b)):=by
 letI:=fdP hp;have p0:=Qr2 hp;have la:=ha.lt p0;have lb:=hb.lt p0;have oa:=Qh1 hp ha;have ob:=Qh1 hp hb;unfold Xv;by_cases hza:a.z=0
 ·rw[if_neg (fun hc=>hc hza)];by_cases hzb:b.z=0
  ·rw[if_neg (fun hc=>hc hzb)];have ea:ptL p a=.P (zp p a.x) (zp p a.y):=if_pos hza;have eb:ptL p b=.P (zp p b.x) (zp p b.y):=if_pos hzb;rw[ea]at oa;rw[eb]at ob;rw[ea,eb];have res:∀l:Int,ptL p ⟨((l*l%p-a.x)%p-b.x)%p,(l*((a.x-((l*l%p-a.x)%p-b.x)%p)%p)%p-a.y)%p,0⟩=.P (zp p l*zp p l + -zp p a.x + -zp p b.x) (zp p l*(zp p a.x + -(zp p l*zp p l + -zp p a.x + -zp p b.x)) + -zp p a.y):=fun l=>by
    have e1:zp p (((l*l%p-a.x)%p-b.x)%p)=zp p l*zp p l + -zp p a.x + -zp p b.x:=by
     rw[Qc8,Qez,Qc8,Qez,Qc8];rfl
    show Pn.P _ _=_;rw[e1];have e2:zp p ((l*((a.x-((l*l%p-a.x)%p-b.x)%p)%p)%p-a.y)%p)=zp p l*(zp p a.x + -(zp p l*zp p l + -zp p a.x + -zp p b.x)) + -zp p a.y:=by
     rw[Qc8,Qez,Qc8,Jv,Qc8,Qez,e1]
    rw[e2]
   by_cases hx:a.x=b.x
   ·by_cases hy:a.y≠b.y∨a.y=0
    ·have hs:Y8 p a.x a.y b.x b.y=(0,0):=by unfold Y8;rw[if_neg (fun hc=>hc hx),if_pos hy]
     rw[hs,if_pos rfl];show Sm 1 0 _ _ Pn.O;have hyy:zp p b.y=-zp p a.y:=by
      rw[<- hx]at ob;rcases hy with hy|hy
      ·exact Zb7 oa ob (fun hc=>hy (Qg0 la.2 lb.2 (Qjo hc).symm))
      ·by_cases hc:a.y=b.y
       ·rw[<- hc,hy,<- Zze];rfl
       ·exact Zb7 oa ob (fun h0=>hc (Qg0 la.2 lb.2 (Qjo h0).symm))
     rw[<- hx,hyy];exact .opp _ _
    ·have hs:Y8 p a.x a.y b.x b.y=((((a.x*a.x%p+a.x*a.x%p)%p+a.x*a.x%p)%p+1)%p*Qb2 p ((a.y+a.y)%p)%p,1):=by unfold Y8;rw[if_neg (fun hc=>hc hx),if_neg hy]
     have hye:a.y=b.y:=Classical.byContradiction fun hc=>hy (.inl hc)
     have hy0:0<a.y/\a.y<p:=by
      have:=la.2;have h0:¬a.y=0:=fun hc=>hy (.inr hc)
      omega
     rw[hs,if_neg (show ¬(1:Int)=0 by decide)];have ht:=Zp2 (Qps (x:=a.x) hp hy0);show Sm 1 0 _ _ (ptL p ⟨_,_,0⟩);generalize (((a.x*a.x%p+a.x*a.x%p)%p+a.x*a.x%p)%p+1)%p*Qb2 p ((a.y+a.y)%p)%p=l at ht;have hr:=res l;rw[<- hx,<- hye];rw[<- hx]at hr;have hl:zp p l*(zp p a.y+zp p a.y)=zp p a.x*zp p a.x+zp p a.x*zp p a.x+zp p a.x*zp p a.x+1:=by
      rw[Jv]at ht;exact ht
     have:=(Qx2 oa hl).1;rw[<- hr]at this;exact this
   ·have hs:Y8 p a.x a.y b.x b.y=((b.y-a.y)%p*Qb2 p ((b.x-a.x)%p)%p,1):=by unfold Y8;rw[if_pos hx]
    rw[hs,if_neg (show ¬(1:Int)=0 by decide)];obtain⟨_,_,hd⟩:=Qjb (y:=a.y) (y':=b.y) hp la.1 lb.1 hx;have ht:=Zp2 hd;show Sm 1 0 _ _ (ptL p ⟨_,_,0⟩);generalize (b.y-a.y)%p*Qb2 p ((b.x-a.x)%p)%p=l at ht;rw[res l];rw[Jv,Qez,Qez]at ht;exact(Qlk oa ob (fun hc=>hx (Qg0 la.1 lb.1 (Qjo hc).symm)) ht).1
  ·rw[if_pos hzb];have eb:ptL p b=.O:=if_neg hzb;rw[eb];exact .zr _
 ·rw[if_pos hza];have ea:ptL p a=.O:=if_neg hza;rw[ea];exact .zl _
theorem Qr1(hp:prP p){a:Pt}(ha:onL p a):∀(k n:Nat),n<2^k->onL p (Zs p a k n)/\@Ml (Zp p) (fdP hp) 1 0 n (ptL p a) (ptL p (Zs p a k n))
 |0,n,hn=>by
  letI:=fdP hp;have:n=0:=by simpa using hn
  subst this;exact⟨Qo6 p,Zgg _⟩
 |k+1,n,hn=>by
  letI:=fdP hp;have e1:Zs p a (k+1) n=if n=0 then⟨0,0,1⟩else(if n%2=1 then Xv p (Xv p (Zs p a k (n/2)) (Zs p a k (n/2))) a else Xv p (Zs p a k (n/2)) (Zs p a k (n/2))):=rfl
  rw[e1];by_cases h0:n=0
  ·rw[if_pos h0,h0];exact⟨Qo6 p,Zgg _⟩
  ·rw[if_neg h0];obtain⟨o1,m1⟩:=Qr1 hp ha k (n/2) (by rw[Nat.pow_succ]at hn;omega);have o2:=Qi2 hp o1 o1;have m2:=Qff (nsL hp) m1 m1 (Qq5 hp o1 o1) (Qh1 hp o2);by_cases hb:n%2=1
   ·rw[if_pos hb];have o3:=Qi2 hp o2 ha;have m3:=Qff (nsL hp) m2 (Zsl (Qh1 hp ha)) (Qq5 hp o2 ha) (Qh1 hp o3);rw[show n/2+n/2+1=n by omega]at m3;exact⟨o3,m3⟩
   ·rw[if_neg hb];rw[show n/2+n/2=n by omega]at m2;exact⟨o2,m2⟩
theorem Zv2{t:Pt}(h:onL p t)(hz:¬t.z=0):t=⟨0,0,1⟩:=by
 have h1:=h.1;unfold Bp at h1;rw[if_neg hz]at h1;obtain⟨x,y,z⟩:=t;have h3:z=1:=h.2.2.resolve_left hz;have h1:x=0/\y=0:=h1;rw[h1.1,h1.2,h3]
def GL{p:Int}(hp:prP p):@Gp Pt (Zp p) (fdP hp) 64 :=
 letI:=fdP hp
 {a:=1,
  b:=0,
  ns:=nsL hp,
  pt:=ptL p,
  can:=onL p,
  on:=fun h=>Qh1 hp h,
  inj:=fun {t t'} h h' e=>by
   have p0:=Qr2 hp;have l:=h.lt p0;have l':=h'.lt p0;unfold ptL at e;by_cases hz:t.z=0
   ·by_cases hz':t'.z=0
    ·rw[if_pos hz,if_pos hz']at e;injection e with e1 e2;have q1:=Qg0 l.1 l'.1 e1;have q2:=Qg0 l.2 l'.2 e2;obtain⟨x,y,z⟩:=t;obtain⟨x',y',z'⟩:=t';have q1:x=x':=q1;have q2:y=y':=q2;have hz:z=0:=hz;have hz':z'=0:=hz';rw[q1,q2,hz,hz']
    ·rw[if_pos hz,if_neg hz']at e;cases e
   ·by_cases hz':t'.z=0
    ·rw[if_neg hz,if_pos hz']at e;cases e
    ·rw[Zv2 h hz,Zv2 h' hz']
  o:=⟨0,0,1⟩
  o_ok:=⟨Qo6 p,rfl⟩
  add:=Xv p
  add_ok:=fun h h'=>⟨Qi2 hp h h',Qq5 hp h h'⟩
  mul:=fun t n=>Zs p t 64 n
  mul_ok:=fun h hn=>Qr1 hp h 64 _ hn
  neg:=fun t=>⟨t.x,(-t.y)%p,t.z⟩
  neg_ok:=fun {t} h=>by
   have p0:=Qr2 hp;have ly:=Zl (x:=-t.y) p0;have o:=h.1;unfold Bp at o;refine⟨⟨?_,⟨h.2.1.1,ly.1⟩,h.2.2⟩,?_⟩
   ·show Bp p t.x ((-t.y)%p) t.z;unfold Bp;by_cases hz:t.z=0
    ·rw[if_pos hz]at o ⊢;refine⟨o.1,ly.2,?_⟩;rw[<- o.2.2];have e:((-t.y)%p*((-t.y)%p))%p=(-t.y * -t.y)%p:=Q2 (md2 _ _) (md2 _ _);rw[e,Hb]
    ·rw[if_neg hz]at o ⊢;exact⟨o.1,by rw[o.2];rfl⟩
   ·unfold ptL;by_cases hz:t.z=0
    ·rw[if_pos hz,if_pos hz];show Pn.P (zp p t.x) (zp p ((-t.y)%p))=Pn.P (zp p t.x) (-zp p t.y);rw[Qc8];rfl
    ·rw[if_neg hz,if_neg hz];rfl }
end
end Go.Sx


namespace Go.Sx
open Go Go.RowKit
set_option maxRecDepth 100000
abbrev Qz1:List L:=[.int .i64,.num,.num,.num,.num,.bool,.int .u64,.int .u64,.bool]
theorem Xdq{T:List K}{e:Nat->Int}{v:Int}{i j i' j' k:Nat}(h:v=(D.eqs [((.m i 0),(.lit 0)),((.m i 1),(.lit 0)),((.m i 2),(.lit 0)),((.m i 3),(.lit 0)),((.m i 4),(.lit 0)),((.m i 5),(.lit 0)),((.m j 0),(.lit 0)),((.m j 1),(.lit 0)),((.m j 2),(.lit 0)),((.m j 3),(.lit 0)),((.m j 4),(.lit 0)),((.m j 5),(.lit 0)),((.m i' 0),(.lit 0)),((.m i' 1),(.lit 0)),((.m i' 2),(.lit 0)),((.m i' 3),(.lit 0)),((.m i' 4),(.lit 0)),((.m i' 5),(.lit 0)),((.m j' 0),(.lit 0)),((.m j' 1),(.lit 0)),((.m j' 2),(.lit 0)),((.m j' 3),(.lit 0)),((.m j' 4),(.lit 0)),((.m j' 5),(.lit 0)),((.v k),(.lit 0))]).ev T e)
  (hi:0<=e i/\e i<Qv) (hj:0<=e j/\e j<Qv) (hi':0<=e i'/\e i'<Qv) (hj':0<=e j'/\e j'<Qv):(v=1/\((e i=0/\e j=0)/\(e i'=0/\e j'=0)/\e k=0))∨(v=0/\¬((e i=0/\e j=0)/\(e i'=0/\e j'=0)/\e k=0)):=by
 simp only[D.ev,Lq,H9,Q3,Qp,Qm,Hy,Qiw,Oo,beq_iff_eq]at h;by_cases hc:(e i=0/\e j=0)/\(e i'=0/\e j'=0)/\e k=0
 ·left;rw[hc.1.1,hc.1.2,hc.2.1.1,hc.2.1.2,hc.2.2]at h;simp[Q0]at h;exact⟨h,hc⟩
 ·right
  rw[if_neg (fun hh=>hc (by
   obtain⟨a0,a1,a2,a3,a4,a5,b0,b1,b2,b3,b4,b5,c0,c1,c2,c3,c4,c5,d0,d1,d2,d3,d4,d5,z0⟩:=hh;have z:∀ {x:Int},0<=x/\x<Qv->Q0 x 0=0->Q0 x 1=0->Q0 x 2=0->Q0 x 3=0->Q0 x 4=0->Q0 x 5=0->x=0:=fun hx h0 h1 h2 h3 h4 h5=>by have:=Zz hx;omega
   exact⟨⟨z hi a0 a1 a2 a3 a4 a5,z hj b0 b1 b2 b3 b4 b5⟩,⟨z hi' c0 c1 c2 c3 c4 c5,z hj' d0 d1 d2 d3 d4 d5⟩,z0⟩))]at h
  exact⟨h,hc⟩
def Up(s a b c d z x y w:Int):Prop:=(s=0/\(x=0/\y=0/\w=0)/\Qzb a b c d z)∨(Je s/\((a=0/\b=0)/\(c=0/\d=0)/\z=0)/\inP (pL s) (Xr s) x y w)
theorem Qhi{s a b c d z x y w:Int}(h:Up s a b c d z x y w)(h0:s=0):(x=0/\y=0/\w=0)/\Qzb a b c d z:=by
 rcases h with h|h
 ·exact h.2
 ·rcases h.1 with h1|h1 <;> omega
theorem Qd0{s a b c d z x y w:Int}(h:Up s a b c d z x y w)(h0:¬s=0):Je s/\((a=0/\b=0)/\(c=0/\d=0)/\z=0)/\inP (pL s) (Xr s) x y w:=by
 rcases h with h|h
 ·exact absurd h.1 h0
 ·exact h
theorem Zbh{s a b c d z x y w:Int}(h:Up s a b c d z x y w):Y5 s:=by
 rcases h with h|h
 ·exact⟨by omega,by omega⟩
 ·rcases h.1 with h|h <;> exact⟨by omega,by omega⟩
noncomputable def Qdw(f:FuncId):K:={fn:=f,ext:=false,ins:=[.agg Qz1],outs:=[oB],pre:=fun _=>True,sem:=fun|[s,a,b,c,d,z,x,y,w]=>[bj (Up s a b c d z x y w)]|_=>[] }
open Classical in
noncomputable def Qiv(s a b c d z x y w n:Int):List Int :=
 if ¬Up s a b c d z x y w then[0,0,0,0,0,0,0,0,0,5]
 else if ¬n<Xr s then[0,0,0,0,0,0,0,0,0,2]
 else if s=0 then[0]++Wc (Xd R2 (Ja a b c d z) 384 n.toNat)++[0,0,0,0]
 else[s,0,0,0,0,0]++(Zs (pL s) ⟨x,y,w⟩ 64 n.toNat).l++[0]
noncomputable def Qkx(f:FuncId):K:={fn:=f,ext:=false,ins:=[.agg Qz1,iN],outs:=[.agg Qz1,oI],pre:=fun _=>True,sem:=fun|[s,a,b,c,d,z,x,y,w,n]=>Qiv s a b c d z x y w n|_=>[] }
open Classical in
noncomputable def Qh6(s a b c d z x y w s' a' b' c' d' z' x' y' w':Int):List Int :=
 if ¬Up s a b c d z x y w∨¬Up s' a' b' c' d' z' x' y' w' then[0,0,0,0,0,0,0,0,0,5]
 else if s≠s' then[0,0,0,0,0,0,0,0,0,2]
 else if s=0 then[0]++Wc (Xb R2 (Ja a b c d z) (Ja a' b' c' d' z'))++[0,0,0,0]
 else[s,0,0,0,0,0]++(Xv (pL s) ⟨x,y,w⟩ ⟨x',y',w'⟩).l++[0]
noncomputable def Qkk(f:FuncId):K:={fn:=f,ext:=false,ins:=[.agg Qz1,.agg Qz1],outs:=[.agg Qz1,oI],pre:=fun _=>True,sem:=fun|[s,a,b,c,d,z,x,y,w,s',a',b',c',d',z',x',y',w']=>Qh6 s a b c d z x y w s' a' b' c' d' z' x' y' w'|_=>[] }
def Qwr:Qn:=(.l 9 .bit (.c .eql (.v 0) (.n 0))
(.split 9
(.l 10 .bit (.eqs [((.v 6),(.n 0)),((.v 7),(.n 0)),((.v 8),(.n 0))])
(.split 10
(xw 0 [.v 1,.v 2,.v 3,.v 4,.v 5] 11 U3
(.ret [.v 11]))
(.ret [.n 0])))
(.l 10 .bit (.c .eql (.v 0) (.n 1))
(.split 10
(.l 11 .bit (.eqs [((.m 1 0),(.n 0)),((.m 1 1),(.n 0)),((.m 1 2),(.n 0)),((.m 1 3),(.n 0)),((.m 1 4),(.n 0)),((.m 1 5),(.n 0)),((.m 2 0),(.n 0)),((.m 2 1),(.n 0)),((.m 2 2),(.n 0)),((.m 2 3),(.n 0)),((.m 2 4),(.n 0)),((.m 2 5),(.n 0)),((.m 3 0),(.n 0)),((.m 3 1),(.n 0)),((.m 3 2),(.n 0)),((.m 3 3),(.n 0)),((.m 3 4),(.n 0)),((.m 3 5),(.n 0)),((.m 4 0),(.n 0)),((.m 4 1),(.n 0)),((.m 4 2),(.n 0)),((.m 4 3),(.n 0)),((.m 4 4),(.n 0)),((.m 4 5),(.n 0)),((.v 5),(.n 0))])
(.split 11
(xw 1 [.v 0,.v 6,.v 7,.v 8] 12 U3
(.ret [.v 12]))
(.ret [.n 0])))
(.l 11 .bit (.c .eql (.v 0) (.n 2))
(.split 11
(.l 12 .bit (.eqs [((.m 1 0),(.n 0)),((.m 1 1),(.n 0)),((.m 1 2),(.n 0)),((.m 1 3),(.n 0)),((.m 1 4),(.n 0)),((.m 1 5),(.n 0)),((.m 2 0),(.n 0)),((.m 2 1),(.n 0)),((.m 2 2),(.n 0)),((.m 2 3),(.n 0)),((.m 2 4),(.n 0)),((.m 2 5),(.n 0)),((.m 3 0),(.n 0)),((.m 3 1),(.n 0)),((.m 3 2),(.n 0)),((.m 3 3),(.n 0)),((.m 3 4),(.n 0)),((.m 3 5),(.n 0)),((.m 4 0),(.n 0)),((.m 4 1),(.n 0)),((.m 4 2),(.n 0)),((.m 4 3),(.n 0)),((.m 4 4),(.n 0)),((.m 4 5),(.n 0)),((.v 5),(.n 0))])
(.split 12
(xw 1 [.v 0,.v 6,.v 7,.v 8] 13 U3
(.ret [.v 13]))
(.ret [.n 0])))
(.ret [.n 0])))))))
theorem Qyq(f1 f2 f:FuncId)(e:Nat->Int)(hk:Qy [.int .i64,.num,.num,.num,.num,.bit,.int .u64,.int .u64,.bit] [e 0,e 1,e 2,e 3,e 4,e 5,e 6,e 7,e 8]):Qwr.Xij [Zjc f1,Zes f2] ⟨fun ys=>ys=(Qdw f).sem [e 0,e 1,e 2,e 3,e 4,e 5,e 6,e 7,e 8],[]⟩ e:=by
 obtain⟨_,u1,u2,u3,u4,_⟩:=hk;show Qwr.Xij _ ⟨fun ys=>ys=[bj (Up (e 0) (e 1) (e 2) (e 3) (e 4) (e 5) (e 6) (e 7) (e 8))],[]⟩ e;intro a9 _;have b9:=Zi a9;simp only[Qm,Qp]at b9;refine⟨fun h9=>?_,fun h9=>?_⟩
 ·have e0:e 0=0:=Zc b9 h9;intro a10 _;have b10:=Xf0 a10;refine⟨fun h10=>⟨trivial,fun a11 _=>?_⟩,fun h10=>?_⟩
  ·have v11:e 11=bj (Qzb (e 1) (e 2) (e 3) (e 4) (e 5)):=a11;show[e 11]=_;rw[v11];exact congrArg (fun x=>[x]) (W8 ⟨fun h=>.inl ⟨e0,Zc b10 h10,h⟩,fun h=>(Qhi h e0).2⟩)
  ·show[(0:Int)]=_;rw[Jf (fun h=>Xf b10 h10 (Qhi h e0).1)]
 ·have n0:¬e 0=0:=Xf b9 h9;have key:∀(v:Int),Je (e 0)->v=bj (Je (e 0)/\inP (pL (e 0)) (Xr (e 0)) (e 6) (e 7) (e 8))->((e 1=0/\e 2=0)/\(e 3=0/\e 4=0)/\e 5=0)->[v]=[bj (Up (e 0) (e 1) (e 2) (e 3) (e 4) (e 5) (e 6) (e 7) (e 8))]:=fun v hl hv hz=>by
   rw[hv];exact congrArg (fun x=>[x]) (W8 ⟨fun h=>.inr ⟨hl,hz,h.2⟩,fun h=>⟨hl,(Qd0 h n0).2.2⟩⟩)
  have none:¬((e 1=0/\e 2=0)/\(e 3=0/\e 4=0)/\e 5=0)->[(0:Int)]=[bj (Up (e 0) (e 1) (e 2) (e 3) (e 4) (e 5) (e 6) (e 7) (e 8))]:=fun hz=>by
   rw[Jf (fun h=>hz (Qd0 h n0).2.1)]
  intro a10 _;have b10:=Zi a10;simp only[Qm,Qp]at b10;refine⟨fun h10=>?_,fun h10=>?_⟩
  ·intro a11 _;have b11:=Xdq a11 u1 u2 u3 u4;exact⟨fun h11=>⟨trivial,fun a12 _=>key _ (.inl (Zc b10 h10)) a12 (Zc b11 h11)⟩,fun h11=>none (Xf b11 h11)⟩
  ·intro a11 _;have b11:=Zi a11;simp only[Qm,Qp]at b11;refine⟨fun h11=>?_,fun h11=>?_⟩
   ·intro a12 _;have b12:=Xdq a12 u1 u2 u3 u4;exact⟨fun h12=>⟨trivial,fun a13 _=>key _ (.inr (Zc b11 h11)) a13 (Zc b12 h12)⟩,fun h12=>none (Xf b12 h12)⟩
   ·show[(0:Int)]=_;rw[Jf (fun h=>by
     rcases(Qd0 h n0).1 with h1|h1
     ·exact Xf b10 h10 h1
     ·exact Xf b11 h11 h1)]
theorem Zed(P:J E2):∃a b c d z,Wc P=[a,b,c,d,z]:=⟨_,_,_,_,_,Jp P⟩
def Zcw:Qn:=(xw 0 [.v 0,.v 1,.v 2,.v 3,.v 4,.v 5,.v 6,.v 7,.v 8] 10 U3
(.l 11 .bit (.not (.v 10))
(.split 11
(.ret [.n 0,.n 0,.n 0,.n 0,.n 0,.n 0,.n 0,.n 0,.n 0,.n 5])
(.l 540 .bit (.c .neq (.v 0) (.v 0))
(.split 540
(.ret [.n 0,.n 0,.n 0,.n 0,.n 0,.n 0,.n 0,.n 0,.n 0,.n 2])
(xw 1 [.v 0] 876 Q7
(xw 2 [.v 9,.v 876] 924 qoa
(.l 972 .bit (.c .geq (.v 924) (.n 0))
(.split 972
(.ret [.n 0,.n 0,.n 0,.n 0,.n 0,.n 0,.n 0,.n 0,.n 0,.n 2])
(.l 1068 .bit (.c .eql (.v 0) (.n 0))
(.split 1068
(xw 3 [.v 1,.v 2,.v 3,.v 4,.v 5,.v 9] 1069 qda
(.ret [.v 0,.v 1069,.v 1070,.v 1071,.v 1072,.v 1073,.n 0,.n 0,.n 0,.n 0]))
(xw 4 [.v 0,.v 6,.v 7,.v 8,.m 9 0] 1069 qqa
(.ret [.v 0,.n 0,.n 0,.n 0,.n 0,.n 0,.v 1069,.v 1070,.v 1071,.n 0])))))))))))))
theorem Qx0(f1 f2 f3 f4 f5 f:FuncId)(e:Nat->Int)(hk:Qy [.int .i64,.num,.num,.num,.num,.bit,.int .u64,.int .u64,.bit,.num] [e 0,e 1,e 2,e 3,e 4,e 5,e 6,e 7,e 8,e 9]):Zcw.Xij [Qdw f1,Wl f2,Yj f3,V7 f4,Qb9 f5] ⟨fun ys=>ys=(Qkx f).sem [e 0,e 1,e 2,e 3,e 4,e 5,e 6,e 7,e 8,e 9],[]⟩ e:=by
 have h9:0<=e 9:=hk.2.2.2.2.2.2.2.2.2.1.1;show Zcw.Xij _ ⟨fun ys=>ys=Qiv (e 0) (e 1) (e 2) (e 3) (e 4) (e 5) (e 6) (e 7) (e 8) (e 9),[]⟩ e;unfold Qiv;refine⟨trivial,fun a10 _ a11 _=>?_⟩;have v10:e 10=bj (Up (e 0) (e 1) (e 2) (e 3) (e 4) (e 5) (e 6) (e 7) (e 8)):=a10;have b11:=Z6 a11;simp only[Qm]at b11;refine⟨fun h=>?_,fun h=>?_⟩
 ·rw[if_pos (Qak v10 (Zc b11 h))];rfl
 have hok:=Vl v10 (Xf b11 h);have hs:=Zbh hok;rw[if_neg (fun hc=>hc hok)];intro a540 _;have b540:=Qaj a540;simp only[Qm]at b540;refine⟨fun h=>by
  rcases b540 with⟨_,k⟩|⟨k,_⟩
  ·exact absurd trivial k
  ·exact absurd k h,fun _=>⟨hs,fun a876 _=>⟨trivial,fun a924 _ a972 _=>?_⟩⟩⟩
 have v876:e 876=Xr (e 0):=a876;have v924:e 924<0↔e 9<e 876:=Ug a924;have b972:=Bt a972;simp only[Qm,Qp]at b972;refine⟨fun h=>?_,fun h=>?_⟩
 ·have hn:¬e 9<Xr (e 0):=by rw[<- v876,<- v924];omega
  rw[if_pos hn];rfl
 have hn:e 9<Xr (e 0):=by rw[<- v876,<- v924];omega
 rw[if_neg (fun hc=>hc hn)];intro a1068 _;have b1068:=Zi a1068;simp only[Qm,Qp]at b1068;refine⟨fun h=>?_,fun h=>?_⟩
 ·have e0:e 0=0:=Zc b1068 h;have hg:=(Qhi hok e0).2.1;refine⟨hg,fun a1 _ a2 _ a3 _ a4 _ a5 _ a6 _=>?_⟩;rw[if_pos e0];show[e 0,e 1069,e 1070,e 1071,e 1072,e 1073,0,0,0,0]=_;obtain⟨A,B,C,D,Z,hl⟩:=Zed (Xd R2 (Ja (e 1) (e 2) (e 3) (e 4) (e 5)) 384 (e 9).toNat);have sm:(V7 f4).sem [e 1,e 2,e 3,e 4,e 5,e 9]=[A,B,C,D,Z,0]:=by
   show Wc (Xd R2 (Ja (e 1) (e 2) (e 3) (e 4) (e 5)) 384 (e 9).toNat)++[0]=_;rw[hl];rfl
  rw[show e 1069=((V7 f4).sem [e 1,e 2,e 3,e 4,e 5,e 9]).getD 0 0 from a1,show e 1070=((V7 f4).sem [e 1,e 2,e 3,e 4,e 5,e 9]).getD 1 0 from a2,show e 1071=((V7 f4).sem [e 1,e 2,e 3,e 4,e 5,e 9]).getD 2 0 from a3,show e 1072=((V7 f4).sem [e 1,e 2,e 3,e 4,e 5,e 9]).getD 3 0 from a4,show e 1073=((V7 f4).sem [e 1,e 2,e 3,e 4,e 5,e 9]).getD 4 0 from a5,sm,hl,e0];rfl
 ·have n0:¬e 0=0:=Xf b1068 h;obtain⟨hl,_,hin⟩:=Qd0 hok n0;refine⟨⟨hl,hin.1⟩,fun a1 _ a2 _ a3 _ a4 _=>?_⟩;rw[if_neg n0];show[e 0,0,0,0,0,0,e 1069,e 1070,e 1071,0]=_;have sm:(Qb9 f5).sem [e 0,e 6,e 7,e 8,Q0 (e 9) 0]=(Zs (pL (e 0)) ⟨e 6,e 7,e 8⟩ 64 (e 9).toNat).l++[0]:=by
   show(Zs (pL (e 0)) ⟨e 6,e 7,e 8⟩ 64 (Q0 (e 9) 0).toNat).l++[0]=_;rw[Xf1 h9 (by have:=Qnb hl;omega)]
  rw[show e 1069=((Qb9 f5).sem [e 0,e 6,e 7,e 8,Q0 (e 9) 0]).getD 0 0 from a1,show e 1070=((Qb9 f5).sem [e 0,e 6,e 7,e 8,Q0 (e 9) 0]).getD 1 0 from a2,show e 1071=((Qb9 f5).sem [e 0,e 6,e 7,e 8,Q0 (e 9) 0]).getD 2 0 from a3,sm];rfl
def Ze1:Qn:=(xw 0 [.v 0,.v 1,.v 2,.v 3,.v 4,.v 5,.v 6,.v 7,.v 8] 18 U3
(.l 19 .bit (.not (.v 18))
(.split 19
(.ret [.n 0,.n 0,.n 0,.n 0,.n 0,.n 0,.n 0,.n 0,.n 0,.n 5])
(xw 0 [.v 9,.v 10,.v 11,.v 12,.v 13,.v 14,.v 15,.v 16,.v 17] 20 U3
(.l 21 .bit (.not (.v 20))
(.split 21
(.ret [.n 0,.n 0,.n 0,.n 0,.n 0,.n 0,.n 0,.n 0,.n 0,.n 5])
(.l 550 .bit (.c .neq (.v 0) (.v 9))
(.split 550
(.ret [.n 0,.n 0,.n 0,.n 0,.n 0,.n 0,.n 0,.n 0,.n 0,.n 2])
(xw 1 [.v 0] 886 Q7
(xw 2 [.n 0,.v 886] 934 qoa
(.l 982 .bit (.c .geq (.v 934) (.n 0))
(.split 982
(.ret [.n 0,.n 0,.n 0,.n 0,.n 0,.n 0,.n 0,.n 0,.n 0,.n 2])
(.l 1078 .bit (.c .eql (.v 0) (.n 0))
(.split 1078
(xw 3 [.v 1,.v 2,.v 3,.v 4,.v 5,.v 10,.v 11,.v 12,.v 13,.v 14] 1079 qda
(.ret [.v 0,.v 1079,.v 1080,.v 1081,.v 1082,.v 1083,.n 0,.n 0,.n 0,.n 0]))
(xw 4 [.v 0,.v 6,.v 7,.v 8,.v 15,.v 16,.v 17] 1079 qqa
(.ret [.v 0,.n 0,.n 0,.n 0,.n 0,.n 0,.v 1079,.v 1080,.v 1081,.n 0]))))))))))))))))
theorem Qzi(f1 f2 f3 f4 f5 f:FuncId)(e:Nat->Int):Ze1.Xij [Qdw f1,Wl f2,Yj f3,Qdl f4,Qoc f5] ⟨fun ys=>ys=(Qkk f).sem [e 0,e 1,e 2,e 3,e 4,e 5,e 6,e 7,e 8,e 9,e 10,e 11,e 12,e 13,e 14,e 15,e 16,e 17],[]⟩ e:=by
 show Ze1.Xij _ ⟨fun ys=>ys=Qh6 (e 0) (e 1) (e 2) (e 3) (e 4) (e 5) (e 6) (e 7) (e 8) (e 9) (e 10) (e 11) (e 12) (e 13) (e 14) (e 15) (e 16) (e 17),[]⟩ e;unfold Qh6;refine⟨trivial,fun a18 _ a19 _=>?_⟩;have v18:e 18=bj (Up (e 0) (e 1) (e 2) (e 3) (e 4) (e 5) (e 6) (e 7) (e 8)):=a18;have b19:=Z6 a19;simp only[Qm]at b19;refine⟨fun h=>?_,fun h=>?_⟩
 ·rw[if_pos (.inl (Qak v18 (Zc b19 h)))];rfl
 have hok:=Vl v18 (Xf b19 h);refine⟨trivial,fun a20 _ a21 _=>?_⟩;have v20:e 20=bj (Up (e 9) (e 10) (e 11) (e 12) (e 13) (e 14) (e 15) (e 16) (e 17)):=a20;have b21:=Z6 a21;simp only[Qm]at b21;refine⟨fun h=>?_,fun h=>?_⟩
 ·rw[if_pos (.inr (Qak v20 (Zc b21 h)))];rfl
 have hok':=Vl v20 (Xf b21 h);have hs:=Zbh hok;rw[if_neg (fun hc=>by rcases hc with hc|hc;exact hc hok;exact hc hok')];intro a550 _;have b550:=Qaj a550;simp only[Qm]at b550;refine⟨fun h=>?_,fun h=>?_⟩
 ·rw[if_pos (show e 0≠e 9 by omega)];rfl
 have hss:e 0=e 9:=by omega
 rw[if_neg (fun hc=>hc hss)];refine⟨hs,fun a886 _=>⟨trivial,fun a934 _ a982 _=>?_⟩⟩;have v886:e 886=Xr (e 0):=a886;have v934:e 934<0↔0<e 886:=Ug a934;have b982:=Bt a982;simp only[Qm,Qp]at b982;have hr0:=Vv (e 0);refine⟨fun h=>by omega,fun _=>?_⟩;intro a1078 _;have b1078:=Zi a1078;simp only[Qm,Qp]at b1078;refine⟨fun h=>?_,fun h=>?_⟩
 ·have e0:e 0=0:=Zc b1078 h;have hg:=(Qhi hok e0).2.1;have hg':=(Qhi hok' (by omega)).2.1;refine⟨⟨hg,hg'⟩,fun a1 _ a2 _ a3 _ a4 _ a5 _ a6 _=>?_⟩;rw[if_pos e0];show[e 0,e 1079,e 1080,e 1081,e 1082,e 1083,0,0,0,0]=_;obtain⟨A,B,C,D,Z,hl⟩:=Zed (Xb R2 (Ja (e 1) (e 2) (e 3) (e 4) (e 5)) (Ja (e 10) (e 11) (e 12) (e 13) (e 14)));have sm:(Qdl f4).sem [e 1,e 2,e 3,e 4,e 5,e 10,e 11,e 12,e 13,e 14]=[A,B,C,D,Z,0]:=by
   show Wc (Xb R2 (Ja (e 1) (e 2) (e 3) (e 4) (e 5)) (Ja (e 10) (e 11) (e 12) (e 13) (e 14)))++[0]=_;rw[hl];rfl
  rw[show e 1079=((Qdl f4).sem [e 1,e 2,e 3,e 4,e 5,e 10,e 11,e 12,e 13,e 14]).getD 0 0 from a1,show e 1080=((Qdl f4).sem [e 1,e 2,e 3,e 4,e 5,e 10,e 11,e 12,e 13,e 14]).getD 1 0 from a2,show e 1081=((Qdl f4).sem [e 1,e 2,e 3,e 4,e 5,e 10,e 11,e 12,e 13,e 14]).getD 2 0 from a3,show e 1082=((Qdl f4).sem [e 1,e 2,e 3,e 4,e 5,e 10,e 11,e 12,e 13,e 14]).getD 3 0 from a4,show e 1083=((Qdl f4).sem [e 1,e 2,e 3,e 4,e 5,e 10,e 11,e 12,e 13,e 14]).getD 4 0 from a5,sm,hl,e0];rfl
 ·have n0:¬e 0=0:=Xf b1078 h;obtain⟨hl,_,hin⟩:=Qd0 hok n0;have hin':=(Qd0 hok' (by omega)).2.2;rw[<- hss]at hin';refine⟨⟨hl,hin.1,hin'.1⟩,fun a1 _ a2 _ a3 _ a4 _=>?_⟩;rw[if_neg n0];show[e 0,0,0,0,0,0,e 1079,e 1080,e 1081,0]=_;rw[show e 1079=_ from a1,show e 1080=_ from a2,show e 1081=_ from a3];rfl
end Go.Sx


namespace Go.Sx
theorem Qad:Xj.toNat<2^384:=by decide +kernel
theorem Zfi:0<Xj:=by decide
theorem Zcg{t:T1}(h:Zgm t):inG t.1 t.2.1 t.2.2↔G1.In Xj.toNat t:=by
 obtain⟨B,j,m⟩:=Qwq ph1 ns1 (Qsn h) (Qm4 h) 384 Xj.toNat Qad;have hz:(Xd R1 (rsV t.1 t.2.1 t.2.2) 384 Xj.toNat).z%bP=0↔B=.O:=by
  constructor
  ·intro hc;cases B with
   |O=>rfl
   |P x y=>exact absurd (Qoq.2 hc) j.1
  ·intro hc;subst hc;exact Qoq.1 j
 constructor
 ·intro hg;have:=hz.1 hg.2;subst this;exact⟨h,m⟩
 ·intro hg;refine⟨h.2.2,hz.2 (J4 m hg.2)⟩
theorem Zb6{t:T2}(h:Qh8 t):Qzb t.1.1 t.1.2 t.2.1.1 t.2.1.2 t.2.2↔G2.In Xj.toNat t:=by
 obtain⟨B,j,m⟩:=Qwq ph2 ns2 (Qq7 h) (Qlg h) 384 Xj.toNat Qad;have hz:R2.isz (Xd R2 (Ja t.1.1 t.1.2 t.2.1.1 t.2.1.2 t.2.2) 384 Xj.toNat).z=true↔B=.O:=by
  constructor
  ·intro hc;cases B with
   |O=>rfl
   |P x y=>exact absurd (Qk5.2 hc) j.1
  ·intro hc;subst hc;exact Qk5.1 j
 constructor
 ·intro hg;have:=hz.1 hg.2;subst this;exact⟨h,m⟩
 ·intro hg;exact⟨h.2.2,hz.2 (J4 m hg.2)⟩
theorem Qkf{p r:Int}(hp:prP p)(hr:r.toNat<2^64){t:Pt}(h:onL p t):inP p r t.x t.y t.z↔@Gp.In Pt (Zp p) (fdP hp) 64 (GL hp) r.toNat t:=by
 letI:=fdP hp;obtain⟨o,m⟩:=Qr1 hp h 64 r.toNat hr;have hz:(Zs p t 64 r.toNat).z≠0↔ptL p (Zs p t 64 r.toNat)=.O:=by
  unfold ptL;constructor
  ·intro hc;rw[if_neg hc]
  ·intro hc hz;rw[if_pos hz]at hc;cases hc
 constructor
 ·intro hg;have hm:Ml 1 0 r.toNat (ptL p t) (ptL p (Zs p t 64 r.toNat)):=m;rw[hz.1 hg.2]at hm;exact⟨h,hm⟩
 ·intro hg;exact⟨h.1,hz.2 (J4 m hg.2)⟩
theorem Qcb{s:Int}(h:Je s):(Xr s).toNat<2^64:=by have:=Qnb h;omega
structure Ky where
 s:Int
 t:T1
 l:Pt
def Ky.L(k:Ky):List Int:=[k.s,k.t.1,k.t.2.1,k.t.2.2,k.l.x,k.l.y,k.l.z]
def Ky.ok(k:Ky):Prop:=Y4 k.s k.t.1 k.t.2.1 k.t.2.2 k.l.x k.l.y k.l.z
def Ky.rg(k:Ky):Prop:=((0<=k.t.1/\0<=k.t.2.1)/\0<=k.t.2.2/\k.t.2.2<=1)/\(0<=k.l.x/\0<=k.l.y)/\0<=k.l.z/\k.l.z<=1
def Ky.Is(k:Ky):Prop:=(k.s=0/\k.l=⟨0,0,0⟩/\G1.In Xj.toNat k.t)∨∃h:Je k.s,k.t=(0,0,0)/\@Gp.In Pt (Zp (pL k.s)) (fdP (Yh h)) 64 (GL (Yh h)) (Xr k.s).toNat k.l
theorem Zmr{z:Int}(h:z=0∨z=1):0<=z/\z<=1:=by omega
theorem Qsv{z:Int}(h:0<=z/\z<=1):z=0∨z=1:=by omega
theorem Ky.Xjm{k:Ky}(h:k.ok)(hr:k.rg):k.Is:=by
 obtain⟨s,⟨x,y,z⟩,⟨lx,ly,lz⟩⟩:=k;rcases h with⟨h1,⟨q1,q2,q3⟩,hg⟩|⟨h1,⟨q1,q2,q3⟩,hg⟩
 ·refine .inl ⟨h1,?_,?_⟩
  ·show(⟨lx,ly,lz⟩:Pt)=_;have q1:lx=0:=q1;have q2:ly=0:=q2;have q3:lz=0:=q3;rw[q1,q2,q3]
  ·exact(Zcg (t:=(x,y,z)) ⟨hr.1.1,Qsv hr.1.2,hg.1⟩).1 hg
 ·refine .inr ⟨h1,?_,?_⟩
  ·show((x,y,z):T1)=_;have q1:x=0:=q1;have q2:y=0:=q2;have q3:z=0:=q3;rw[q1,q2,q3]
  ·exact(Qkf (t:=⟨lx,ly,lz⟩) (Yh h1) (Qcb h1) ⟨hg.1,hr.2.1,Qsv hr.2.2⟩).1 hg
theorem Ky.Xi9{k:Ky}(h:k.Is):k.ok/\k.rg:=by
 obtain⟨s,⟨x,y,z⟩,⟨lx,ly,lz⟩⟩:=k;rcases h with⟨h1,h2,h3⟩|⟨h1,h2,h3⟩
 ·injection h2 with q1 q2 q3;have c:=h3.1;refine⟨.inl ⟨h1,⟨q1,q2,q3⟩,(Zcg h3.1).2 h3⟩,⟨c.1,Zmr c.2.1⟩,?_⟩;show(0<=lx/\0<=ly)/\0<=lz/\lz<=1;rw[q1,q2,q3];decide
 ·have c:onL (pL s) ⟨lx,ly,lz⟩:=h3.1;refine⟨.inr ⟨h1,?_,(Qkf (Yh h1) (Qcb h1) c).2 h3⟩,?_,c.2.1,?_⟩
  ·have h2:((x,y,z):T1)=(0,0,0):=h2;injection h2 with q1 q2;injection q2 with q2 q3;exact⟨q1,q2,q3⟩
  ·have h2:((x,y,z):T1)=(0,0,0):=h2;injection h2 with q1 q2;injection q2 with q2 q3;show(0<=x/\0<=y)/\0<=z/\z<=1;rw[q1,q2,q3];decide
  ·have h4:=c.2.2;have h4:lz=0∨lz=1:=h4;show 0<=lz/\lz<=1;omega
def Ky.add(k k':Ky):Ky:=if k.s=0 then⟨0,G1.add k.t k'.t,⟨0,0,0⟩⟩else⟨k.s,(0,0,0),Xv (pL k.s) k.l k'.l⟩
def Ky.mul(k:Ky)(n:Nat):Ky:=if k.s=0 then⟨0,G1.mul k.t n,⟨0,0,0⟩⟩else⟨k.s,(0,0,0),Zs (pL k.s) k.l 64 n⟩
def Ky.neg(k:Ky):Ky:=if k.s=0 then⟨0,G1.neg k.t,⟨0,0,0⟩⟩else⟨k.s,(0,0,0),⟨k.l.x,(-k.l.y)%pL k.s,k.l.z⟩⟩
theorem Zn8{k k':Ky}(h:k.ok)(h':k'.ok)(hs:k.s=k'.s):Vu k.s k.t.1 k.t.2.1 k.t.2.2 k.l.x k.l.y k.l.z k'.s k'.t.1 k'.t.2.1 k'.t.2.2 k'.l.x k'.l.y k'.l.z=(k.add k').L++[0]:=by
 unfold Vu Ky.add;rw[if_neg (fun hc=>hc.elim (fun c=>c h) (fun c=>c h')),if_neg (fun hc=>hc hs)];by_cases h0:k.s=0
 ·rw[if_pos h0,if_pos h0];rfl
 ·rw[if_neg h0,if_neg h0];rfl
theorem Znj{k:Ky}(h:k.ok){n:Int}(hn:n<Xr k.s):Vs k.s k.t.1 k.t.2.1 k.t.2.2 k.l.x k.l.y k.l.z n=(k.mul n.toNat).L++[0]:=by
 unfold Vs Ky.mul;rw[if_neg (fun hc=>hc h),if_neg (fun hc=>hc hn)];by_cases h0:k.s=0
 ·rw[if_pos h0,if_pos h0];rfl
 ·rw[if_neg h0,if_neg h0];rfl
theorem Zjv{k:Ky}(h:k.ok):Vz k.s k.t.1 k.t.2.1 k.t.2.2 k.l.x k.l.y k.l.z=k.neg.L++[0]:=by
 unfold Vz Ky.neg;rw[if_neg (fun hc=>hc h)];by_cases h0:k.s=0
 ·rw[if_pos h0,if_pos h0];rfl
 ·rw[if_neg h0,if_neg h0];rfl
theorem Zdg{s:Int}(h:s=0):Xr s=Xj:=if_pos h
theorem Uy{n r:Int}(hr:0<r)(hn:n<r):n.toNat<r.toNat:=by omega
theorem Xe{s:Int}(h:Je s):¬s=0:=by rcases h with h|h <;> omega
section
variable {k k':Ky}
theorem Ky.Xjv(h:k.Is):(k.add k').s=k.s:=by
 unfold Ky.add;by_cases h0:k.s=0
 ·rw[if_pos h0];exact h0.symm
 ·rw[if_neg h0]
theorem Ky.Xjh(h:k.Is)(n:Nat):(k.mul n).s=k.s:=by
 unfold Ky.mul;by_cases h0:k.s=0
 ·rw[if_pos h0];exact h0.symm
 ·rw[if_neg h0]
theorem Ky.Xjo(h:k.Is)(h':k'.Is)(hs:k.s=k'.s):(k.add k').Is:=by
 unfold Ky.add;rcases h with⟨h1,h2,h3⟩|⟨h1,h2,h3⟩
 ·rw[if_pos h1];rcases h' with⟨h1',h2',h3'⟩|⟨h1',_,_⟩
  ·exact .inl ⟨rfl,rfl,G1.in_add h3 h3'⟩
  ·exact absurd (hs.symm.trans h1) (Xe h1')
 ·rw[if_neg (Xe h1)];rcases h' with⟨h1',_,_⟩|⟨h1',h2',h3'⟩
  ·exact absurd (hs.trans h1') (Xe h1)
  ·obtain⟨s,t,l⟩:=k;obtain⟨s',t',l'⟩:=k';have hs:s=s':=hs;subst hs;letI:=fdP (Yh h1);exact .inr ⟨h1,rfl,(GL (Yh h1)).in_add h3 h3'⟩
theorem Ky.Xi4(h:k.Is){n:Int}(hn:n<Xr k.s):(k.mul n.toNat).Is:=by
 unfold Ky.mul;rcases h with⟨h1,h2,h3⟩|⟨h1,h2,h3⟩
 ·rw[if_pos h1];rw[Zdg h1]at hn;exact .inl ⟨rfl,rfl,G1.in_mul (Ko (Uy Zfi hn) Qad) h3⟩
 ·rw[if_neg (Xe h1)];letI:=fdP (Yh h1);exact .inr ⟨h1,rfl,(GL (Yh h1)).in_mul (Ko (Uy (Vv _) hn) (Qcb h1)) h3⟩
theorem Ky.Xjw(h:k.Is):k.neg.Is:=by
 unfold Ky.neg;rcases h with⟨h1,h2,h3⟩|⟨h1,h2,h3⟩
 ·rw[if_pos h1];exact .inl ⟨rfl,rfl,G1.in_neg h3⟩
 ·rw[if_neg (Xe h1)];letI:=fdP (Yh h1);exact .inr ⟨h1,rfl,(GL (Yh h1)).in_neg h3⟩
theorem Ky.add_comm(h:k.Is)(h':k'.Is)(hs:k.s=k'.s):k.add k'=k'.add k:=by
 unfold Ky.add;rcases h with⟨h1,h2,h3⟩|⟨h1,h2,h3⟩
 ·rw[if_pos h1,if_pos (hs.symm.trans h1)];rcases h' with⟨h1',h2',h3'⟩|⟨h1',_,_⟩
  ·rw[G1.comm h3.1 h3'.1]
  ·exact absurd (hs.symm.trans h1) (Xe h1')
 ·rw[if_neg (Xe h1),if_neg (fun hc=>Xe h1 (hs.trans hc))];rcases h' with⟨h1',_,_⟩|⟨h1',h2',h3'⟩
  ·exact absurd (hs.trans h1') (Xe h1)
  ·obtain⟨s,t,l⟩:=k;obtain⟨s',t',l'⟩:=k';have hs:s=s':=hs;subst hs;letI:=fdP (Yh h1);have:=(GL (Yh h1)).comm h3.1 h3'.1;have:Xv (pL s) l l'=Xv (pL s) l' l:=this;show Ky.mk s (0,0,0) (Xv (pL s) l l')=Ky.mk s (0,0,0) (Xv (pL s) l' l);rw[this]
theorem Ky.mul_add(h:k.Is){m n:Int}(hm:0<=m/\m<Xr k.s)(hn:0<=n/\n<Xr k.s):(k.mul m.toNat).add (k.mul n.toNat)=k.mul ((m+n)%Xr k.s).toNat:=by
 have hr0:=Vv k.s;have e:((m+n)%Xr k.s).toNat=(m.toNat+n.toNat)%(Xr k.s).toNat:=by
  rw[<- Int.toNat_add hm.1 hn.1];exact Int.toNat_emod (by omega) (by omega)
 have lt:((m+n)%Xr k.s).toNat<(Xr k.s).toNat:=by have:=Mt (m+n) hr0;have:=Mr (m+n) (show Xr k.s≠0 by omega);omega
 rw[e]at lt ⊢;rcases h with⟨h1,h2,h3⟩|⟨h1,h2,h3⟩
 ·unfold Ky.mul Ky.add;rw[if_pos h1,if_pos h1,if_pos h1,if_pos rfl];rw[Zdg h1]at *
  show Ky.mk 0 (G1.add (G1.mul k.t m.toNat) (G1.mul k.t n.toNat)) ⟨0,0,0⟩=_;rw[G1.mul_add (Ko (Uy Zfi hm.2) Qad) (Ko (Uy Zfi hn.2) Qad) (Ko lt Qad) h3]
 ·unfold Ky.mul Ky.add;rw[if_neg (Xe h1),if_neg (Xe h1),if_neg (Xe h1)];letI:=fdP (Yh h1);have:=(GL (Yh h1)).mul_add (m:=m.toNat) (n:=n.toNat) (Ko (Uy hr0 hm.2) (Qcb h1)) (Ko (Uy hr0 hn.2) (Qcb h1)) (Ko lt (Qcb h1)) h3;have:Xv (pL k.s) (Zs (pL k.s) k.l 64 m.toNat) (Zs (pL k.s) k.l 64 n.toNat)=Zs (pL k.s) k.l 64 ((m.toNat+n.toNat)%(Xr k.s).toNat):=this;rw[if_neg (show ¬k.s=0 from Xe h1)];show Ky.mk k.s (0,0,0) (Xv (pL k.s) (Zs (pL k.s) k.l 64 m.toNat) (Zs (pL k.s) k.l 64 n.toNat))=_;rw[this]
theorem Ky.back(h:k.Is)(h':k'.Is)(hs:k.s=k'.s):(k.add k').add k.neg=k':=by
 rcases h with⟨h1,h2,h3⟩|⟨h1,h2,h3⟩
 ·rcases h' with⟨h1',h2',h3'⟩|⟨h1',_,_⟩
  ·unfold Ky.add Ky.neg;rw[if_pos h1,if_pos h1,if_pos rfl];show Ky.mk 0 (G1.add (G1.add k.t k'.t) (G1.neg k.t)) ⟨0,0,0⟩=_;rw[G1.back h3.1 h3'.1];obtain⟨s',t',l'⟩:=k';have h1':s'=0:=h1';have h2':l'=⟨0,0,0⟩:=h2';rw[h1',h2']
  ·exact absurd (hs.symm.trans h1) (Xe h1')
 ·rcases h' with⟨h1',_,_⟩|⟨h1',h2',h3'⟩
  ·exact absurd (hs.trans h1') (Xe h1)
  ·obtain⟨s,t,l⟩:=k;obtain⟨s',t',l'⟩:=k';have hs:s=s':=hs;subst hs;have h1:Je s:=h1;unfold Ky.add Ky.neg;letI:=fdP (Yh h1);have:=(GL (Yh h1)).back h3.1 h3'.1;have:Xv (pL s) (Xv (pL s) l l') ⟨l.x,(-l.y)%pL s,l.z⟩=l':=this;simp only[if_neg (Xe h1)];rw[this];have h2':t'=(0,0,0):=h2';rw[h2']
end
end Go.Sx
