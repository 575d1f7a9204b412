/- Part Ho of the proof. -/
import Derived.Test.YtlloonffibabfaaGreatDoorHn
import Derived.Test.YtlloonffibabfaaGreatDoorHi
import Derived.Test.YtlloonffibabfaaGreatDoorHk
import Derived.Test.YtlloonffibabfaaGreatDoorHm
set_option linter.unusedVariables false
set_option linter.unusedSimpArgs false
namespace Go.Sx
open Cr
section
variable {F:Type}[Fd F]{a b:F}
theorem Qgz{x y:F}(h:x + -y=0):x=y:=by
 have:=Yd (a:=neg y) (b:=x) (by rw[add_comm];exact h);rw[this];exact neg_neg _
theorem Zjj{l x1 y1 x2 y2:F}(h1:y1*y1=x1*x1*x1+a*x1+b)(h2:y2*y2=x2*x2*x2+a*x2+b)(hx:x2 + -x1≠0)(hl:l*(x2 + -x1)=y2 + -y1):Ln a b l (y1 + -(l*x1)) x1 x2 (l*l + -x1 + -x2):=by
 have ey2:y2=l*(x2 + -x1)+y1:=by rw[hl];exact PE.same (rho [y1,y2]) (PE.v 1) (PE.v 1 + -PE.v 0+PE.v 0) rfl
 have hb1:b=y1*y1 + -(x1*x1*x1+a*x1):=by rw[h1];exact PE.same (rho [x1*x1*x1+a*x1,b]) (PE.v 1) (PE.v 0+PE.v 1 + -PE.v 0) rfl
 have key:(x2 + -x1)*(l*(y1 + -(l*x1))+l*(y1 + -(l*x1)) + -(a + -(x1*x2+x1*(l*l + -x1 + -x2)+x2*(l*l + -x1 + -x2))))=0:=by
  have e:(x2 + -x1)*(l*(y1 + -(l*x1))+l*(y1 + -(l*x1)) + -(a + -(x1*x2+x1*(l*l + -x1 + -x2)+x2*(l*l + -x1 + -x2))))=((l*(x2 + -x1)+y1)*(l*(x2 + -x1)+y1) + -(x2*x2*x2+a*x2)) + -(y1*y1 + -(x1*x1*x1+a*x1)) :=
   PE.same (rho [l,x1,x2,y1,a]) ((PE.v 2 + -PE.v 1)*(PE.v 0*(PE.v 3 + -(PE.v 0*PE.v 1))+PE.v 0*(PE.v 3 + -(PE.v 0*PE.v 1)) + -(PE.v 4 + -(PE.v 1*PE.v 2+PE.v 1*(PE.v 0*PE.v 0 + -PE.v 1 + -PE.v 2)+PE.v 2*(PE.v 0*PE.v 0 + -PE.v 1 + -PE.v 2))))) (((PE.v 0*(PE.v 2 + -PE.v 1)+PE.v 3)*(PE.v 0*(PE.v 2 + -PE.v 1)+PE.v 3) + -(PE.v 2*PE.v 2*PE.v 2+PE.v 4*PE.v 2)) + -(PE.v 3*PE.v 3 + -(PE.v 1*PE.v 1*PE.v 1+PE.v 4*PE.v 1))) rfl
  rw[e,<- ey2,h2,<- hb1];exact PE.same (rho [x2*x2*x2+a*x2,b]) (PE.v 0+PE.v 1 + -PE.v 0 + -PE.v 1) PE.p0 rfl
 have h1':l*(y1 + -(l*x1))+l*(y1 + -(l*x1))=a + -(x1*x2+x1*(l*l + -x1 + -x2)+x2*(l*l + -x1 + -x2)):=Qgz ((W3 key).resolve_left hx);refine⟨PE.same (rho [l,x1,x2]) (PE.v 0*PE.v 0) (PE.v 1+PE.v 2+(PE.v 0*PE.v 0 + -PE.v 1 + -PE.v 2)) rfl,h1',?_⟩;rw[hb1]
 have e:(y1 + -(l*x1))*(y1 + -(l*x1))=y1*y1 + -(x1*(l*(y1 + -(l*x1))+l*(y1 + -(l*x1)))) + -(x1*x1*(l*l)) :=
  PE.same (rho [l,x1,y1]) ((PE.v 2 + -(PE.v 0*PE.v 1))*(PE.v 2 + -(PE.v 0*PE.v 1))) (PE.v 2*PE.v 2 + -(PE.v 1*(PE.v 0*(PE.v 2 + -(PE.v 0*PE.v 1))+PE.v 0*(PE.v 2 + -(PE.v 0*PE.v 1)))) + -(PE.v 1*PE.v 1*(PE.v 0*PE.v 0))) rfl
 rw[e,h1'];exact PE.same (rho [l,x1,x2,y1,a]) (PE.v 3*PE.v 3 + -(PE.v 1*(PE.v 4 + -(PE.v 1*PE.v 2+PE.v 1*(PE.v 0*PE.v 0 + -PE.v 1 + -PE.v 2)+PE.v 2*(PE.v 0*PE.v 0 + -PE.v 1 + -PE.v 2)))) + -(PE.v 1*PE.v 1*(PE.v 0*PE.v 0))) (PE.v 3*PE.v 3 + -(PE.v 1*PE.v 1*PE.v 1+PE.v 4*PE.v 1)+PE.v 1*PE.v 2*(PE.v 0*PE.v 0 + -PE.v 1 + -PE.v 2)) rfl
theorem Zsw{l x1 y1:F}(h1:y1*y1=x1*x1*x1+a*x1+b)(hl:l*(y1+y1)=x1*x1+x1*x1+x1*x1+a):Ln a b l (y1 + -(l*x1)) x1 x1 (l*l + -x1 + -x1):=by
 have hb1:b=y1*y1 + -(x1*x1*x1+a*x1):=by rw[h1];exact PE.same (rho [x1*x1*x1+a*x1,b]) (PE.v 1) (PE.v 0+PE.v 1 + -PE.v 0) rfl
 have h1':l*(y1 + -(l*x1))+l*(y1 + -(l*x1))=a + -(x1*x1+x1*(l*l + -x1 + -x1)+x1*(l*l + -x1 + -x1)):=by
  have e:l*(y1 + -(l*x1))+l*(y1 + -(l*x1))=l*(y1+y1) + -(x1*(l*l)+x1*(l*l)) :=
   PE.same (rho [l,x1,y1]) (PE.v 0*(PE.v 2 + -(PE.v 0*PE.v 1))+PE.v 0*(PE.v 2 + -(PE.v 0*PE.v 1))) (PE.v 0*(PE.v 2+PE.v 2) + -(PE.v 1*(PE.v 0*PE.v 0)+PE.v 1*(PE.v 0*PE.v 0))) rfl
  rw[e,hl];exact PE.same (rho [l,x1,a]) (PE.v 1*PE.v 1+PE.v 1*PE.v 1+PE.v 1*PE.v 1+PE.v 2 + -(PE.v 1*(PE.v 0*PE.v 0)+PE.v 1*(PE.v 0*PE.v 0))) (PE.v 2 + -(PE.v 1*PE.v 1+PE.v 1*(PE.v 0*PE.v 0 + -PE.v 1 + -PE.v 1)+PE.v 1*(PE.v 0*PE.v 0 + -PE.v 1 + -PE.v 1))) rfl
 refine⟨PE.same (rho [l,x1]) (PE.v 0*PE.v 0) (PE.v 1+PE.v 1+(PE.v 0*PE.v 0 + -PE.v 1 + -PE.v 1)) rfl,h1',?_⟩;rw[hb1]
 have e:(y1 + -(l*x1))*(y1 + -(l*x1))=y1*y1 + -(x1*(l*(y1 + -(l*x1))+l*(y1 + -(l*x1)))) + -(x1*x1*(l*l)) :=
  PE.same (rho [l,x1,y1]) ((PE.v 2 + -(PE.v 0*PE.v 1))*(PE.v 2 + -(PE.v 0*PE.v 1))) (PE.v 2*PE.v 2 + -(PE.v 1*(PE.v 0*(PE.v 2 + -(PE.v 0*PE.v 1))+PE.v 0*(PE.v 2 + -(PE.v 0*PE.v 1)))) + -(PE.v 1*PE.v 1*(PE.v 0*PE.v 0))) rfl
 rw[e,h1'];exact PE.same (rho [l,x1,y1,a]) (PE.v 2*PE.v 2 + -(PE.v 1*(PE.v 3 + -(PE.v 1*PE.v 1+PE.v 1*(PE.v 0*PE.v 0 + -PE.v 1 + -PE.v 1)+PE.v 1*(PE.v 0*PE.v 0 + -PE.v 1 + -PE.v 1)))) + -(PE.v 1*PE.v 1*(PE.v 0*PE.v 0))) (PE.v 2*PE.v 2 + -(PE.v 1*PE.v 1*PE.v 1+PE.v 3*PE.v 1)+PE.v 1*PE.v 1*(PE.v 0*PE.v 0 + -PE.v 1 + -PE.v 1)) rfl
theorem Zpz{l m x1 x2 x3:F}(h:Ln a b l m x1 x2 x3):(Pn.P x3 (-(l*x3+m))).on a b:=by
 show -(l*x3+m) * -(l*x3+m)=x3*x3*x3+a*x3+b;have e:-(l*x3+m) * -(l*x3+m)=l*l*(x3*x3)+(l*m+l*m)*x3+m*m:=PE.same (rho [l,m,x3]) (-(PE.v 0*PE.v 2+PE.v 1) * -(PE.v 0*PE.v 2+PE.v 1)) (PE.v 0*PE.v 0*(PE.v 2*PE.v 2)+(PE.v 0*PE.v 1+PE.v 0*PE.v 1)*PE.v 2+PE.v 1*PE.v 1) rfl;rw[e,h.h2,h.h1,h.h0];exact PE.same (rho [x1,x2,x3,a,b]) ((PE.v 0+PE.v 1+PE.v 2)*(PE.v 2*PE.v 2)+(PE.v 3 + -(PE.v 0*PE.v 1+PE.v 0*PE.v 2+PE.v 1*PE.v 2))*PE.v 2+(PE.v 4+PE.v 0*PE.v 1*PE.v 2)) (PE.v 2*PE.v 2*PE.v 2+PE.v 3*PE.v 2+PE.v 4) rfl
theorem Qjn{l x1 y1 x2 y2:F}(h1:(Pn.P x1 y1).on a b)(h2:(Pn.P x2 y2).on a b)(hx:x2 + -x1≠0)(hl:l*(x2 + -x1)=y2 + -y1):Sm a b (.P x1 y1) (.P x2 y2) (.P (l*l + -x1 + -x2) (l*(x1 + -(l*l + -x1 + -x2)) + -y1))/\(Pn.P (l*l + -x1 + -x2) (l*(x1 + -(l*l + -x1 + -x2)) + -y1)).on a b:=by
 have h:=Zjj (l:=l) h1 h2 hx hl;have e1:y1=l*x1+(y1 + -(l*x1)):=PE.same (rho [l,x1,y1]) (PE.v 2) (PE.v 0*PE.v 1+(PE.v 2 + -(PE.v 0*PE.v 1))) rfl;have e2:y2=l*x2+(y1 + -(l*x1)):=by
  have e:l*x2+(y1 + -(l*x1))=l*(x2 + -x1)+y1:=PE.same (rho [l,x1,x2,y1]) (PE.v 0*PE.v 2+(PE.v 3 + -(PE.v 0*PE.v 1))) (PE.v 0*(PE.v 2 + -PE.v 1)+PE.v 3) rfl;rw[e,hl];exact PE.same (rho [y1,y2]) (PE.v 1) (PE.v 1 + -PE.v 0+PE.v 0) rfl
 have e3:l*(x1 + -(l*l + -x1 + -x2)) + -y1=-(l*(l*l + -x1 + -x2)+(y1 + -(l*x1))):=PE.same (rho [l,x1,x2,y1]) (PE.v 0*(PE.v 1 + -(PE.v 0*PE.v 0 + -PE.v 1 + -PE.v 2)) + -PE.v 3) (-(PE.v 0*(PE.v 0*PE.v 0 + -PE.v 1 + -PE.v 2)+(PE.v 3 + -(PE.v 0*PE.v 1)))) rfl;rw[e3];refine⟨?_,Zpz h⟩;have:=Sm.ln h;rw[<- e1,<- e2]at this;exact this
theorem Qw7{l x1 y1:F}(h1:(Pn.P x1 y1).on a b)(hl:l*(y1+y1)=x1*x1+x1*x1+x1*x1+a):Sm a b (.P x1 y1) (.P x1 y1) (.P (l*l + -x1 + -x1) (l*(x1 + -(l*l + -x1 + -x1)) + -y1))/\(Pn.P (l*l + -x1 + -x1) (l*(x1 + -(l*l + -x1 + -x1)) + -y1)).on a b:=by
 have h:=Zsw (l:=l) h1 hl;have e1:y1=l*x1+(y1 + -(l*x1)):=PE.same (rho [l,x1,y1]) (PE.v 2) (PE.v 0*PE.v 1+(PE.v 2 + -(PE.v 0*PE.v 1))) rfl;have e3:l*(x1 + -(l*l + -x1 + -x1)) + -y1=-(l*(l*l + -x1 + -x1)+(y1 + -(l*x1))):=PE.same (rho [l,x1,y1]) (PE.v 0*(PE.v 1 + -(PE.v 0*PE.v 0 + -PE.v 1 + -PE.v 1)) + -PE.v 2) (-(PE.v 0*(PE.v 0*PE.v 0 + -PE.v 1 + -PE.v 1)+(PE.v 2 + -(PE.v 0*PE.v 1)))) rfl;rw[e3];refine⟨?_,Zpz h⟩;have:=Sm.ln h;rw[<- e1]at this;exact this
theorem Qzr{x y y':F}(h1:(Pn.P x y).on a b)(h2:(Pn.P x y').on a b)(hn:y' + -y≠0):y'=-y:=by
 have h1:y*y=x*x*x+a*x+b:=h1;have h2:y'*y'=x*x*x+a*x+b:=h2;have e:(y' + -y)*(y'+y)=0:=by
  have e:(y' + -y)*(y'+y)=y'*y' + -(y*y):=PE.same (rho [y,y']) ((PE.v 1 + -PE.v 0)*(PE.v 1+PE.v 0)) (PE.v 1*PE.v 1 + -(PE.v 0*PE.v 0)) rfl;rw[e,h1,h2];exact add_neg _
 exact Yd (by rw[add_comm];exact(W3 e).resolve_left hn)
theorem Qui{y:F}(h:y≠0):y+y≠0:=by
 have:(1+1:F)*y≠0:=Xb Fd.two_ne h;rwa[show(1+1:F)*y=y+y from PE.same (rho [y]) ((PE.p1+PE.p1)*PE.v 0) (PE.v 0+PE.v 0) rfl]at this
end
structure Ph {α F:Type} [Fd F] (R:Rg α) (φ:α->F):Prop where
 add:∀a b,φ (R.add a b)=φ a+φ b
 sub:∀a b,φ (R.sub a b)=φ a + -φ b
 mul:∀a b,φ (R.mul a b)=φ a*φ b
 one:φ R.one=1
 zero:φ R.zero=0
 isz:∀a,R.isz a=true↔φ a=0
 md:∀a,φ (R.md a)=φ a
section
variable {α F:Type}[Fd F]{R:Rg α}{φ:α->F}{b:F}
def Jr(φ:α->F)(P:J α):Pn F->Prop
 |.O=>φ P.z=0
 |.P x y=>φ P.z≠0/\φ P.x=x*(φ P.z*φ P.z)/\φ P.y=y*(φ P.z*φ P.z*φ P.z)
theorem Qs9(H:Ph R φ){P:J α}{A:Pn F}(h:Jr φ P A):Jr φ (J.md R P) A:=by
 cases A with
 |O=>exact(H.md _).trans h
 |P x y =>
  obtain⟨h1,h2,h3⟩:=h;refine⟨?_,?_,?_⟩
  ·show φ (R.md P.z)≠0;rw[H.md];exact h1
  ·show φ (R.md P.x)=x*(φ (R.md P.z)*φ (R.md P.z));rw[H.md,H.md];exact h2
  ·show φ (R.md P.y)=y*(φ (R.md P.z)*φ (R.md P.z)*φ (R.md P.z));rw[H.md,H.md];exact h3
theorem Zjc(H:Ph R φ):Jr φ (oJ R) .O:=H.zero
theorem mz(x:F):x*0=0:=mul_zero x
theorem zm(x:F):0*x=0:=(mul_comm _ _).trans (mul_zero x)
theorem Zex(H:Ph R φ){P:J α}{A:Pn F}(h:Jr φ P A)(hA:A.on 0 b):∃B,Jr φ (Yj R P) B/\Sm 0 b A A B/\B.on 0 b:=by
 have ez:φ (Yj R P).z=φ P.y*φ P.z+φ P.y*φ P.z:=by show φ (R.add (R.mul P.y P.z) (R.mul P.y P.z))=_;rw[H.add,H.mul]
 cases A with
 |O =>
  refine⟨.O,?_,.zl _,trivial⟩;show φ (Yj R P).z=0;rw[ez,show φ P.z=0 from h,mz];exact add_zero _
 |P x y =>
  obtain⟨h1,h2,h3⟩:=h;by_cases hy:y=0
  ·refine⟨.O,?_,?_,trivial⟩
   ·show φ (Yj R P).z=0;rw[ez,h3,hy,zm,zm];exact add_zero _
   ·have:=Sm.opp (a:=0) (b:=b) x y;rw[hy,show -(0:F)=0 from Z0]at this;rw[hy];exact this
  ·obtain⟨i,hi⟩:=Fd.inv_ex _ (Qui hy);have hl:(x*x+x*x+x*x+0)*i*(y+y)=x*x+x*x+x*x+0:=by
    have e:(x*x+x*x+x*x+0)*i*(y+y)=(x*x+x*x+x*x+0)*((y+y)*i):=PE.same (rho [x*x+x*x+x*x+0,i,y]) (PE.v 0*PE.v 1*(PE.v 2+PE.v 2)) (PE.v 0*((PE.v 2+PE.v 2)*PE.v 1)) rfl;rw[e,show(y+y)*i=1 from hi];exact mul_one _
   obtain⟨s1,s2⟩:=Qw7 hA hl;refine⟨_,?_,s1,s2⟩;generalize (x*x+x*x+x*x+0)*i=l at hl ⊢;have hl:l*(y+y)=x*x+x*x+x*x:=by rw[hl];exact add_zero _
   have ex:φ (Yj R P).x=(φ P.x*φ P.x+φ P.x*φ P.x+φ P.x*φ P.x)*(φ P.x*φ P.x+φ P.x*φ P.x+φ P.x*φ P.x) + -((φ P.x*(φ P.y*φ P.y)+φ P.x*(φ P.y*φ P.y))+(φ P.x*(φ P.y*φ P.y)+φ P.x*(φ P.y*φ P.y))+((φ P.x*(φ P.y*φ P.y)+φ P.x*(φ P.y*φ P.y))+(φ P.x*(φ P.y*φ P.y)+φ P.x*(φ P.y*φ P.y)))):=by
    simp only[Yj,H.add,H.sub,H.mul]
   have ey:φ (Yj R P).y=(φ P.x*φ P.x+φ P.x*φ P.x+φ P.x*φ P.x)*((φ P.x*(φ P.y*φ P.y)+φ P.x*(φ P.y*φ P.y))+(φ P.x*(φ P.y*φ P.y)+φ P.x*(φ P.y*φ P.y)) + -φ (Yj R P).x) + -((φ P.y*φ P.y*(φ P.y*φ P.y)+φ P.y*φ P.y*(φ P.y*φ P.y))+(φ P.y*φ P.y*(φ P.y*φ P.y)+φ P.y*φ P.y*(φ P.y*φ P.y))+((φ P.y*φ P.y*(φ P.y*φ P.y)+φ P.y*φ P.y*(φ P.y*φ P.y))+(φ P.y*φ P.y*(φ P.y*φ P.y)+φ P.y*φ P.y*(φ P.y*φ P.y)))):=by
    simp only[Yj,H.add,H.sub,H.mul]
   rw[h2,h3]at ex ey;rw[h3]at ez;generalize φ P.z=z at *
   have ez':φ (Yj R P).z=(y+y)*(z*z*(z*z)):=by
    rw[ez];exact PE.same (rho [y,z]) (PE.v 0*(PE.v 1*PE.v 1*PE.v 1)*PE.v 1+PE.v 0*(PE.v 1*PE.v 1*PE.v 1)*PE.v 1) ((PE.v 0+PE.v 0)*(PE.v 1*PE.v 1*(PE.v 1*PE.v 1))) rfl
   have z2:z*z*(z*z)≠0:=Xb (Xb h1 h1) (Xb h1 h1);have q0:φ (Yj R P).x=(l*l + -x + -x)*(φ (Yj R P).z*φ (Yj R P).z):=by
    rw[ex,ez']
    have e:(l*l + -x + -x)*((y+y)*(z*z*(z*z))*((y+y)*(z*z*(z*z))))=((l*(y+y))*(l*(y+y)) + -((x+x)*((y+y)*(y+y))))*(z*z*(z*z)*(z*z*(z*z))) :=
     PE.same (rho [l,x,y,z]) ((PE.v 0*PE.v 0 + -PE.v 1 + -PE.v 1)*((PE.v 2+PE.v 2)*(PE.v 3*PE.v 3*(PE.v 3*PE.v 3))*((PE.v 2+PE.v 2)*(PE.v 3*PE.v 3*(PE.v 3*PE.v 3))))) (((PE.v 0*(PE.v 2+PE.v 2))*(PE.v 0*(PE.v 2+PE.v 2)) + -((PE.v 1+PE.v 1)*((PE.v 2+PE.v 2)*(PE.v 2+PE.v 2))))*(PE.v 3*PE.v 3*(PE.v 3*PE.v 3)*(PE.v 3*PE.v 3*(PE.v 3*PE.v 3)))) rfl
    rw[e,hl];exact PE.same (rho [x,y,z]) (let X:=PE.v 0*(PE.v 2*PE.v 2);let Y:=PE.v 1*(PE.v 2*PE.v 2*PE.v 2);(X*X+X*X+X*X)*(X*X+X*X+X*X) + -((X*(Y*Y)+X*(Y*Y))+(X*(Y*Y)+X*(Y*Y))+((X*(Y*Y)+X*(Y*Y))+(X*(Y*Y)+X*(Y*Y))))) (((PE.v 0*PE.v 0+PE.v 0*PE.v 0+PE.v 0*PE.v 0)*(PE.v 0*PE.v 0+PE.v 0*PE.v 0+PE.v 0*PE.v 0) + -((PE.v 0+PE.v 0)*((PE.v 1+PE.v 1)*(PE.v 1+PE.v 1))))*(PE.v 2*PE.v 2*(PE.v 2*PE.v 2)*(PE.v 2*PE.v 2*(PE.v 2*PE.v 2)))) rfl
   refine⟨by rw[ez'];exact Xb (Qui hy) z2,q0,?_⟩;rw[ey,q0,ez']
   have e:(l*(x + -(l*l + -x + -x)) + -y)*((y+y)*(z*z*(z*z))*((y+y)*(z*z*(z*z)))*((y+y)*(z*z*(z*z))))=((l*(y+y))*((x + -(l*l + -x + -x))*((y+y)*(z*z*(z*z))*((y+y)*(z*z*(z*z))))) + -(y*((y+y)*(z*z*(z*z))*((y+y)*(z*z*(z*z)))*(y+y))))*(z*z*(z*z)) :=
    PE.same (rho [l,x,y,z]) ((PE.v 0*(PE.v 1 + -(PE.v 0*PE.v 0 + -PE.v 1 + -PE.v 1)) + -PE.v 2)*((PE.v 2+PE.v 2)*(PE.v 3*PE.v 3*(PE.v 3*PE.v 3))*((PE.v 2+PE.v 2)*(PE.v 3*PE.v 3*(PE.v 3*PE.v 3)))*((PE.v 2+PE.v 2)*(PE.v 3*PE.v 3*(PE.v 3*PE.v 3))))) (((PE.v 0*(PE.v 2+PE.v 2))*((PE.v 1 + -(PE.v 0*PE.v 0 + -PE.v 1 + -PE.v 1))*((PE.v 2+PE.v 2)*(PE.v 3*PE.v 3*(PE.v 3*PE.v 3))*((PE.v 2+PE.v 2)*(PE.v 3*PE.v 3*(PE.v 3*PE.v 3))))) + -(PE.v 2*((PE.v 2+PE.v 2)*(PE.v 3*PE.v 3*(PE.v 3*PE.v 3))*((PE.v 2+PE.v 2)*(PE.v 3*PE.v 3*(PE.v 3*PE.v 3)))*(PE.v 2+PE.v 2))))*(PE.v 3*PE.v 3*(PE.v 3*PE.v 3))) rfl
   rw[e,hl];generalize l*l + -x + -x=x3;exact PE.same (rho [x,y,z,x3]) (let X:=PE.v 0*(PE.v 2*PE.v 2);let Y:=PE.v 1*(PE.v 2*PE.v 2*PE.v 2);let Z:=(PE.v 1+PE.v 1)*(PE.v 2*PE.v 2*(PE.v 2*PE.v 2));(X*X+X*X+X*X)*((X*(Y*Y)+X*(Y*Y))+(X*(Y*Y)+X*(Y*Y)) + -(PE.v 3*(Z*Z))) + -((Y*Y*(Y*Y)+Y*Y*(Y*Y))+(Y*Y*(Y*Y)+Y*Y*(Y*Y))+((Y*Y*(Y*Y)+Y*Y*(Y*Y))+(Y*Y*(Y*Y)+Y*Y*(Y*Y))))) (((PE.v 0*PE.v 0+PE.v 0*PE.v 0+PE.v 0*PE.v 0)*((PE.v 0 + -PE.v 3)*((PE.v 1+PE.v 1)*(PE.v 2*PE.v 2*(PE.v 2*PE.v 2))*((PE.v 1+PE.v 1)*(PE.v 2*PE.v 2*(PE.v 2*PE.v 2))))) + -(PE.v 1*((PE.v 1+PE.v 1)*(PE.v 2*PE.v 2*(PE.v 2*PE.v 2))*((PE.v 1+PE.v 1)*(PE.v 2*PE.v 2*(PE.v 2*PE.v 2)))*(PE.v 1+PE.v 1))))*(PE.v 2*PE.v 2*(PE.v 2*PE.v 2))) rfl
end
section
variable {α F:Type}[Fd F]{R:Rg α}{φ:α->F}{b:F}
theorem Qkj(H:Ph R φ){P Q:J α}{A B:Pn F}(h:Jr φ P A)(h':Jr φ Q B)(hA:A.on 0 b)(hB:B.on 0 b):∃C,Jr φ (Wo R P Q) C/\Sm 0 b A B C/\C.on 0 b:=by
 cases A with
 |O=>exact⟨B,by rw[Zav ((H.isz _).2 h)];exact h',.zl _,hB⟩
 |P x1 y1=>cases B with
  |O=>exact⟨.P x1 y1,by rw[Zas (fun hc=>h.1 ((H.isz _).1 hc)) ((H.isz _).2 h')];exact h,.zr _,hA⟩
  |P x2 y2 =>
   have nz1:¬R.isz P.z=true:=fun hc=>h.1 ((H.isz _).1 hc)
   have nz2:¬R.isz Q.z=true:=fun hc=>h'.1 ((H.isz _).1 hc)
   obtain⟨z1,hx1,hy1⟩:=h;obtain⟨z2,hx2,hy2⟩:=h';have eh:φ (hJ R P Q)=(x2 + -x1)*(φ P.z*φ P.z*(φ Q.z*φ Q.z)):=by
    unfold hJ;rw[H.sub,H.mul,H.mul,H.mul,H.mul,hx1,hx2];exact PE.same (rho [x1,x2,φ P.z,φ Q.z]) (PE.v 1*(PE.v 3*PE.v 3)*(PE.v 2*PE.v 2) + -(PE.v 0*(PE.v 2*PE.v 2)*(PE.v 3*PE.v 3))) ((PE.v 1 + -PE.v 0)*(PE.v 2*PE.v 2*(PE.v 3*PE.v 3))) rfl
   have er:φ (rJ R P Q)=(y2 + -y1)*(φ P.z*φ P.z*φ P.z*(φ Q.z*φ Q.z*φ Q.z)):=by
    unfold rJ;rw[H.sub,H.mul,H.mul,H.mul,H.mul,H.mul,H.mul,hy1,hy2];exact PE.same (rho [y1,y2,φ P.z,φ Q.z]) (PE.v 1*(PE.v 3*PE.v 3*PE.v 3)*(PE.v 2*PE.v 2*PE.v 2) + -(PE.v 0*(PE.v 2*PE.v 2*PE.v 2)*(PE.v 3*PE.v 3*PE.v 3))) ((PE.v 1 + -PE.v 0)*(PE.v 2*PE.v 2*PE.v 2*(PE.v 3*PE.v 3*PE.v 3))) rfl
   have z12:φ P.z*φ P.z*(φ Q.z*φ Q.z)≠0:=Xb (Xb z1 z1) (Xb z2 z2);have z13:φ P.z*φ P.z*φ P.z*(φ Q.z*φ Q.z*φ Q.z)≠0:=Xb (Xb (Xb z1 z1) z1) (Xb (Xb z2 z2) z2);by_cases hh:R.isz (hJ R P Q)=true
   ·have h0:(x2 + -x1)*(φ P.z*φ P.z*(φ Q.z*φ Q.z))=0:=by rw[<- eh];exact(H.isz _).1 hh
    have hx:x2=x1:=Qgz ((W3 h0).resolve_right z12);subst hx;by_cases hr:R.isz (rJ R P Q)=true
    ·have h0:(y2 + -y1)*(φ P.z*φ P.z*φ P.z*(φ Q.z*φ Q.z*φ Q.z))=0:=by rw[<- er];exact(H.isz _).1 hr
     have hy:y2=y1:=Qgz ((W3 h0).resolve_right z13);subst hy;rw[Qth nz1 nz2 hh hr];exact Zex H (A:=.P x2 y2) ⟨z1,hx1,hy1⟩ hA
    ·rw[Qsa nz1 nz2 hh hr];have hn:y2 + -y1≠0:=fun h0=>hr ((H.isz _).2 (by rw[er,h0,zm]))
     have hy:=Qzr hA hB hn;subst hy;exact⟨.O,Zjc H,.opp _ _,trivial⟩
   ·rw[Qqv nz1 nz2 hh];have hd:x2 + -x1≠0:=fun h0=>hh ((H.isz _).2 (by rw[eh,h0,zm]))
    obtain⟨i,hi⟩:=Fd.inv_ex _ hd;have hl:(y2 + -y1)*i*(x2 + -x1)=y2 + -y1:=by
     have e:(y2 + -y1)*i*(x2 + -x1)=(y2 + -y1)*((x2 + -x1)*i):=PE.same (rho [y2 + -y1,i,x2 + -x1]) (PE.v 0*PE.v 1*PE.v 2) (PE.v 0*(PE.v 2*PE.v 1)) rfl;rw[e,show(x2 + -x1)*i=1 from hi];exact mul_one _
    obtain⟨s1,s2⟩:=Qjn hA hB hd hl;refine⟨_,?_,s1,s2⟩;generalize (y2 + -y1)*i=l at hl ⊢;have ez:φ (Qht R P Q).z=φ (hJ R P Q)*(φ P.z*φ Q.z):=by
     show φ (R.mul (hJ R P Q) (R.mul P.z Q.z))=_;rw[H.mul,H.mul]
    have ex:φ (Qht R P Q).x=φ (rJ R P Q)*φ (rJ R P Q) + -(φ (hJ R P Q)*φ (hJ R P Q)*φ (hJ R P Q)) + -(φ P.x*(φ Q.z*φ Q.z)*(φ (hJ R P Q)*φ (hJ R P Q))+φ P.x*(φ Q.z*φ Q.z)*(φ (hJ R P Q)*φ (hJ R P Q))):=by
     show φ (R.sub (R.sub (R.mul (rJ R P Q) (rJ R P Q)) (R.mul (R.mul (hJ R P Q) (hJ R P Q)) (hJ R P Q))) (R.add (R.mul (R.mul P.x (R.mul Q.z Q.z)) (R.mul (hJ R P Q) (hJ R P Q))) (R.mul (R.mul P.x (R.mul Q.z Q.z)) (R.mul (hJ R P Q) (hJ R P Q)))))=_;simp only[H.add,H.sub,H.mul]
    have ey:φ (Qht R P Q).y=φ (rJ R P Q)*(φ P.x*(φ Q.z*φ Q.z)*(φ (hJ R P Q)*φ (hJ R P Q)) + -φ (Qht R P Q).x) + -(φ P.y*(φ Q.z*φ Q.z*φ Q.z)*(φ (hJ R P Q)*φ (hJ R P Q)*φ (hJ R P Q))):=by
     show φ (R.sub (R.mul (rJ R P Q) (R.sub (R.mul (R.mul P.x (R.mul Q.z Q.z)) (R.mul (hJ R P Q) (hJ R P Q))) (Qht R P Q).x)) (R.mul (R.mul P.y (R.mul (R.mul Q.z Q.z) Q.z)) (R.mul (R.mul (hJ R P Q) (hJ R P Q)) (hJ R P Q))))=_;simp only[H.sub,H.mul]
    have er':φ (rJ R P Q)=(l*(x2 + -x1))*(φ P.z*φ P.z*φ P.z*(φ Q.z*φ Q.z*φ Q.z)):=by rw[hl];exact er
    rw[eh,er',hx1]at ex;rw[eh,er',hx1,hy1]at ey;rw[eh]at ez;generalize φ P.z=z at *
    generalize φ Q.z=w at *
    have q0:φ (Qht R P Q).x=(l*l + -x1 + -x2)*(φ (Qht R P Q).z*φ (Qht R P Q).z):=by
     rw[ex,ez];exact PE.same (rho [l,x1,x2,z,w]) (let r:=(PE.v 0*(PE.v 2 + -PE.v 1))*(PE.v 3*PE.v 3*PE.v 3*(PE.v 4*PE.v 4*PE.v 4));let h:=(PE.v 2 + -PE.v 1)*(PE.v 3*PE.v 3*(PE.v 4*PE.v 4));let W:=PE.v 1*(PE.v 3*PE.v 3)*(PE.v 4*PE.v 4)*(h*h);r*r + -(h*h*h) + -(W+W)) (let Z:=(PE.v 2 + -PE.v 1)*(PE.v 3*PE.v 3*(PE.v 4*PE.v 4))*(PE.v 3*PE.v 4);(PE.v 0*PE.v 0 + -PE.v 1 + -PE.v 2)*(Z*Z)) rfl
    refine⟨by rw[ez];exact Xb (Xb hd z12) (Xb z1 z2),q0,?_⟩;rw[ey,q0,ez];generalize l*l + -x1 + -x2=x3;exact PE.same (rho [l,x1,x2,z,w,x3,y1]) (let r:=(PE.v 0*(PE.v 2 + -PE.v 1))*(PE.v 3*PE.v 3*PE.v 3*(PE.v 4*PE.v 4*PE.v 4));let h:=(PE.v 2 + -PE.v 1)*(PE.v 3*PE.v 3*(PE.v 4*PE.v 4));let W:=PE.v 1*(PE.v 3*PE.v 3)*(PE.v 4*PE.v 4)*(h*h);let Z:=(PE.v 2 + -PE.v 1)*(PE.v 3*PE.v 3*(PE.v 4*PE.v 4))*(PE.v 3*PE.v 4);r*(W + -(PE.v 5*(Z*Z))) + -(PE.v 6*(PE.v 3*PE.v 3*PE.v 3)*(PE.v 4*PE.v 4*PE.v 4)*(h*h*h))) (let Z:=(PE.v 2 + -PE.v 1)*(PE.v 3*PE.v 3*(PE.v 4*PE.v 4))*(PE.v 3*PE.v 4);(PE.v 0*(PE.v 1 + -PE.v 5) + -PE.v 6)*(Z*Z*Z)) rfl
def Ml(a b:F)(n:Nat)(A B:Pn F):Prop:=Cl a b [B] (List.replicate n A)/\B.on a b
theorem Wt{a:F}{n:Nat}{A B C:Pn F}(h:Ml a b n A B)(h':Ml a b n A C):B=C:=Qf6 (Zn h.1 (Vq h'.1)) h.2 h'.2
theorem Zdj{a:F}(A:Pn F):Ml a b 0 A .O:=⟨Qpp [],trivial⟩
theorem Zd0{a:F}{A:Pn F}(hA:A.on a b):Ml a b 1 A A:=⟨Qxm [A],hA⟩
theorem Qb3{a:F}(ns:NS a b){m n:Nat}{A B C D:Pn F}(h:Ml a b m A B)(h':Ml a b n A C)(s:Sm a b B C D)(hD:D.on a b):Ml a b (m+n) A D:=by
 refine⟨Zn (Vq (Qgi ns s h.2 h'.2 hD)) ?_,hD⟩;rw[<- Hd];exact Zn (Qnx B h'.1) (Zn (Uw (Ks (l₁:=[B]))) (Zn (Qgw _ h.1) (Uw Ks)))
theorem Qg4(H:Ph R φ)(ns:NS 0 b){P:J α}{A:Pn F}(h:Jr φ P A)(hA:A.on 0 b):∀(k n:Nat),n<2^k->∃B,Jr φ (W5 R P k n) B/\Ml 0 b n A B
 |0,n,hn=>by
  have:n=0:=by simpa using hn
  subst this;exact⟨.O,Zjc H,Zdj A⟩
 |k+1,n,hn=>by
  have e1:W5 R P (k+1) n=if n=0 then oJ R else(if n%2=1 then J.md R (Wo R (J.md R (Yj R (W5 R P k (n/2)))) P)else J.md R (Yj R (W5 R P k (n/2)))):=rfl
  rw[e1];by_cases h0:n=0
  ·rw[if_pos h0,h0];exact⟨.O,Zjc H,Zdj A⟩
  ·rw[if_neg h0];obtain⟨B,j1,m1⟩:=Qg4 H ns h hA k (n/2) (by rw[Nat.pow_succ]at hn;omega);obtain⟨C,j2,s2,o2⟩:=Zex H j1 m1.2;have m2:=Qb3 ns m1 m1 s2 o2;by_cases hb:n%2=1
   ·rw[if_pos hb];obtain⟨D,j3,s3,o3⟩:=Qkj H (Qs9 H j2) h o2 hA;have m3:=Qb3 ns m2 (Zd0 hA) s3 o3;rw[show n/2+n/2+1=n by omega]at m3;exact⟨D,Qs9 H j3,m3⟩
   ·rw[if_neg hb];rw[show n/2+n/2=n by omega]at m2;exact⟨C,Qs9 H j2,m2⟩
theorem Zai{a:F}(A B:Pn F)(hA:A.on a b)(hB:B.on a b):∃C,Sm a b A B C/\C.on a b:=by
 cases A with
 |O=>exact⟨B,.zl _,hB⟩
 |P x1 y1=>cases B with
  |O=>exact⟨.P x1 y1,.zr _,hA⟩
  |P x2 y2 =>
   by_cases hx:x2 + -x1=0
   ·have hx:=Qgz hx;subst hx;by_cases hy:y2 + -y1=0
    ·have hy:=Qgz hy;subst hy;by_cases hz:y2=0
     ·subst hz;refine⟨.O,?_,trivial⟩;have:=Sm.opp (a:=a) (b:=b) x2 0;rw[show -(0:F)=0 from Z0]at this;exact this
     ·obtain⟨i,hi⟩:=Fd.inv_ex _ (Qui hz);have hl:(x2*x2+x2*x2+x2*x2+a)*i*(y2+y2)=x2*x2+x2*x2+x2*x2+a:=by
       have e:(x2*x2+x2*x2+x2*x2+a)*i*(y2+y2)=(x2*x2+x2*x2+x2*x2+a)*((y2+y2)*i):=PE.same (rho [x2*x2+x2*x2+x2*x2+a,i,y2]) (PE.v 0*PE.v 1*(PE.v 2+PE.v 2)) (PE.v 0*((PE.v 2+PE.v 2)*PE.v 1)) rfl;rw[e,show(y2+y2)*i=1 from hi];exact mul_one _
      exact⟨_,Qw7 hA hl⟩
    ·have:=Qzr hA hB hy;subst this;exact⟨.O,.opp _ _,trivial⟩
   ·obtain⟨i,hi⟩:=Fd.inv_ex _ hx;have hl:(y2 + -y1)*i*(x2 + -x1)=y2 + -y1:=by
     have e:(y2 + -y1)*i*(x2 + -x1)=(y2 + -y1)*((x2 + -x1)*i):=PE.same (rho [y2 + -y1,i,x2 + -x1]) (PE.v 0*PE.v 1*PE.v 2) (PE.v 0*(PE.v 2*PE.v 1)) rfl;rw[e,show(x2 + -x1)*i=1 from hi];exact mul_one _
    exact⟨_,Qjn hA hB hx hl⟩
theorem Znm{a:F}(ns:NS a b){A B C D:Pn F}(hA:A.on a b)(hB:B.on a b)(hC:C.on a b)(hD:D.on a b)(h:Sm a b A B C)(h':Sm a b A B D):C=D :=
 Qf6 (Zn (Vq (Qgi ns h hA hB hC)) (Qgi ns h' hA hB hD)) hC hD
theorem Qhb{a:F}(ns:NS a b){A:Pn F}(hA:A.on a b):∀n,∃B,Ml a b n A B
 |0=>⟨.O,Zdj A⟩
 |n+1=>by
  obtain⟨B,hB⟩:=Qhb ns hA n;obtain⟨C,s,hC⟩:=Zai B A hB.2 hA;exact⟨C,Qb3 ns hB (Zd0 hA) s hC⟩
theorem Zg7{a:F}{A:Pn F}{L:List (Pn F)}(h:Cl a b [A] L):∀n,Cl a b (List.replicate n A) (List.replicate n L).flatten
 |0=>Qxm []
 |n+1=>by
  show Cl a b (A::List.replicate n A) (L++(List.replicate n L).flatten);exact Zn (Qnx A (Zg7 h n)) (Zn (Uw (Ks (l₁:=[A]))) (Zn (Qgw _ h) (Uw Ks)))
omit [Fd F] in
theorem Qq8(A:Pn F)(m:Nat):∀n,(List.replicate n (List.replicate m A)).flatten=List.replicate (n*m) A
 |0=>by rw[Nat.zero_mul];rfl
 |n+1=>by
  show List.replicate m A++(List.replicate n (List.replicate m A)).flatten=_;rw[Qq8 A m n,Hd,Nat.succ_mul,H2]
theorem Qku{a:F}{m n:Nat}{A B C:Pn F}(h:Ml a b m A B)(h':Ml a b n B C):Ml a b (n*m) A C:=by
 refine⟨Zn h'.1 ?_,h'.2⟩;rw[<- Qq8];exact Zg7 h.1 n
theorem Qvs{a:F}(ns:NS a b){r n:Nat}{A B:Pn F}(h0:Ml a b r A .O)(hA:A.on a b):Ml a b (n%r) A B↔Ml a b n A B:=by
 obtain⟨C,hC⟩:=Qhb ns hA (n%r);have hz:Ml a b (n/r*r) A .O:=by
  obtain⟨Z,hZ⟩:=Qhb (A:=(Pn.O:Pn F)) ns trivial (n/r);have hO:Ml a b (n/r) .O (.O:Pn F):=by
   refine⟨?_,trivial⟩;refine Zn (Qpp []) (Vq ?_);generalize n/r=k
   induction k with
   |zero=>exact Qxm []
   |succ k ih=>exact Zn (Qpp _) ih
  exact Qku h0 hO
 have hD:=Qb3 ns hz hC (.zl C) hC.2;rw[show n/r*r+n%r=n by rw[Nat.mul_comm];exact Nat.div_add_mod n r]at hD;exact⟨fun h=>by rw[Wt h hC];exact hD,fun h=>by rw[Wt h hD];exact hC⟩
end
end Go.Sx
namespace Go.Sx
structure Cong {α:Type} (C:Cr α) (r:α->α->Prop):Prop where
 eqv:Equivalence r
 add:∀ {a b c d},r a b->r c d->r (C.add a c) (C.add b d)
 mul:∀ {a b c d},r a b->r c d->r (C.mul a c) (C.mul b d)
 neg:∀ {a b},r a b->r (C.neg a) (C.neg b)
abbrev Cong.st{α:Type}{C:Cr α}{r:α->α->Prop}(h:Cong C r):Setoid α:=⟨r,h.eqv⟩
@[reducible] def Cong.cr {α:Type} {C:Cr α} {r:α->α->Prop} (h:Cong C r):Cr (Quotient h.st) where
 add:=Quotient.lift₂ (fun a b=>Quotient.mk h.st (C.add a b)) fun a b c d hac hbd=>Quotient.sound (h.add hac hbd)
 mul:=Quotient.lift₂ (fun a b=>Quotient.mk h.st (C.mul a b)) fun a b c d hac hbd=>Quotient.sound (h.mul hac hbd)
 neg:=Quotient.lift (fun a=>Quotient.mk h.st (C.neg a)) fun a b hab=>Quotient.sound (h.neg hab)
 zero:=Quotient.mk h.st C.zero
 one:=Quotient.mk h.st C.one
 add_assoc a b c:=Quotient.inductionOn₃ a b c fun a b c=>congrArg (Quotient.mk h.st) (C.add_assoc a b c)
 add_comm a b:=Quotient.inductionOn₂ a b fun a b=>congrArg (Quotient.mk h.st) (C.add_comm a b)
 add_zero a:=Quotient.inductionOn a fun a=>congrArg (Quotient.mk h.st) (C.add_zero a)
 add_neg a:=Quotient.inductionOn a fun a=>congrArg (Quotient.mk h.st) (C.add_neg a)
 mul_assoc a b c:=Quotient.inductionOn₃ a b c fun a b c=>congrArg (Quotient.mk h.st) (C.mul_assoc a b c)
 mul_comm a b:=Quotient.inductionOn₂ a b fun a b=>congrArg (Quotient.mk h.st) (C.mul_comm a b)
 mul_one a:=Quotient.inductionOn a fun a=>congrArg (Quotient.mk h.st) (C.mul_one a)
 mul_add a b c:=Quotient.inductionOn₃ a b c fun a b c=>congrArg (Quotient.mk h.st) (C.mul_add a b c)
@[reducible] def crInt:Cr Int where
 add:=(·+ ·)
 mul:=(·* ·)
 neg:=fun a=>-a
 zero:=0
 one:=1
 add_assoc:=Int.add_assoc
 add_comm:=Int.add_comm
 add_zero:=Int.add_zero
 add_neg:=Int.add_right_neg
 mul_assoc:=K9
 mul_comm:=M0
 mul_one:=Hg
 mul_add:=Int.mul_add
theorem cgP(p:Int):Cong crInt (fun a b=>a%p=b%p) where
 eqv:=⟨fun _=>rfl,fun h=>h.symm,fun h h'=>h.trans h'⟩
 add h h':=Xz h h'
 mul h h':=Q4 h h'
 neg h:=Ua h
def Zp(p:Int):Type:=Quotient (cgP p).st
instance  (p:Int):Cr (Zp p):=(cgP p).cr
def zp(p:Int)(a:Int):Zp p:=Quotient.mk (cgP p).st a
theorem Qbr{p a b:Int}:zp p a=zp p b↔a%p=b%p:=⟨fun h=>Quotient.exact h,fun h=>Quotient.sound (s:=(cgP p).st) h⟩
theorem Qpe(p a b:Int):zp p (a+b)=zp p a+zp p b:=rfl
theorem Be(p a b:Int):zp p (a*b)=zp p a*zp p b:=rfl
theorem Qvd(p a:Int):zp p (-a)=-zp p a:=rfl
theorem Zze(p:Int):zp p 0=0:=rfl
theorem Qfx(p a b:Int):zp p (a-b)=zp p a + -zp p b:=by rw[Int.sub_eq_add_neg];rfl
theorem Qee(p a:Int):zp p (a%p)=zp p a:=Qbr.2 (Kv _ (H3 _))
theorem Zc6{p a:Int}:zp p a=0↔a%p=0:=by rw[<- Zze,Qbr,Int.zero_emod]
@[reducible] def fdOf (p:Int) (h:∀a:Int,¬a%p=0->∃b,(a*b)%p=1%p) (h1:¬(1:Int)%p=0) (h2:¬(2:Int)%p=0):Fd (Zp p) where
 toCr:=inferInstance
 inv_ex a:=Quotient.inductionOn a fun a hn=>by
  obtain⟨b,hb⟩:=h a fun hc=>hn (show zp p a=0 from Zc6.2 hc)
  exact⟨zp p b,show zp p (a*b)=zp p 1 from Qbr.2 hb⟩
 one_ne:=fun hc=>h1 (Zc6.1 (show zp p 1=0 from hc))
 two_ne:=fun hc=>h2 (Zc6.1 (show zp p (1+1)=0 from hc))
instance:Fd (Zp bP):=fdOf bP (fun a ha=>⟨Bh a,(U6 ha).trans (by decide)⟩) (by decide) (by decide)
theorem Zaq{x y:Int}(h:(x*y)%bP=0):x%bP=0∨y%bP=0:=by
 by_cases hx:x%bP=0
 ·exact .inl hx
 ·exact .inr (Ui h hx)
@[reducible] def crE2:Cr E2 where
 add a b:=(a.1+b.1,a.2+b.2)
 mul a b:=(a.1*b.1-a.2*b.2,a.1*b.2+a.2*b.1)
 neg a:=(-a.1,-a.2)
 zero:=(0,0)
 one:=(1,0)
 add_assoc a b c:=Prod.ext (Int.add_assoc _ _ _) (Int.add_assoc _ _ _)
 add_comm a b:=Prod.ext (Int.add_comm _ _) (Int.add_comm _ _)
 add_zero a:=Prod.ext (Int.add_zero _) (Int.add_zero _)
 add_neg a:=Prod.ext (Int.add_right_neg _) (Int.add_right_neg _)
 mul_assoc a b c:=Prod.ext (by grind) (by grind)
 mul_comm a b:=Prod.ext (by grind) (by grind)
 mul_one a:=Prod.ext (by simp) (by simp)
 mul_add a b c:=Prod.ext (by grind) (by grind)
theorem cg2:Cong crE2 S2 where
 eqv:=⟨Ww,Qys,X3⟩
 add h h':=Wu h h'
 mul h h':=Q3 h h'
 neg h:=⟨Ua h.1,Ua h.2⟩
def F2:Type:=Quotient cg2.st
instance:Cr F2:=cg2.cr
def z2(a:E2):F2:=Quotient.mk cg2.st a
theorem U9{a b:E2}:z2 a=z2 b↔S2 a b:=⟨fun h=>Quotient.exact h,fun h=>Quotient.sound (s:=cg2.st) h⟩
theorem Qeg{a:E2}:z2 a=0↔R2.isz a=true:=by
 have:z2 a=0↔S2 a (0,0):=U9 (b:=(0,0));rw[this];obtain⟨x,y⟩:=a;rw[Bz];constructor
 ·rintro ⟨h1,h2⟩;exact⟨h1,h2⟩
 ·rintro ⟨h1,h2⟩;exact⟨h1,h2⟩
instance:Fd F2 where
 toCr:=inferInstance
 inv_ex a:=Quotient.inductionOn a fun a hn=>⟨z2 (Zk a),U9.2 (Zjk fun hc=>hn (Qeg.2 hc))⟩
 one_ne:=fun hc=>absurd (Qeg.1 (show z2 (1,0)=0 from hc)) (by decide)
 two_ne:=fun hc=>absurd (Qeg.1 (show z2 (2,0)=0 from hc)) (by decide)
theorem ph2:Ph R2 z2 where
 add a b:=rfl
 sub a b:=U9.2 ⟨by show(a.1-b.1)%bP=(a.1 + -b.1)%bP;rw[Int.sub_eq_add_neg],by show(a.2-b.2)%bP=(a.2 + -b.2)%bP;rw[Int.sub_eq_add_neg]⟩
 mul a b:=rfl
 one:=rfl
 zero:=rfl
 isz a:=Qeg.symm
 md a:=U9.2 ⟨Za _,Za _⟩
theorem ns2:NS (0:F2) (z2 (4,4)):=fun x=>Quotient.inductionOn x fun x h hc=>by
 have m0:∀x:F2,0*x=0:=fun x=>(Cr.mul_comm _ _).trans (Cr.mul_zero x)
 have h:z2 x*z2 x*z2 x+0*z2 x+z2 (4,4)=0:=h;have hc:z2 x*z2 x+z2 x*z2 x+(z2 x*z2 x+0)=0:=hc;have h3:z2 (3,0)*(z2 x*z2 x)=0:=by
  rw[<- hc];have:z2 (3,0)=1+1+1:=rfl;rw[this];exact PE.same (rho [z2 x]) ((PE.p1+PE.p1+PE.p1)*(PE.v 0*PE.v 0)) (PE.v 0*PE.v 0+PE.v 0*PE.v 0+(PE.v 0*PE.v 0+PE.p0)) rfl
 have h4:z2 x*z2 x=0:=(W3 h3).resolve_left fun hc=>absurd (Qeg.1 hc) (by decide)
 have h5:z2 x=0:=by rcases W3 h4 with h|h <;> exact h
 rw[h5,m0,m0]at h;have h6:z2 (4,4)=0:=by
  rw[<- h];exact PE.same (rho [z2 (4,4)]) (PE.v 0) (PE.p0+PE.p0+PE.v 0) rfl
 exact absurd (Qeg.1 h6) (by decide)
theorem Qiy{p:Int}(hp:prP p):(¬(1:Int)%p=0)/\(¬(2:Int)%p=0)/\∀a:Int,¬a%p=0->∃b,(a*b)%p=1%p:=by
 have hpos:0<p:=by rcases hp with h|h <;> rw[h] <;> decide
 refine⟨?_,?_,fun a ha=>?_⟩
 ·rcases hp with h|h <;> rw[h] <;> decide
 ·rcases hp with h|h <;> rw[h] <;> decide
 ·have h0:=Mw a (show p≠0 by omega);obtain⟨z,hz⟩:=Qxg hp h0 (fun hd=>ha (by
   have:=Hi hd;rwa[Kv _ (H3 _)]at this))
  refine⟨Qa8 p (a%p),?_⟩;have e:(a*Qa8 p (a%p))%p=(a%p*Qa8 p (a%p))%p:=Q4 (Kv _ (H3 _)).symm rfl;rw[e,show a%p*Qa8 p (a%p)=1+p*z by omega,Ho]
@[reducible] def fdP {p:Int} (hp:prP p):Fd (Zp p):=fdOf p (Qiy hp).2.2 (Qiy hp).1 (Qiy hp).2.1
structure Gp (T F:Type) [Fd F] (K:Nat) where
 a:F
 b:F
 ns:NS a b
 pt:T->Pn F
 can:T->Prop
 on:∀ {t},can t->(pt t).on a b
 inj:∀ {t t'},can t->can t'->pt t=pt t'->t=t'
 o:T
 o_ok:can o/\pt o=.O
 add:T->T->T
 add_ok:∀ {t t'},can t->can t'->can (add t t')/\Sm a b (pt t) (pt t') (pt (add t t'))
 mul:T->Nat->T
 mul_ok:∀ {t n},can t->n<2^K->can (mul t n)/\Ml a b n (pt t) (pt (mul t n))
 neg:T->T
 neg_ok:∀ {t},can t->can (neg t)/\pt (neg t)=(pt t).ng
namespace Gp
variable {T F:Type}[Fd F]{K:Nat}(G:Gp T F K)
def In(r:Nat)(t:T):Prop:=G.can t/\Ml G.a G.b r (G.pt t) .O
variable {r:Nat}{s t u:T}
theorem mul_add{m n:Nat}(hm:m<2^K)(hn:n<2^K)(hr:(m+n)%r<2^K)(hs:G.In r s):G.add (G.mul s m) (G.mul s n)=G.mul s ((m+n)%r):=by
 have h1:=G.mul_ok hs.1 hm;have h2:=G.mul_ok hs.1 hn;have h3:=G.mul_ok hs.1 hr;have h4:=G.add_ok h1.1 h2.1;have h5:=Qb3 G.ns h1.2 h2.2 h4.2 (G.on h4.1);exact G.inj h4.1 h3.1 (Wt h5 ((Qvs G.ns hs.2 (G.on hs.1)).1 h3.2))
theorem mul_one(hK:1<2^K)(hs:G.can s):G.mul s 1=s:=by
 have h:=G.mul_ok hs hK;exact G.inj h.1 hs (Wt h.2 (Zd0 (G.on hs)))
theorem mul_zero(hs:G.can s):G.mul s 0=G.o:=by
 have h:=G.mul_ok (n:=0) hs (Nat.two_pow_pos K);exact G.inj h.1 G.o_ok.1 (by rw[Wt h.2 (Zdj _),G.o_ok.2])
end Gp
end Go.Sx
namespace Go.Sx
open Cr
abbrev T1:Type:=Int×Int×Int
def Xad(t:T1):Prop:=(0<=t.1/\0<=t.2.1)/\(t.2.2=0∨t.2.2=1)/\onV t.1 t.2.1 t.2.2
def pt1(t:T1):Pn (Zp bP):=if t.2.2=0 then .P (zp bP t.1) (zp bP t.2.1)else .O
def Xae(P:J Int):T1:=((Zuf P).1%bP,(Zuf P).2.1%bP,(Zuf P).2.2)
def rsT(t:T1):J Int:=rsV t.1 t.2.1 t.2.2
abbrev T2:Type:=E2×E2×Int
def Qa7(t:T2):Prop:=(cn t.1/\cn t.2.1)/\(t.2.2=0∨t.2.2=1)/\Qhl t.1.1 t.1.2 t.2.1.1 t.2.1.2 t.2.2
def pt2(t:T2):Pn F2:=if t.2.2=0 then .P (z2 t.1) (z2 t.2.1)else .O
def Qbb(P:J E2):T2:=(R2.md (B3 P).1,R2.md (B3 P).2,Qin P)
def rsU(t:T2):J E2:=Qi2 t.1.1 t.1.2 t.2.1.1 t.2.1.2 t.2.2
theorem Zq5(a:E2):z2 (R2.md a)=z2 a:=ph2.md a
theorem Qaf(a b:E2):z2 (R2.mul a b)=z2 a*z2 b:=rfl
theorem Qpl(x:E2):z2 (Ya x)=z2 x*z2 x*z2 x+0*z2 x+z2 (4,4):=by
 have e:z2 (Ya x)=z2 x*z2 x*z2 x+z2 (4,4):=U9.2 ⟨by simp only[Ya,R2];rfl,by simp only[Ya,R2];rfl⟩;rw[e,zm,show z2 x*z2 x*z2 x+0=z2 x*z2 x*z2 x from add_zero _]
theorem Xy{t:T2}(h:Qa7 t):(pt2 t).on 0 (z2 (4,4)):=by
 obtain⟨x,y,z⟩:=t;unfold pt2;by_cases hz:z=0
 ·have h2:=((Qdt (show((x,y,z):T2).2.2=0 from hz)).1 h.2.2).2;rw[if_pos hz];show z2 y*z2 y=z2 x*z2 x*z2 x+0*z2 x+z2 (4,4);rw[<- Qpl,<- Qaf];exact U9.2 ⟨congrArg Prod.fst h2,congrArg Prod.snd h2⟩
 ·rw[if_neg hz];trivial
theorem B6{t:T2}(h:Qa7 t):Jr z2 (rsU t) (pt2 t):=by
 obtain⟨x,y,z⟩:=t;unfold rsU pt2 Qi2;by_cases hz:z=0
 ·rw[if_pos hz,if_pos hz];refine⟨fun hc=>Zm9 (Qeg.1 hc),?_,?_⟩
  ·show z2 x=z2 x*(1*1)
   exact PE.same (rho [z2 x]) (PE.v 0) (PE.v 0*(PE.p1*PE.p1)) rfl
  ·show z2 y=z2 y*(1*1*1)
   exact PE.same (rho [z2 y]) (PE.v 0) (PE.v 0*(PE.p1*PE.p1*PE.p1)) rfl
 ·rw[if_neg hz,if_neg hz];exact Zjc ph2
theorem Qpa{P:J E2}{A:Pn F2}(h:Jr z2 P A)(hA:A.on 0 (z2 (4,4))):Qa7 (Qbb P)/\pt2 (Qbb P)=A:=by
 cases A with
 |O =>
  have hz:=Bz.1 (Qeg.1 h);have e:Qbb P=((0,0),(0,0),1):=by unfold Qbb B3 Qin;rw[if_pos hz,if_pos hz];rfl
  rw[e];exact⟨⟨⟨⟨⟨Int.le_refl _,Q9⟩,Int.le_refl _,Q9⟩,⟨Int.le_refl _,Q9⟩,Int.le_refl _,Q9⟩,.inr rfl,(Qiz (by decide)).2 ⟨⟨⟨Q9,Q9⟩,Q9,Q9⟩,⟨rfl,rfl⟩,rfl,rfl⟩⟩,rfl⟩
 |P x y =>
  obtain⟨h1,h2,h3⟩:=h;have hz:¬R2.isz P.z=true:=fun hc=>h1 (Qeg.2 hc)
  have hz':¬(P.z.1%bP=0/\P.z.2%bP=0):=fun hc=>hz (Bz.2 hc)
  have hi:z2 P.z*z2 (Zk P.z)=1:=U9.2 (Zjk hz);have e:Qbb P=(R2.md (R2.mul P.x (R2.mul (Zk P.z) (Zk P.z))),R2.md (R2.mul P.y (R2.mul (R2.mul (Zk P.z) (Zk P.z)) (Zk P.z))),0):=by unfold Qbb B3 Qin;rw[if_neg hz',if_neg hz']
  rw[e];have ex:z2 (R2.md (R2.mul P.x (R2.mul (Zk P.z) (Zk P.z))))=x:=by
   rw[Zq5,Qaf,Qaf,h2];have e:x*(z2 P.z*z2 P.z)*(z2 (Zk P.z)*z2 (Zk P.z))=x*((z2 P.z*z2 (Zk P.z))*(z2 P.z*z2 (Zk P.z))):=PE.same (rho [x,z2 P.z,z2 (Zk P.z)]) (PE.v 0*(PE.v 1*PE.v 1)*(PE.v 2*PE.v 2)) (PE.v 0*((PE.v 1*PE.v 2)*(PE.v 1*PE.v 2))) rfl;rw[e,hi];exact PE.same (rho [x]) (PE.v 0*(PE.p1*PE.p1)) (PE.v 0) rfl
  have ey:z2 (R2.md (R2.mul P.y (R2.mul (R2.mul (Zk P.z) (Zk P.z)) (Zk P.z))))=y:=by
   rw[Zq5,Qaf,Qaf,Qaf,h3];have e:y*(z2 P.z*z2 P.z*z2 P.z)*(z2 (Zk P.z)*z2 (Zk P.z)*z2 (Zk P.z))=y*((z2 P.z*z2 (Zk P.z))*(z2 P.z*z2 (Zk P.z))*(z2 P.z*z2 (Zk P.z))):=PE.same (rho [y,z2 P.z,z2 (Zk P.z)]) (PE.v 0*(PE.v 1*PE.v 1*PE.v 1)*(PE.v 2*PE.v 2*PE.v 2)) (PE.v 0*((PE.v 1*PE.v 2)*(PE.v 1*PE.v 2)*(PE.v 1*PE.v 2))) rfl;rw[e,hi];exact PE.same (rho [y]) (PE.v 0*(PE.p1*PE.p1*PE.p1)) (PE.v 0) rfl
  have lx:=Qcn (R2.mul P.x (R2.mul (Zk P.z) (Zk P.z)));have ly:=Qcn (R2.mul P.y (R2.mul (R2.mul (Zk P.z) (Zk P.z)) (Zk P.z)));generalize R2.md (R2.mul P.x (R2.mul (Zk P.z) (Zk P.z)))=X at *
  generalize R2.md (R2.mul P.y (R2.mul (R2.mul (Zk P.z) (Zk P.z)) (Zk P.z)))=Y at *
  have hA:y*y=x*x*x+0*x+z2 (4,4):=hA;refine⟨⟨⟨lx,ly⟩,.inl rfl,(Qdt rfl).2 ⟨⟨⟨lx.1.2,lx.2.2⟩,ly.1.2,ly.2.2⟩,?_⟩⟩,?_⟩
  ·have h4:z2 (R2.mul Y Y)=z2 (Ya X):=by
    rw[Qpl,Qaf,ex,ey];exact hA
   have h5:=U9.1 h4;exact Prod.ext h5.1 h5.2
  ·show Pn.P (z2 X) (z2 Y)=_;rw[ex,ey]
theorem Zii{x y:E2}(hx:cn x)(hy:cn y)(h:z2 x=z2 y):x=y:=by
 have:=U9.1 h;obtain⟨h1,h2⟩:=this;rw[Oy hx.1.1 hx.1.2,Oy hy.1.1 hy.1.2]at h1;rw[Oy hx.2.1 hx.2.2,Oy hy.2.1 hy.2.2]at h2;exact Prod.ext h1 h2
theorem Qwl{x y:E2}{z:Int}(h:Qa7 (x,y,z))(hz:¬z=0):x=(0,0)/\y=(0,0)/\z=1:=by
 obtain⟨_,h1,h2⟩:=(Qiz (show ¬((x,y,z):T2).2.2=0 from hz)).1 h.2.2;exact⟨Prod.ext h1.1 h1.2,Prod.ext h2.1 h2.2,h.2.1.resolve_left hz⟩
def G2:Gp T2 F2 384 where
 a:=0
 b:=z2 (4,4)
 ns:=ns2
 pt:=pt2
 can:=Qa7
 on:=Xy
 inj {t t'} h h' e:=by
  obtain⟨x,y,z⟩:=t;obtain⟨x',y',z'⟩:=t';unfold pt2 at e;by_cases hz:z=0
  ·by_cases hz':z'=0
   ·rw[if_pos hz,if_pos hz']at e;injection e with e1 e2;have q1:x=x':=Zii h.1.1 h'.1.1 e1;have q2:y=y':=Zii h.1.2 h'.1.2 e2;rw[q1,q2,hz,hz']
   ·rw[if_pos hz,if_neg hz']at e;cases e
  ·by_cases hz':z'=0
   ·rw[if_neg hz,if_pos hz']at e;cases e
   ·obtain⟨q1,q2,q3⟩:=Qwl h hz;obtain⟨q1',q2',q3'⟩:=Qwl h' hz';rw[q1,q2,q3,q1',q2',q3']
 o:=((0,0),(0,0),1)
 o_ok:=⟨⟨⟨⟨⟨Int.le_refl _,Q9⟩,Int.le_refl _,Q9⟩,⟨Int.le_refl _,Q9⟩,Int.le_refl _,Q9⟩,.inr rfl,(Qiz (by decide)).2 ⟨⟨⟨Q9,Q9⟩,Q9,Q9⟩,⟨rfl,rfl⟩,rfl,rfl⟩⟩,rfl⟩
 add t t':=Qbb (Wo R2 (rsU t) (rsU t'))
 add_ok {t t'} h h':=by
  obtain⟨C,j,s,o⟩:=Qkj ph2 (B6 h) (B6 h') (Xy h) (Xy h');obtain⟨c,e⟩:=Qpa j o;exact⟨c,by rw[e];exact s⟩
 mul t n:=Qbb (W5 R2 (rsU t) 384 n)
 mul_ok {t n} h hn:=by
  obtain⟨C,j,m⟩:=Qg4 ph2 ns2 (B6 h) (Xy h) 384 n hn;obtain⟨c,e⟩:=Qpa j m.2;exact⟨c,by rw[e];exact m⟩
 neg t:=(t.1,ng2 t.2.1,t.2.2)
 neg_ok {t} h:=by
  obtain⟨x,y,z⟩:=t;have hn:cn (ng2 y):=Zp9 y;have hz2:z2 (ng2 y)=-z2 y:=U9.2 ⟨Za _,Za _⟩;refine⟨⟨⟨h.1.1,hn⟩,h.2.1,?_⟩,?_⟩
  ·by_cases hz:z=0
   ·have o:=(Qdt (show((x,y,z):T2).2.2=0 from hz)).1 h.2.2;refine(Qdt hz).2 ⟨⟨o.1.1,hn.1.2,hn.2.2⟩,?_⟩;refine Eq.trans ?_ o.2;have:z2 (R2.mul (ng2 y) (ng2 y))=z2 (R2.mul y y):=by
     rw[Qaf,Qaf,hz2];exact PE.same (rho [z2 y]) (-PE.v 0 * -PE.v 0) (PE.v 0*PE.v 0) rfl
    have h5:=U9.1 this;exact Prod.ext h5.1 h5.2
   ·obtain⟨q1,q2,q3⟩:=Qwl h hz;refine(Qiz hz).2 ⟨⟨⟨h.1.1.1.2,h.1.1.2.2⟩,hn.1.2,hn.2.2⟩,?_⟩;rw[q1,q2];exact⟨⟨rfl,rfl⟩,show(ng2 (0,0)).1=0 from by decide,show(ng2 (0,0)).2=0 from by decide⟩
  ·unfold pt2;by_cases hz:z=0
   ·rw[if_pos hz,if_pos hz];show Pn.P (z2 x) (z2 (ng2 y))=Pn.P (z2 x) (-z2 y);rw[hz2]
   ·rw[if_neg hz,if_neg hz];rfl
end Go.Sx
namespace Go.Sx
open Go Go.RowKit
set_option maxRecDepth 100000
theorem Zbk(h:Int->Prop)(p x:Int):Y4 h p (x%p)=Y4 h p x:=by
 unfold Y4;congr 1;funext m;rw[Hj]
def J7(b x:Int):Prop:=Y0 (Ya (x,b))
noncomputable def Qkx(a b:Int):Nat:=Y4 (J7 (b%bP)) bP a
noncomputable def Qw0(a b:Int):Int:=(a+Qkx a b)%bP
noncomputable def Qdb(a b:Int):T2:=((Qw0 a b,b%bP),rt2 (Ya (Qw0 a b,b%bP)),0)
def T2.L(t:T2):List Int:=[t.1.1,t.1.2,t.2.1.1,t.2.1.2,t.2.2]
noncomputable def Qle(f:FuncId):K:={fn:=f,ext:=false,ins:=[iE2],outs:=[.agg Qby,oI],pre:=fun|[a,b]=>∃n:Nat,J7 (b%bP) ((a+n)%bP)|_=>False,sem:=fun|[a,b]=>T2.L (Qdb a b)++[wr .i64 (Qkx a b)]|_=>[] }
theorem Qmm{a b:Int}(h:∃n:Nat,J7 (b%bP) ((a+n)%bP)):Qa7 (Qdb a b):=by
 have h1:Y0 (Ya (Qw0 a b,b%bP)):=(Qb7 h).1;exact⟨⟨⟨Zo Q9,Zo Q9⟩,Qua _⟩,.inl rfl,Zsg (Zo Q9).2 (Zo Q9).2 h1⟩
def Zj1:Qq:=(xw 0 [.v 0,.v 1,.n 0,.n 0] 2 Yo
(.loop [.v 2,.v 3,.n 0] [.num,.num,kI] 4
(xw 1 [.v 4,.v 5] 7 [.num,.num,.num,.num,.bit,.bit]
(.split 12
(.ret [.v 7,.v 8,.v 9,.v 10,.v 11,.v 6])
(xw 2 [.n 1] 61 Z7
(xw 0 [.v 4,.v 5,.v 61,.n 0] 157 Yo
(.l 253 kI (.b .add .i64 (.v 6) (.n 1))
(.back 0 [.v 157,.v 158,.v 253]))))))))
theorem Zbo(f0 f1 f2 f:FuncId)(e:Nat->Int)(hp:(Qle f).pre [e 0,e 1]):Zj1.Xat [Qia f0,Zss f1,kOf f2] ⟨fun ys=>ys=(Qle f).sem [e 0,e 1],[]⟩ e:=by
 have hex:∃n:Nat,J7 (e 1%bP) ((e 0+n)%bP):=hp;show Zj1.Xat _ ⟨fun ys=>ys=T2.L (Qdb (e 0) (e 1))++[wr .i64 (Qkx (e 0) (e 1))],[]⟩ e;refine⟨trivial,fun a2 _ a3 _=>?_⟩;have v2:e 2=e 0%bP:=by rw[show e 2=(e 0+0)%bP from a2,Int.add_zero]
 have v3:e 3=e 1%bP:=by rw[show e 3=(e 1+0)%bP from a3,Int.add_zero]
 obtain⟨n,hn⟩:∃n,n=Qkx (e 0) (e 1):=⟨_,rfl⟩
 obtain⟨b,hb⟩:∃b,b=e 1%bP:=⟨_,rfl⟩
 have hV:T2.L (Qdb (e 0) (e 1))++[wr .i64 (Qkx (e 0) (e 1))]=[(e 0+n)%bP,b,(rt2 (Ya ((e 0+n)%bP,b))).1,(rt2 (Ya ((e 0+n)%bP,b))).2,0,wr .i64 n]:=by rw[hn,hb];rfl
 rw[hV];clear hV;have hbr:0<=b/\b<bP:=by rw[hb];exact Zo Q9
 rw[<- hb]at hex;refine⟨fun|[x,y,k]=>y=b/\(0<=x/\x<bP)/\(∃n:Nat,J7 b ((x+n)%bP))/\∃j:Nat,x=(e 0+j)%bP/\k=wr .i64 j/\j+Y4 (J7 b) bP x=n|_=>False,fun|[x,_,k]=>Y4 (J7 b) bP x|_=>0,?_,fun e' he hkk hI=>?_⟩
 ·show e 3=b/\(0<=e 2/\e 2<bP)/\(∃n:Nat,J7 b ((e 2+n)%bP))/\∃j:Nat,e 2=(e 0+j)%bP/\(0:Int)=wr .i64 j/\j+Y4 (J7 b) bP (e 2)=n;refine⟨v3.trans hb.symm,by rw[v2];exact Zo Q9,?_,0,by rw[v2];simp,rfl,?_⟩
  ·obtain⟨m,hm⟩:=hex;exact⟨m,by rw[v2,Hj];exact hm⟩
  ·rw[M5,hn,v2,hb];exact Zbk _ _ _
 obtain⟨q0,hx,hex',j,q1,q2,q3⟩:e' 5=b/\(0<=e' 4/\e' 4<bP)/\(∃n:Nat,J7 b ((e' 4+n)%bP))/\∃j:Nat,e' 4=(e 0+j)%bP/\e' 6=wr .i64 j/\j+Y4 (J7 b) bP (e' 4)=n:=hI;rw[<- he 0 (by decide)]at q1 ⊢;clear he hkk a2 a3 v2 v3 hn hex hp hb;refine⟨trivial,fun a7 _ a8 _ a9 _ a10 _ a11 _ a12 _=>?_⟩;have v7:e' 7=e' 4:=a7;have v8:e' 8=b:=(show e' 8=e' 5 from a8).trans q0;have v9:e' 9=(rt2 (Ya (e' 4,b))).1:=by rw[<- q0];exact a9
 have v10:e' 10=(rt2 (Ya (e' 4,b))).2:=by rw[<- q0];exact a10
 have v11:e' 11=0:=a11;have v12:e' 12=bj (J7 b (e' 4)):=by rw[<- q0];exact a12
 refine⟨fun h=>?_,fun h=>?_⟩
 ·have hh:J7 b (e' 4):=by
   by_cases hc:J7 b (e' 4)
   ·exact hc
   ·rw[Qcj hc]at v12;exact absurd v12 h
  have hz:Y4 (J7 b) bP (e' 4)=0:=Qk3 hx hh;have hj:j=n:=by omega
  show[e' 7,e' 8,e' 9,e' 10,e' 11,e' 6]=_;rw[v7,v8,v9,v10,v11,q2,<- hj,<- q1]
 ·have hh:¬J7 b (e' 4):=fun hc=>by rw[Ql9 hc]at v12;omega
  obtain⟨hs,hex2⟩:=Qkb (h:=J7 b) hx hex' hh;refine⟨trivial,fun a61 _=>⟨trivial,fun a157 _ a158 _ a253 _=>?_⟩⟩;have v157:e' 157=(e' 4+1)%bP:=by rw[show e' 157=(e' 4+e' 61)%bP from a157,show e' 61=1 from a61]
  have v158:e' 158=b:=by rw[show e' 158=(e' 5+0)%bP from a158,Int.add_zero,q0,Oy hbr.1 hbr.2]
  rw[<- v157]at hs hex2;show(e' 158=b/\(0<=e' 157/\e' 157<bP)/\(∃n:Nat,J7 b ((e' 157+n)%bP))/\∃j:Nat,e' 157=(e' 0+j)%bP/\e' 253=wr .i64 j/\j+Y4 (J7 b) bP (e' 157)=n)/\Y4 (J7 b) bP (e' 157)<Y4 (J7 b) bP (e' 4);refine⟨⟨v158,by rw[v157];exact Zo Q9,hex2,j+1,?_,?_,by omega⟩,by omega⟩
  ·rw[v157,q1,Hj];congr 1;omega
  ·exact(show e' 253=wr .i64 (e' 6+1)from a253).trans (Qzv q2)
end Go.Sx
namespace Go.Sx
open Cr
section
variable {p:Int}
def ptL(p:Int)(t:Pt):Pn (Zp p):=if t.z=0 then .P (zp p t.x) (zp p t.y)else .O
theorem Qou(hp:prP p):0<p:=by rcases hp with h|h <;> rw[h] <;> decide
theorem Zgk{a b:Int}(h:p∣a-b):zp p a=zp p b:=Qbr.2 (Bd.2 h)
theorem Qe3{x y:Int}(hx:0<=x/\x<p)(hy:0<=y/\y<p)(h:zp p x=zp p y):x=y:=by
 have:=Qbr.1 h;rwa[Oy hx.1 hx.2,Oy hy.1 hy.2]at this
theorem B8(hp:prP p){t:Pt}(h:onL p t):@Pn.on (Zp p) (fdP hp) 1 0 (ptL p t):=by
 unfold ptL;by_cases hz:t.z=0
 ·rw[if_pos hz];have h2:=h.1;unfold onP at h2;rw[if_pos hz,Qit]at h2;show zp p t.y*zp p t.y=zp p t.x*zp p t.x*zp p t.x+1*zp p t.x+0;have:zp p (t.y*t.y)=zp p (t.x*t.x*t.x+t.x):=Qbr.2 h2.2.2;rw[<- Be,this,Qpe,Be,Be];exact PE.same (rho [zp p t.x]) (PE.v 0*PE.v 0*PE.v 0+PE.v 0) (PE.v 0*PE.v 0*PE.v 0+PE.p1*PE.v 0+PE.p0) rfl
 ·rw[if_neg hz];trivial
theorem nsL(hp:prP p):@NS (Zp p) (fdP hp) 1 0:=fun x=>Quotient.inductionOn x fun x h hc=>by
 letI:=fdP hp;have h:zp p x*zp p x*zp p x+1*zp p x+0=0:=h;have hc:zp p x*zp p x+zp p x*zp p x+(zp p x*zp p x+1)=0:=hc;generalize zp p x=x at *
 have h1:x*(x*x+1)=0:=by
  rw[<- h];exact PE.same (rho [x]) (PE.v 0*(PE.v 0*PE.v 0+PE.p1)) (PE.v 0*PE.v 0*PE.v 0+PE.p1*PE.v 0+PE.p0) rfl
 rcases W3 h1 with h2|h2
 ·rw[h2]at hc;refine Fd.one_ne (α:=Zp p) ?_;show(1:Zp p)=0;rw[<- hc];exact PE.same (rho ([]:List (Zp p))) PE.p1 (PE.p0*PE.p0+PE.p0*PE.p0+(PE.p0*PE.p0+PE.p1)) rfl
 ·
  have h3:(1+1:Zp p)=0:=by
   have e:(1+1:Zp p)=(x*x+1)+(x*x+1)+(x*x+1) + -(x*x+x*x+(x*x+1)):=PE.same (rho [x]) (PE.p1+PE.p1) ((PE.v 0*PE.v 0+PE.p1)+(PE.v 0*PE.v 0+PE.p1)+(PE.v 0*PE.v 0+PE.p1) + -(PE.v 0*PE.v 0+PE.v 0*PE.v 0+(PE.v 0*PE.v 0+PE.p1))) rfl;rw[e,hc,h2];exact PE.same (rho ([]:List (Zp p))) (PE.p0+PE.p0+PE.p0 + -PE.p0) PE.p0 rfl
  exact Fd.two_ne (α:=Zp p) h3
theorem Qn4(hp:prP p){a b:Pt}(ha:onL p a)(hb:onL p b):@Sm (Zp p) (fdP hp) 1 0 (ptL p a) (ptL p b) (ptL p (Yg p a b)):=by
 letI:=fdP hp;have p0:=Qou hp;have la:=ha.lt p0;have lb:=hb.lt p0;have oa:=B8 hp ha;have ob:=B8 hp hb;unfold Yg;by_cases hza:a.z=0
 ·rw[if_neg (fun hc=>hc hza)];by_cases hzb:b.z=0
  ·rw[if_neg (fun hc=>hc hzb)];have ea:ptL p a=.P (zp p a.x) (zp p a.y):=if_pos hza;have eb:ptL p b=.P (zp p b.x) (zp p b.y):=if_pos hzb;rw[ea]at oa;rw[eb]at ob;rw[ea,eb];have res:∀l:Int,ptL p ⟨((l*l%p-a.x)%p-b.x)%p,(l*((a.x-((l*l%p-a.x)%p-b.x)%p)%p)%p-a.y)%p,0⟩=.P (zp p l*zp p l + -zp p a.x + -zp p b.x) (zp p l*(zp p a.x + -(zp p l*zp p l + -zp p a.x + -zp p b.x)) + -zp p a.y):=fun l=>by
    have e1:zp p (((l*l%p-a.x)%p-b.x)%p)=zp p l*zp p l + -zp p a.x + -zp p b.x:=by
     rw[Qee,Qfx,Qee,Qfx,Qee];rfl
    show Pn.P _ _=_;rw[e1];have e2:zp p ((l*((a.x-((l*l%p-a.x)%p-b.x)%p)%p)%p-a.y)%p)=zp p l*(zp p a.x + -(zp p l*zp p l + -zp p a.x + -zp p b.x)) + -zp p a.y:=by
     rw[Qee,Qfx,Qee,Be,Qee,Qfx,e1]
    rw[e2]
   by_cases hx:a.x=b.x
   ·by_cases hy:a.y≠b.y∨a.y=0
    ·have hs:Wj p a.x a.y b.x b.y=(0,0):=by unfold Wj;rw[if_neg (fun hc=>hc hx),if_pos hy]
     rw[hs,if_pos rfl];show Sm 1 0 _ _ Pn.O;have hyy:zp p b.y=-zp p a.y:=by
      rw[<- hx]at ob;rcases hy with hy|hy
      ·exact Qzr oa ob (fun hc=>hy (Qe3 la.2 lb.2 (Qgz hc).symm))
      ·by_cases hc:a.y=b.y
       ·rw[<- hc,hy,<- Qvd];rfl
       ·exact Qzr oa ob (fun h0=>hc (Qe3 la.2 lb.2 (Qgz h0).symm))
     rw[<- hx,hyy];exact .opp _ _
    ·have hs:Wj p a.x a.y b.x b.y=((((a.x*a.x%p+a.x*a.x%p)%p+a.x*a.x%p)%p+1)%p*Qa8 p ((a.y+a.y)%p)%p,1):=by unfold Wj;rw[if_neg (fun hc=>hc hx),if_neg hy]
     have hye:a.y=b.y:=Classical.byContradiction fun hc=>hy (.inl hc)
     have hy0:0<a.y/\a.y<p:=by
      have:=la.2;have h0:¬a.y=0:=fun hc=>hy (.inr hc)
      omega
     rw[hs,if_neg (show ¬(1:Int)=0 by decide)];have ht:=Zgk (Qnf (x:=a.x) hp hy0);show Sm 1 0 _ _ (ptL p ⟨_,_,0⟩);generalize (((a.x*a.x%p+a.x*a.x%p)%p+a.x*a.x%p)%p+1)%p*Qa8 p ((a.y+a.y)%p)%p=l at ht;have hr:=res l;rw[<- hx,<- hye];rw[<- hx]at hr;have hl:zp p l*(zp p a.y+zp p a.y)=zp p a.x*zp p a.x+zp p a.x*zp p a.x+zp p a.x*zp p a.x+1:=by
      rw[Be]at ht;exact ht
     have:=(Qw7 oa hl).1;rw[<- hr]at this;exact this
   ·have hs:Wj p a.x a.y b.x b.y=((b.y-a.y)%p*Qa8 p ((b.x-a.x)%p)%p,1):=by unfold Wj;rw[if_pos hx]
    rw[hs,if_neg (show ¬(1:Int)=0 by decide)];obtain⟨_,_,hd⟩:=Qg6 (y:=a.y) (y':=b.y) hp la.1 lb.1 hx;have ht:=Zgk hd;show Sm 1 0 _ _ (ptL p ⟨_,_,0⟩);generalize (b.y-a.y)%p*Qa8 p ((b.x-a.x)%p)%p=l at ht;rw[res l];rw[Be,Qfx,Qfx]at ht;exact(Qjn oa ob (fun hc=>hx (Qe3 la.1 lb.1 (Qgz hc).symm)) ht).1
  ·rw[if_pos hzb];have eb:ptL p b=.O:=if_neg hzb;rw[eb];exact .zr _
 ·rw[if_pos hza];have ea:ptL p a=.O:=if_neg hza;rw[ea];exact .zl _
theorem Qh9(hp:prP p){a:Pt}(ha:onL p a):∀(k n:Nat),n<2^k->onL p (Xa p a k n)/\@Ml (Zp p) (fdP hp) 1 0 n (ptL p a) (ptL p (Xa p a k n))
 |0,n,hn=>by
  letI:=fdP hp;have:n=0:=by simpa using hn
  subst this;exact⟨Qny p,Zdj _⟩
 |k+1,n,hn=>by
  letI:=fdP hp;have e1:Xa p a (k+1) n=if n=0 then⟨0,0,1⟩else(if n%2=1 then Yg p (Yg p (Xa p a k (n/2)) (Xa p a k (n/2))) a else Yg p (Xa p a k (n/2)) (Xa p a k (n/2))):=rfl
  rw[e1];by_cases h0:n=0
  ·rw[if_pos h0,h0];exact⟨Qny p,Zdj _⟩
  ·rw[if_neg h0];obtain⟨o1,m1⟩:=Qh9 hp ha k (n/2) (by rw[Nat.pow_succ]at hn;omega);have o2:=Qfw hp o1 o1;have m2:=Qb3 (nsL hp) m1 m1 (Qn4 hp o1 o1) (B8 hp o2);by_cases hb:n%2=1
   ·rw[if_pos hb];have o3:=Qfw hp o2 ha;have m3:=Qb3 (nsL hp) m2 (Zd0 (B8 hp ha)) (Qn4 hp o2 ha) (B8 hp o3);rw[show n/2+n/2+1=n by omega]at m3;exact⟨o3,m3⟩
   ·rw[if_neg hb];rw[show n/2+n/2=n by omega]at m2;exact⟨o2,m2⟩
theorem Zp6{t:Pt}(h:onL p t)(hz:¬t.z=0):t=⟨0,0,1⟩:=by
 have h1:=h.1;unfold onP at h1;rw[if_neg hz]at h1;obtain⟨x,y,z⟩:=t;have h3:z=1:=h.2.2.resolve_left hz;have h1:x=0/\y=0:=h1;rw[h1.1,h1.2,h3]
def GL{p:Int}(hp:prP p):@Gp Pt (Zp p) (fdP hp) 64 :=
 letI:=fdP hp
 {a:=1,
  b:=0,
  ns:=nsL hp,
  pt:=ptL p,
  can:=onL p,
  on:=fun h=>B8 hp h,
  inj:=fun {t t'} h h' e=>by
   have p0:=Qou hp;have l:=h.lt p0;have l':=h'.lt p0;unfold ptL at e;by_cases hz:t.z=0
   ·by_cases hz':t'.z=0
    ·rw[if_pos hz,if_pos hz']at e;injection e with e1 e2;have q1:=Qe3 l.1 l'.1 e1;have q2:=Qe3 l.2 l'.2 e2;obtain⟨x,y,z⟩:=t;obtain⟨x',y',z'⟩:=t';have q1:x=x':=q1;have q2:y=y':=q2;have hz:z=0:=hz;have hz':z'=0:=hz';rw[q1,q2,hz,hz']
    ·rw[if_pos hz,if_neg hz']at e;cases e
   ·by_cases hz':t'.z=0
    ·rw[if_neg hz,if_pos hz']at e;cases e
    ·rw[Zp6 h hz,Zp6 h' hz']
  o:=⟨0,0,1⟩
  o_ok:=⟨Qny p,rfl⟩
  add:=Yg p
  add_ok:=fun h h'=>⟨Qfw hp h h',Qn4 hp h h'⟩
  mul:=fun t n=>Xa p t 64 n
  mul_ok:=fun h hn=>Qh9 hp h 64 _ hn
  neg:=fun t=>⟨t.x,(-t.y)%p,t.z⟩
  neg_ok:=fun {t} h=>by
   have p0:=Qou hp;have ly:=Zo (x:=-t.y) p0;have o:=h.1;unfold onP at o;refine⟨⟨?_,⟨h.2.1.1,ly.1⟩,h.2.2⟩,?_⟩
   ·show onP p t.x ((-t.y)%p) t.z;unfold onP;by_cases hz:t.z=0
    ·rw[if_pos hz]at o ⊢;refine⟨o.1,ly.2,?_⟩;rw[<- o.2.2];have e:((-t.y)%p*((-t.y)%p))%p=(-t.y * -t.y)%p:=Q4 (md2 _ _) (md2 _ _);rw[e,Hv]
    ·rw[if_neg hz]at o ⊢;exact⟨o.1,by rw[o.2];rfl⟩
   ·unfold ptL;by_cases hz:t.z=0
    ·rw[if_pos hz,if_pos hz];show Pn.P (zp p t.x) (zp p ((-t.y)%p))=Pn.P (zp p t.x) (-zp p t.y);rw[Qee];rfl
    ·rw[if_neg hz,if_neg hz];rfl }
end
end Go.Sx


namespace Go.Sx
open Go Go.RowKit
set_option maxRecDepth 100000
abbrev Zw9:List L:=[.int .i64,.num,.num,.num,.num,.bool,.int .u64,.int .u64,.bool]
theorem Zx4{T:List K}{e:Nat->Int}{v:Int}{i j i' j' k:Nat}(h:v=(D.eqs [((.m i 0),(.lit 0)),((.m i 1),(.lit 0)),((.m i 2),(.lit 0)),((.m i 3),(.lit 0)),((.m i 4),(.lit 0)),((.m i 5),(.lit 0)),((.m j 0),(.lit 0)),((.m j 1),(.lit 0)),((.m j 2),(.lit 0)),((.m j 3),(.lit 0)),((.m j 4),(.lit 0)),((.m j 5),(.lit 0)),((.m i' 0),(.lit 0)),((.m i' 1),(.lit 0)),((.m i' 2),(.lit 0)),((.m i' 3),(.lit 0)),((.m i' 4),(.lit 0)),((.m i' 5),(.lit 0)),((.m j' 0),(.lit 0)),((.m j' 1),(.lit 0)),((.m j' 2),(.lit 0)),((.m j' 3),(.lit 0)),((.m j' 4),(.lit 0)),((.m j' 5),(.lit 0)),((.v k),(.lit 0))]).ev T e)
  (hi:0<=e i/\e i<Qw) (hj:0<=e j/\e j<Qw) (hi':0<=e i'/\e i'<Qw) (hj':0<=e j'/\e j'<Qw):(v=1/\((e i=0/\e j=0)/\(e i'=0/\e j'=0)/\e k=0))∨(v=0/\¬((e i=0/\e j=0)/\(e i'=0/\e j'=0)/\e k=0)):=by
 simp only[D.ev,L1,Oaa,Qp,Qn,Ql,H6,Qfa,Oo,beq_iff_eq]at h;by_cases hc:(e i=0/\e j=0)/\(e i'=0/\e j'=0)/\e k=0
 ·left;rw[hc.1.1,hc.1.2,hc.2.1.1,hc.2.1.2,hc.2.2]at h;simp[Q1]at h;exact⟨h,hc⟩
 ·right
  rw[if_neg (fun hh=>hc (by
   obtain⟨a0,a1,a2,a3,a4,a5,b0,b1,b2,b3,b4,b5,c0,c1,c2,c3,c4,c5,d0,d1,d2,d3,d4,d5,z0⟩:=hh;have z:∀ {x:Int},0<=x/\x<Qw->Q1 x 0=0->Q1 x 1=0->Q1 x 2=0->Q1 x 3=0->Q1 x 4=0->Q1 x 5=0->x=0:=fun hx h0 h1 h2 h3 h4 h5=>by have:=Z4 hx;omega
   exact⟨⟨z hi a0 a1 a2 a3 a4 a5,z hj b0 b1 b2 b3 b4 b5⟩,⟨z hi' c0 c1 c2 c3 c4 c5,z hj' d0 d1 d2 d3 d4 d5⟩,z0⟩))]at h
  exact⟨h,hc⟩
def Qeh(s a b c d z x y w:Int):Prop:=(s=0/\(x=0/\y=0/\w=0)/\Zbf a b c d z)∨(B5 s/\((a=0/\b=0)/\(c=0/\d=0)/\z=0)/\inP (pL s) (Wk s) x y w)
theorem Qzm{s a b c d z x y w:Int}(h:Qeh s a b c d z x y w)(h0:s=0):(x=0/\y=0/\w=0)/\Zbf a b c d z:=by
 rcases h with h|h
 ·exact h.2
 ·rcases h.1 with h1|h1 <;> omega
theorem Qoy{s a b c d z x y w:Int}(h:Qeh s a b c d z x y w)(h0:¬s=0):B5 s/\((a=0/\b=0)/\(c=0/\d=0)/\z=0)/\inP (pL s) (Wk s) x y w:=by
 rcases h with h|h
 ·exact absurd h.1 h0
 ·exact h
noncomputable def Qie(f:FuncId):K:={fn:=f,ext:=false,ins:=[.agg Zw9],outs:=[oB],pre:=fun _=>True,sem:=fun|[s,a,b,c,d,z,x,y,w]=>[bj (Qeh s a b c d z x y w)]|_=>[] }
def Qsh:Qq:=(.l 9 .bit (.c .eql (.v 0) (.n 0))
(.split 9
(.l 10 .bit (.eqs [((.v 6),(.n 0)),((.v 7),(.n 0)),((.v 8),(.n 0))])
(.split 10
(xw 0 [.v 1,.v 2,.v 3,.v 4,.v 5] 11 qga
(.ret [.v 11]))
(.ret [.n 0])))
(.l 10 .bit (.c .eql (.v 0) (.n 1))
(.split 10
(.l 11 .bit (.eqs [((.m 1 0),(.n 0)),((.m 1 1),(.n 0)),((.m 1 2),(.n 0)),((.m 1 3),(.n 0)),((.m 1 4),(.n 0)),((.m 1 5),(.n 0)),((.m 2 0),(.n 0)),((.m 2 1),(.n 0)),((.m 2 2),(.n 0)),((.m 2 3),(.n 0)),((.m 2 4),(.n 0)),((.m 2 5),(.n 0)),((.m 3 0),(.n 0)),((.m 3 1),(.n 0)),((.m 3 2),(.n 0)),((.m 3 3),(.n 0)),((.m 3 4),(.n 0)),((.m 3 5),(.n 0)),((.m 4 0),(.n 0)),((.m 4 1),(.n 0)),((.m 4 2),(.n 0)),((.m 4 3),(.n 0)),((.m 4 4),(.n 0)),((.m 4 5),(.n 0)),((.v 5),(.n 0))])
(.split 11
(xw 1 [.v 0,.v 6,.v 7,.v 8] 12 qga
(.ret [.v 12]))
(.ret [.n 0])))
(.l 11 .bit (.c .eql (.v 0) (.n 2))
(.split 11
(.l 12 .bit (.eqs [((.m 1 0),(.n 0)),((.m 1 1),(.n 0)),((.m 1 2),(.n 0)),((.m 1 3),(.n 0)),((.m 1 4),(.n 0)),((.m 1 5),(.n 0)),((.m 2 0),(.n 0)),((.m 2 1),(.n 0)),((.m 2 2),(.n 0)),((.m 2 3),(.n 0)),((.m 2 4),(.n 0)),((.m 2 5),(.n 0)),((.m 3 0),(.n 0)),((.m 3 1),(.n 0)),((.m 3 2),(.n 0)),((.m 3 3),(.n 0)),((.m 3 4),(.n 0)),((.m 3 5),(.n 0)),((.m 4 0),(.n 0)),((.m 4 1),(.n 0)),((.m 4 2),(.n 0)),((.m 4 3),(.n 0)),((.m 4 4),(.n 0)),((.m 4 5),(.n 0)),((.v 5),(.n 0))])
(.split 12
(xw 1 [.v 0,.v 6,.v 7,.v 8] 13 qga
(.ret [.v 13]))
(.ret [.n 0])))
(.ret [.n 0])))))))
theorem Qu4(f1 f2 f:FuncId)(e:Nat->Int)(hk:Q0 [.int .i64,.num,.num,.num,.num,.bit,.int .u64,.int .u64,.bit] [e 0,e 1,e 2,e 3,e 4,e 5,e 6,e 7,e 8]):Qsh.Xat [Zhp f1,Zj5 f2] ⟨fun ys=>ys=(Qie f).sem [e 0,e 1,e 2,e 3,e 4,e 5,e 6,e 7,e 8],[]⟩ e:=by
 obtain⟨_,u1,u2,u3,u4,_⟩:=hk;show Qsh.Xat _ ⟨fun ys=>ys=[bj (Qeh (e 0) (e 1) (e 2) (e 3) (e 4) (e 5) (e 6) (e 7) (e 8))],[]⟩ e;intro a9 _;have b9:=Zy a9;simp only[Ql,Qn]at b9;refine⟨fun h9=>?_,fun h9=>?_⟩
 ·have e0:e 0=0:=Xn b9 h9;intro a10 _;have b10:=Zzj a10;refine⟨fun h10=>⟨trivial,fun a11 _=>?_⟩,fun h10=>?_⟩
  ·have v11:e 11=bj (Zbf (e 1) (e 2) (e 3) (e 4) (e 5)):=a11;show[e 11]=_;rw[v11];exact congrArg (fun x=>[x]) (Qbw ⟨fun h=>.inl ⟨e0,Xn b10 h10,h⟩,fun h=>(Qzm h e0).2⟩)
  ·show[(0:Int)]=_;rw[Qcj (fun h=>Wc b10 h10 (Qzm h e0).1)]
 ·have n0:¬e 0=0:=Wc b9 h9;have key:∀(v:Int),B5 (e 0)->v=bj (B5 (e 0)/\inP (pL (e 0)) (Wk (e 0)) (e 6) (e 7) (e 8))->((e 1=0/\e 2=0)/\(e 3=0/\e 4=0)/\e 5=0)->[v]=[bj (Qeh (e 0) (e 1) (e 2) (e 3) (e 4) (e 5) (e 6) (e 7) (e 8))]:=fun v hl hv hz=>by
   rw[hv];exact congrArg (fun x=>[x]) (Qbw ⟨fun h=>.inr ⟨hl,hz,h.2⟩,fun h=>⟨hl,(Qoy h n0).2.2⟩⟩)
  have none:¬((e 1=0/\e 2=0)/\(e 3=0/\e 4=0)/\e 5=0)->[(0:Int)]=[bj (Qeh (e 0) (e 1) (e 2) (e 3) (e 4) (e 5) (e 6) (e 7) (e 8))]:=fun hz=>by
   rw[Qcj (fun h=>hz (Qoy h n0).2.1)]
  intro a10 _;have b10:=Zy a10;simp only[Ql,Qn]at b10;refine⟨fun h10=>?_,fun h10=>?_⟩
  ·intro a11 _;have b11:=Zx4 a11 u1 u2 u3 u4;exact⟨fun h11=>⟨trivial,fun a12 _=>key _ (.inl (Xn b10 h10)) a12 (Xn b11 h11)⟩,fun h11=>none (Wc b11 h11)⟩
  ·intro a11 _;have b11:=Zy a11;simp only[Ql,Qn]at b11;refine⟨fun h11=>?_,fun h11=>?_⟩
   ·intro a12 _;have b12:=Zx4 a12 u1 u2 u3 u4;exact⟨fun h12=>⟨trivial,fun a13 _=>key _ (.inr (Xn b11 h11)) a13 (Xn b12 h12)⟩,fun h12=>none (Wc b12 h12)⟩
   ·show[(0:Int)]=_;rw[Qcj (fun h=>by
     rcases(Qoy h n0).1 with h1|h1
     ·exact Wc b10 h10 h1
     ·exact Wc b11 h11 h1)]
end Go.Sx


namespace Go.Sx
theorem Qdc:Xs.toNat<2^384:=by decide +kernel
theorem Zo4:0<Xs:=by decide
theorem Zn1{t:T2}(h:Qa7 t):Zbf t.1.1 t.1.2 t.2.1.1 t.2.1.2 t.2.2↔G2.In Xs.toNat t:=by
 obtain⟨B,j,m⟩:=Qg4 ph2 ns2 (B6 h) (Xy h) 384 Xs.toNat Qdc;have hz:R2.isz (W5 R2 (Qi2 t.1.1 t.1.2 t.2.1.1 t.2.1.2 t.2.2) 384 Xs.toNat).z=true↔B=.O:=by
  constructor
  ·intro hc;cases B with
   |O=>rfl
   |P x y=>exact absurd (Qeg.2 hc) j.1
  ·intro hc;subst hc;exact Qeg.1 j
 constructor
 ·intro hg;have:=hz.1 hg.2;subst this;exact⟨h,m⟩
 ·intro hg;exact⟨h.2.2,hz.2 (Wt m hg.2)⟩
theorem Qik{p r:Int}(hp:prP p)(hr:r.toNat<2^64){t:Pt}(h:onL p t):inP p r t.x t.y t.z↔@Gp.In Pt (Zp p) (fdP hp) 64 (GL hp) r.toNat t:=by
 letI:=fdP hp;obtain⟨o,m⟩:=Qh9 hp h 64 r.toNat hr;have hz:(Xa p t 64 r.toNat).z≠0↔ptL p (Xa p t 64 r.toNat)=.O:=by
  unfold ptL;constructor
  ·intro hc;rw[if_neg hc]
  ·intro hc hz;rw[if_pos hz]at hc;cases hc
 constructor
 ·intro hg;have hm:Ml 1 0 r.toNat (ptL p t) (ptL p (Xa p t 64 r.toNat)):=m;rw[hz.1 hg.2]at hm;exact⟨h,hm⟩
 ·intro hg;exact⟨h.1,hz.2 (Wt m hg.2)⟩
theorem Qcu{s:Int}(h:B5 s):(Wk s).toNat<2^64:=by have:=Zf8 h;omega
structure Ky where
 s:Int
 t:T1
 l:Pt
theorem Zgy{z:Int}(h:z=0∨z=1):0<=z/\z<=1:=by omega
theorem Zpa{s:Int}(h:s=0):Wk s=Xs:=if_pos h
theorem Qbh{n r:Int}(hr:0<r)(hn:n<r):n.toNat<r.toNat:=by omega
theorem Ym{s:Int}(h:B5 s):¬s=0:=by rcases h with h|h <;> omega
section
variable {k k':Ky}
end
theorem Zji(P:J E2):Ba P=[(Qbb P).1.1,(Qbb P).1.2,(Qbb P).2.1.1,(Qbb P).2.1.2,(Qbb P).2.2]:=By P
structure Sg where
 s:Int
 t:T2
 l:Pt
def Sg.L(k:Sg):List Int:=[k.s,k.t.1.1,k.t.1.2,k.t.2.1.1,k.t.2.1.2,k.t.2.2,k.l.x,k.l.y,k.l.z]
def Sg.ok(k:Sg):Prop:=Qeh k.s k.t.1.1 k.t.1.2 k.t.2.1.1 k.t.2.1.2 k.t.2.2 k.l.x k.l.y k.l.z
def Sg.rg(k:Sg):Prop:=(((0<=k.t.1.1/\0<=k.t.1.2)/\0<=k.t.2.1.1/\0<=k.t.2.1.2)/\0<=k.t.2.2/\k.t.2.2<=1)/\(0<=k.l.x/\0<=k.l.y)/\0<=k.l.z/\k.l.z<=1
def Sg.Is(k:Sg):Prop:=(k.s=0/\k.l=⟨0,0,0⟩/\G2.In Xs.toNat k.t)∨∃h:B5 k.s,k.t=((0,0),(0,0),0)/\@Gp.In Pt (Zp (pL k.s)) (fdP (Jz h)) 64 (GL (Jz h)) (Wk k.s).toNat k.l
theorem Sg.Xbz{k:Sg}(h:k.Is):k.ok/\k.rg:=by
 obtain⟨s,⟨⟨x,x'⟩,⟨y,y'⟩,z⟩,⟨lx,ly,lz⟩⟩:=k;rcases h with⟨h1,h2,h3⟩|⟨h1,h2,h3⟩
 ·injection h2 with q1 q2 q3;have c:=h3.1;refine⟨.inl ⟨h1,⟨q1,q2,q3⟩,(Zn1 h3.1).2 h3⟩,⟨⟨⟨c.1.1.1.1,c.1.1.2.1⟩,c.1.2.1.1,c.1.2.2.1⟩,Zgy c.2.1⟩,?_⟩;show(0<=lx/\0<=ly)/\0<=lz/\lz<=1;rw[q1,q2,q3];decide
 ·have c:onL (pL s) ⟨lx,ly,lz⟩:=h3.1;have h2:(((x,x'),(y,y'),z):T2)=((0,0),(0,0),0):=h2;injection h2 with q1 q2;injection q1 with q1 q1';injection q2 with q2 q3;injection q2 with q2 q2';refine⟨.inr ⟨h1,⟨⟨q1,q1'⟩,⟨q2,q2'⟩,q3⟩,(Qik (Jz h1) (Qcu h1) c).2 h3⟩,?_,c.2.1,?_⟩
  ·show((0<=x/\0<=x')/\0<=y/\0<=y')/\0<=z/\z<=1;rw[q1,q2,q3,q1',q2'];decide
  ·have h4:=c.2.2;have h4:lz=0∨lz=1:=h4;show 0<=lz/\lz<=1;omega
def Sg.add(k k':Sg):Sg:=if k.s=0 then⟨0,G2.add k.t k'.t,⟨0,0,0⟩⟩else⟨k.s,((0,0),(0,0),0),Yg (pL k.s) k.l k'.l⟩
def Sg.mul(k:Sg)(n:Nat):Sg:=if k.s=0 then⟨0,G2.mul k.t n,⟨0,0,0⟩⟩else⟨k.s,((0,0),(0,0),0),Xa (pL k.s) k.l 64 n⟩
section
variable {k k':Sg}
end
end Go.Sx
namespace Go.Sx
open Go Go.RowKit
set_option maxRecDepth 100000
def c2H:Int:=7753471546817421876352401404677497346
def c2L:Int:=31640087687133594561672938042040237956554166779806713946917678553406339831293190165893855194701355984543931497068773
def cSh:Int:=6277101735386680763835789423207666416102355444464034512896
def Qgq(s:ByteArray)(v:Int)(f:FuncId):K:={fn:=f,ext:=false,ins:=[.one (.cst (.str s))],outs:=[oN],pre:=fun _=>True,sem:=fun _=>[v] }
def Qp3(f:FuncId):K:={fn:=f,ext:=false,ins:=[iN,.one (.cst (.int .i64 (.lit 192)))],outs:=[oN],pre:=fun|[a]=>a=1|_=>False,sem:=fun _=>[cSh] }
def Zwk(v:Int):List W->Bool|[.wi a]=>a==v|_=>false
theorem Qrw{t:Qq}{v:Int}(hc:t.clo Qut (Zwk v) []=true)(f1 f2:FuncId)(e:Nat->Int):t.Xat [Qs7 f1,Qgj f2] ⟨fun ys=>ys=[v],[]⟩ e:=by
 refine Bt (fd:=Qut) (fun g us os h=>?_) (fun ws h=>?_) t [] hc fun p hp=>absurd hp (M6)
 ·unfold Qut at h;split at h
  ·cases h;exact⟨_,rfl,trivial,rfl⟩
  ·split at h
   ·rename_i a ha;cases h;refine⟨_,rfl,?_,rfl⟩;show a<2^380;rw[show(2:Int)^380=2462625387274654950767440006258975862817483704404090416746768337765357610718575663213391640930307227550414249394176 by decide +kernel];exact ha
   ·cases h
  ·cases h
 ·match ws,h with
  |[.wi a],h =>
   have h:(a==v)=true:=h;rw[beq_iff_eq]at h;show[a]=[v]
   rw[h]
def Znb:Qq:=(.l 1 kU (.b .shl .u64 (.m 0 0) (.n 0))
(.l 2 kU (.b .shl .u64 (.m 0 1) (.n 0))
(.l 3 kU (.b .shl .u64 (.m 0 2) (.n 0))
(.l 4 .num (.join [.n 0,.n 0,.n 0,.v 1,.v 2,.v 3])
(.ret [.v 4])))))
theorem Qur(f:FuncId)(e:Nat->Int)(hp:e 0=1):Znb.Xat [] ⟨fun ys=>ys=(Qp3 f).sem [e 0],[]⟩ e:=by
 intro a1 _ a2 _ a3 _ a4 _;have l0:A.ev e (.m 0 0)=1:=by show e 0/p64 0%18446744073709551616=1;rw[hp];decide +kernel
 have l1:A.ev e (.m 0 1)=0:=by show e 0/p64 1%18446744073709551616=0;rw[hp];decide +kernel
 have l2:A.ev e (.m 0 2)=0:=by show e 0/p64 2%18446744073709551616=0;rw[hp];decide +kernel
 have v1:e 1=1:=by rw[show e 1=Qm .shl .u64 (A.ev e (.m 0 0)) 0 from a1,l0];decide +kernel
 have v2:e 2=0:=by rw[show e 2=Qm .shl .u64 (A.ev e (.m 0 1)) 0 from a2,l1];decide +kernel
 have v3:e 3=0:=by rw[show e 3=Qm .shl .u64 (A.ev e (.m 0 2)) 0 from a3,l2];decide +kernel
 show[e 4]=[cSh]
 rw[show e 4=Y6 [0,0,0,e 1,e 2,e 3]from a4,v1,v2,v3];decide +kernel
theorem Qiv{t:T2}{n:Int}{x0 x1 x2 x3 x4 x5:Int}(h0:x0=((Qaw 0).sem [t.1.1,t.1.2,t.2.1.1,t.2.1.2,t.2.2,n]).getD 0 0)(h1:x1=((Qaw 0).sem [t.1.1,t.1.2,t.2.1.1,t.2.1.2,t.2.2,n]).getD 1 0)(h2:x2=((Qaw 0).sem [t.1.1,t.1.2,t.2.1.1,t.2.1.2,t.2.2,n]).getD 2 0)
  (h3:x3=((Qaw 0).sem [t.1.1,t.1.2,t.2.1.1,t.2.1.2,t.2.2,n]).getD 3 0) (h4:x4=((Qaw 0).sem [t.1.1,t.1.2,t.2.1.1,t.2.1.2,t.2.2,n]).getD 4 0) (h5:x5=((Qaw 0).sem [t.1.1,t.1.2,t.2.1.1,t.2.1.2,t.2.2,n]).getD 5 0) :
  (((x0,x1),(x2,x3),x4):T2)=G2.mul t n.toNat/\x5=0:=by
 have q:(Qaw 0).sem [t.1.1,t.1.2,t.2.1.1,t.2.1.2,t.2.2,n]=T2.L (G2.mul t n.toNat)++[0]:=by
  show Ba (W5 R2 (rsU t) 384 n.toNat)++[0]=T2.L (Qbb (W5 R2 (rsU t) 384 n.toNat))++[0]
  rw[Zji];rfl
 rw[q]at h0 h1 h2 h3 h4 h5;refine⟨?_,h5⟩;rw[h0,h1,h2,h3,h4];rfl
def hi3(t:T2):T2:=G2.mul (G2.mul (G2.mul t c2H.toNat) cSh.toNat) cSh.toNat
noncomputable def Qs0(t:T2):T2:=Qbb (J5 [enc (T2.L (hi3 t)),enc (T2.L t)] [1,c2L])
noncomputable def Qd5(f:FuncId):K:={fn:=f,ext:=false,ins:=[.agg Qby],outs:=[.agg Qby,oI],pre:=fun|[a,b,c,d,z]=>Qa7 ((a,b),(c,d),z)|_=>False,sem:=fun|[a,b,c,d,z]=>T2.L (Qs0 ((a,b),(c,d),z))++[0]|_=>[] }
theorem Qpu{t:T2}(h:Qa7 t):Qhl t.1.1 t.1.2 t.2.1.1 t.2.1.2 t.2.2:=h.2.2
def Qzc:Qq:=(xw 1 [] 53 Z7
(xw 0 [.v 0,.v 1,.v 2,.v 3,.v 4,.v 53] 101 qea
(.l 437 .bit (.c .neq (.v 106) (.n 0))
(.split 437
(.ret [.n 0,.n 0,.n 0,.n 0,.n 0,.v 106])
(xw 3 [.n 1] 438 Z7
(xw 4 [.v 438] 439 Z7
(xw 0 [.v 101,.v 102,.v 103,.v 104,.v 105,.v 439] 440 qea
(xw 0 [.v 440,.v 441,.v 442,.v 443,.v 444,.v 439] 446 qea
(xw 3 [.n 1] 596 Z7
(xw 2 [] 644 Z7
(.l 740 .any (.lapp (.n 0) [.v 446,.v 447,.v 448,.v 449,.v 450])
(.l 741 .any (.lapp (.n 0) [.v 0,.v 1,.v 2,.v 3,.v 4])
(.l 742 (.lst (.tup .num [.num,.num,.num,.bit])) (.lapp (.n 0) [.v 740,.v 741])
(.l 743 (.lst .num) (.lapp (.n 0) [.v 596,.v 644])
(xw 5 [.v 742,.v 743] 744 qea
(.ret [.v 744,.v 745,.v 746,.v 747,.v 748,.v 749]))))))))))))))))
theorem Qw3(s1 s2:ByteArray)(f0 f1 f2 f3 f4 f5 f:FuncId)(e:Nat->Int)(hp:(Qd5 f).pre [e 0,e 1,e 2,e 3,e 4]):Qzc.Xat [Qaw f0,Qgq s1 c2H f1,Qgq s2 c2L f2,kOf f3,Qp3 f4,Wl f5] ⟨fun ys=>ys=(Qd5 f).sem [e 0,e 1,e 2,e 3,e 4],[]⟩ e:=by
 obtain⟨t,ht0⟩:∃t:T2,t=((e 0,e 1),(e 2,e 3),e 4):=⟨_,rfl⟩
 have ht:Qa7 t:=by rw[ht0];exact hp
 show Qzc.Xat _ ⟨fun ys=>ys=T2.L (Qs0 ((e 0,e 1),(e 2,e 3),e 4))++[0],[]⟩ e;rw[<- ht0];have k1:=(G2.mul_ok (n:=c2H.toNat) ht (by decide +kernel)).1;have k2:=(G2.mul_ok (n:=cSh.toNat) k1 (by decide +kernel)).1;have k3:=(G2.mul_ok (n:=cSh.toNat) k2 (by decide +kernel)).1;refine⟨trivial,fun a53 _=>⟨hp.2.2,fun a101 _ a102 _ a103 _ a104 _ a105 _ a106 _ a437 _=>?_⟩⟩;have v53:e 53=c2H:=a53;obtain⟨r1,v106⟩:(((e 101,e 102),(e 103,e 104),e 105):T2)=G2.mul t c2H.toNat/\e 106=0:=by
  rw[<- v53,ht0];exact Qiv (t:=((e 0,e 1),(e 2,e 3),e 4)) (n:=e 53) a101 a102 a103 a104 a105 a106
 have b437:=Qfl a437;simp only[Ql,Qn]at b437;refine⟨fun h=>by omega,fun _=>⟨trivial,fun a438 _=>?_⟩⟩;have v438:e 438=1:=a438;refine⟨v438,fun a439 _=>?_⟩;have v439:e 439=cSh:=a439;rw[<- r1]at k1;refine⟨Qpu k1,fun a440 _ a441 _ a442 _ a443 _ a444 _ a445 _=>?_⟩;obtain⟨r2,v445⟩:(((e 440,e 441),(e 442,e 443),e 444):T2)=G2.mul (G2.mul t c2H.toNat) cSh.toNat/\e 445=0:=by
  rw[<- v439,<- r1];exact Qiv (t:=((e 101,e 102),(e 103,e 104),e 105)) (n:=e 439) a440 a441 a442 a443 a444 a445
 rw[<- r2]at k2;refine⟨Qpu k2,fun a446 _ a447 _ a448 _ a449 _ a450 _ a451 _=>⟨trivial,fun a596 _=>⟨trivial,fun a644 _ a740 _ a741 _ a742 _ a743 _=>?_⟩⟩⟩;obtain⟨r3,v451⟩:(((e 446,e 447),(e 448,e 449),e 450):T2)=hi3 t/\e 451=0:=by
  obtain⟨q1,q2⟩:=Qiv (t:=((e 440,e 441),(e 442,e 443),e 444)) (n:=e 439) a446 a447 a448 a449 a450 a451;rw[r2,v439]at q1;exact⟨q1,q2⟩
 have k3':Qa7 (hi3 t):=k3;have v596:e 596=1:=a596;have v644:e 644=c2L:=a644;have v740:e 740=enc (T2.L (hi3 t)):=by
  rw[<- r3,show e 740=enc (dec 0++[e 446,e 447,e 448,e 449,e 450])from a740,Qv];rfl
 have v741:e 741=enc (T2.L t):=by
  rw[ht0,show e 741=enc (dec 0++[e 0,e 1,e 2,e 3,e 4])from a741,Qv];rfl
 have d742:dec (e 742)=[e 740,e 741]:=by rw[show e 742=enc (dec 0++[e 740,e 741])from a742,Qu,Qv];rfl
 have d743:dec (e 743)=[e 596,e 644]:=by rw[show e 743=enc (dec 0++[e 596,e 644])from a743,Qu,Qv];rfl
 have onw:∀u:T2,Qa7 u->onW (enc (T2.L u)):=fun u hu=>by
  have h:=Qpu hu;unfold onW cq;rw[Qu];exact h
 have hpre:(Wl f5).pre [e 742,e 743]:=by
  show(dec (e 742)).length=(dec (e 743)).length/\(dec (e 742)).length<=1000/\∀c∈dec (e 742),onW c;rw[d742,d743];refine⟨rfl,(show(2:Nat)<=1000 by decide),fun c hc=>?_⟩;simp only[Mh,M6,or_false]at hc;rcases hc with rfl|rfl
  ·rw[v740];exact onw _ k3'
  ·rw[v741];exact onw _ ht
 refine⟨hpre,fun a744 _ a745 _ a746 _ a747 _ a748 _ a749 _=>?_⟩;have q:∀i,((Wl f5).sem [e 742,e 743]).getD i 0=(T2.L (Qs0 t)++[0]).getD i 0:=fun i=>by
  show(Ba (J5 (dec (e 742)) (dec (e 743)))++[0]).getD i 0=_;rw[d742,d743,v740,v741,v596,v644,Zji];rfl
 show[e 744,e 745,e 746,e 747,e 748,e 749]=_;rw[show e 744=((Wl f5).sem [e 742,e 743]).getD 0 0 from a744,show e 745=((Wl f5).sem [e 742,e 743]).getD 1 0 from a745,show e 746=((Wl f5).sem [e 742,e 743]).getD 2 0 from a746,show e 747=((Wl f5).sem [e 742,e 743]).getD 3 0 from a747,show e 748=((Wl f5).sem [e 742,e 743]).getD 4 0 from a748,show e 749=((Wl f5).sem [e 742,e 743]).getD 5 0 from a749,q,q,q,q,q,q];rfl
theorem Zjy{s:Int}(h:Vf s):Wk s%2=1/\3<=Wk s/\Wk s<2^382:=by
 have:s=0∨s=1∨s=2:=by unfold Vf at h;omega
 rcases this with h|h|h <;> rw[h] <;> refine⟨by decide +kernel,by decide +kernel,by decide +kernel⟩
theorem Qy0:bP%2=1/\3<=bP/\bP<2^382:=⟨Qbq,by decide +kernel,by decide +kernel⟩
noncomputable def Qem(s x:Int):List Int:=if Vf s then(if X8 (dec x)<=65536 then[Y8 (Wk s) 2 (Zz (dec x)),0]else[0,3])else[0,2]
noncomputable def Qsr(Q:Int->List Int->Prop)(f:FuncId):K:={fn:=f,ext:=false,ins:=[iI,.ll],outs:=[oN,oI],pre:=fun|[_,x]=>Qo4 x/\(X8 (dec x)<=65536->Q 2 (Zz (dec x)))|_=>False,sem:=fun|[s,x]=>Qem s x|_=>[] }
noncomputable def Qgl(s:Int)(t:List Int):Sg:=if s=0 then⟨0,Qs0 (Qdb (Y8 bP 3 t) (Y8 bP 4 t)),⟨0,0,0⟩⟩else⟨s,((0,0),(0,0),0),Qcx s 3 t⟩
def Qvz(t:List Int):Prop:=∃n:Nat,J7 (Y8 bP 4 t%bP) ((Y8 bP 3 t+n)%bP)
noncomputable def Qj6(s x:Int):List Int:=if Vf s then(if X8 (dec x)<=65536 then Sg.L (Qgl s (Zz (dec x)))++[0]else[0,0,0,0,0,0,0,0,0,3])else[0,0,0,0,0,0,0,0,0,2]
noncomputable def Qqu(Q:Int->List Int->Prop)(f:FuncId):K:={fn:=f,ext:=false,ins:=[iI,.ll],outs:=[.agg Zw9,oI],pre:=fun|[s,x]=>Qo4 x/\(s=0->X8 (dec x)<=65536->Qvz (Zz (dec x)))/\(X8 (dec x)<=65536->Q 3 (Zz (dec x))/\Q 4 (Zz (dec x)))|_=>False,sem:=fun|[s,x]=>Qj6 s x|_=>[] }
theorem Zix{x:Int}(h:X8 (dec x)<=65536):(Zz (dec x)).length<=65536:=by have:=Qf0 (dec x);omega
theorem Qld{s x a b:Int}(ha:a=(if Vf s then Qm7 x else[0,2]).getD 0 0)(hb:b=(if Vf s then Qm7 x else[0,2]).getD 1 0) :
  (¬Vf s/\b=2)∨(Vf s/\¬X8 (dec x)<=65536/\b=3)∨(Vf s/\X8 (dec x)<=65536/\b=0/\dec a=Zz (dec x)):=by
 by_cases hs:Vf s
 ·rw[if_pos hs]at ha hb;unfold Qm7 at ha hb;by_cases ht:X8 (dec x)<=65536
  ·rw[if_pos ht]at ha hb;exact .inr (.inr ⟨hs,ht,hb,by rw[ha];exact Qu _⟩)
  ·rw[if_neg ht]at ha hb;exact .inr (.inl ⟨hs,ht,hb⟩)
 ·rw[if_neg hs]at ha hb;exact .inl ⟨hs,hb⟩
def Qju:Qq:=(xw 0 [.v 0,.v 1] 2 [(.lst (.int .u8)),kI]
(.l 4 .bit (.c .neq (.v 3) (.n 0))
(.split 4
(.ret [.n 0,.v 3])
(xw 1 [.v 0] 5 Z7
(xw 2 [.v 5,.n 2,.v 2] 6 Z7
(.ret [.v 6,.n 0]))))))
theorem Zgv(Q:Int->List Int->Prop)(te:TypeId)(f0 f1 f2 f:FuncId)(e:Nat->Int)(hp:(Qsr Q f).pre [e 0,e 1]):Qju.Xat [Qlc te f0,Vr f1,Qe9 Q f2] ⟨fun ys=>ys=(Qsr Q f).sem [e 0,e 1],[]⟩ e:=by
 obtain⟨hp,hq⟩:Qo4 (e 1)/\(X8 (dec (e 1))<=65536->Q 2 (Zz (dec (e 1)))):=hp;show Qju.Xat _ ⟨fun ys=>ys=Qem (e 0) (e 1),[]⟩ e;unfold Qem;refine⟨hp,fun a2 _ a3 _ a4 _=>?_⟩;have a3:e 3=_:=a3;have b4:=Qfl a4;simp only[Ql,Qn]at b4;rcases Qld (s:=e 0) (x:=e 1) a2 a3 with⟨h1,h2⟩|⟨h1,h2,h3⟩|⟨h1,h2,h3,h4⟩
 ·refine⟨fun _=>?_,fun h=>by omega⟩;rw[if_neg h1];show[0,e 3]=_;rw[h2]
 ·refine⟨fun _=>?_,fun h=>by omega⟩;rw[if_pos h1,if_neg h2];show[0,e 3]=_;rw[h3]
 ·refine⟨fun h=>by omega,fun _=>⟨h1,fun a5 _=>?_⟩⟩;have v5:e 5=Wk (e 0):=a5;refine⟨⟨by show e 5%2=1/\3<=e 5/\e 5<2^382;rw[v5];exact Zjy h1,by show(dec (e 2)).length<=65536;rw[h4];exact Zix h2,by show Q 2 (dec (e 2));rw[h4];exact hq h2⟩,fun a6 _=>?_⟩;have v6:e 6=Y8 (e 5) 2 (dec (e 2)):=a6;rw[if_pos h1,if_pos h2];show[e 6,0]=_;rw[v6,v5,h4]
def Qjf:Qq:=(xw 0 [.v 0,.v 1] 2 [(.lst (.int .u8)),kI]
(.l 4 .bit (.c .neq (.v 3) (.n 0))
(.split 4
(.ret [.n 0,.n 0,.n 0,.n 0,.n 0,.n 0,.n 0,.n 0,.n 0,.v 3])
(.l 5 .bit (.c .eql (.v 0) (.n 0))
(.split 5
(xw 1 [.v 0] 6 Z7
(xw 2 [.v 6,.n 3,.v 2] 7 Z7
(xw 1 [.v 0] 8 Z7
(xw 2 [.v 8,.n 4,.v 2] 9 Z7
(xw 3 [.v 7,.v 9] 10 qea
(xw 4 [.v 10,.v 11,.v 12,.v 13,.v 14] 16 qea
(.ret [.v 0,.v 16,.v 17,.v 18,.v 19,.v 20,.n 0,.n 0,.n 0,.n 0])))))))
(xw 5 [.v 0,.n 3,.v 2] 6 qma
(.ret [.v 0,.n 0,.n 0,.n 0,.n 0,.n 0,.v 6,.v 7,.v 8,.n 0])))))))
theorem Zhe(Q:Int->List Int->Prop)(te:TypeId)(f0 f1 f2 f3 f4 f5 f:FuncId)(e:Nat->Int)(hp:(Qqu Q f).pre [e 0,e 1]):Qjf.Xat [Qlc te f0,Qfe f1,Qe9 Q f2,Qle f3,Qd5 f4,Qtg Q f5] ⟨fun ys=>ys=(Qqu Q f).sem [e 0,e 1],[]⟩ e:=by
 obtain⟨hp,hthere,hq⟩:Qo4 (e 1)/\(e 0=0->X8 (dec (e 1))<=65536->Qvz (Zz (dec (e 1))))/\(X8 (dec (e 1))<=65536->Q 3 (Zz (dec (e 1)))/\Q 4 (Zz (dec (e 1)))):=hp;show Qjf.Xat _ ⟨fun ys=>ys=Qj6 (e 0) (e 1),[]⟩ e;unfold Qj6;refine⟨hp,fun a2 _ a3 _ a4 _=>?_⟩;have a3:e 3=_:=a3;have b4:=Qfl a4;simp only[Ql,Qn]at b4;rcases Qld (s:=e 0) (x:=e 1) a2 a3 with⟨h1,h2⟩|⟨h1,h2,h3⟩|⟨h1,h2,h3,h4⟩
 ·refine⟨fun _=>?_,fun h=>by omega⟩;rw[if_neg h1];show[0,0,0,0,0,0,0,0,0,e 3]=_;rw[h2]
 ·refine⟨fun _=>?_,fun h=>by omega⟩;rw[if_pos h1,if_neg h2];show[0,0,0,0,0,0,0,0,0,e 3]=_;rw[h3]
 ·refine⟨fun h=>by omega,fun _ a5 _=>?_⟩;have b5:=Zy a5;simp only[Ql,Qn]at b5;rw[if_pos h1,if_pos h2];have hlen:=Zix h2;refine⟨fun h=>?_,fun h=>?_⟩
  ·have h0:=Xn b5 h;have hth:=hthere h0 h2;refine⟨h1,fun a6 _=>?_⟩;have v6:e 6=bP:=by rw[show e 6=Bc (e 0)from a6,Bc,if_pos h0]
   refine⟨⟨by show e 6%2=1/\3<=e 6/\e 6<2^382;rw[v6];exact Qy0,by show(dec (e 2)).length<=65536;rw[h4];exact hlen,by show Q 3 (dec (e 2));rw[h4];exact(hq h2).1⟩,fun a7 _=>⟨h1,fun a8 _=>?_⟩⟩;have v8:e 8=bP:=by rw[show e 8=Bc (e 0)from a8,Bc,if_pos h0]
   refine⟨⟨by show e 8%2=1/\3<=e 8/\e 8<2^382;rw[v8];exact Qy0,by show(dec (e 2)).length<=65536;rw[h4];exact hlen,by show Q 4 (dec (e 2));rw[h4];exact(hq h2).2⟩,fun a9 _=>?_⟩;have v7:e 7=Y8 bP 3 (Zz (dec (e 1))):=by rw[show e 7=Y8 (e 6) 3 (dec (e 2))from a7,v6,h4]
   have v9:e 9=Y8 bP 4 (Zz (dec (e 1))):=by rw[show e 9=Y8 (e 8) 4 (dec (e 2))from a9,v8,h4]
   have hth':∃n:Nat,J7 (e 9%bP) ((e 7+n)%bP):=by rw[v7,v9];exact hth
   refine⟨hth',fun a10 _ a11 _ a12 _ a13 _ a14 _ a15 _=>?_⟩;have r1:(((e 10,e 11),(e 12,e 13),e 14):T2)=Qdb (e 7) (e 9):=by
    rw[show e 10=_ from a10,show e 11=_ from a11,show e 12=_ from a12,show e 13=_ from a13,show e 14=_ from a14];rfl
   refine⟨by show Qa7 ((e 10,e 11),(e 12,e 13),e 14);rw[r1];exact Qmm hth',fun a16 _ a17 _ a18 _ a19 _ a20 _ a21 _=>?_⟩;have r2:(((e 16,e 17),(e 18,e 19),e 20):T2)=Qs0 (Qdb (e 7) (e 9)):=by
    rw[<- r1,show e 16=_ from a16,show e 17=_ from a17,show e 18=_ from a18,show e 19=_ from a19,show e 20=_ from a20];rfl
   show[e 0,e 16,e 17,e 18,e 19,e 20,0,0,0,0]=_;unfold Qgl;rw[if_pos h0,h0,<- v7,<- v9,<- r2];rfl
  ·have h0:=Wc b5 h;have hl:B5 (e 0):=by unfold Vf at h1;unfold B5;omega
   refine⟨⟨hl,by show(dec (e 2)).length<=65536;rw[h4];exact hlen,by show Q 3 (dec (e 2));rw[h4];exact(hq h2).1⟩,fun a6 _ a7 _ a8 _=>?_⟩;have r:([e 6,e 7,e 8]:List Int)=(Qcx (e 0) 3 (Zz (dec (e 1)))).l:=by
    rw[<- h4,show e 6=_ from a6,show e 7=_ from a7,show e 8=_ from a8];rfl
   show[e 0,0,0,0,0,0,e 6,e 7,e 8,0]=_;unfold Qgl;rw[if_neg h0];have q:Sg.L ⟨e 0,((0,0),(0,0),0),Qcx (e 0) 3 (Zz (dec (e 1)))⟩=[e 0,0,0,0,0,0]++(Qcx (e 0) 3 (Zz (dec (e 1)))).l:=rfl;rw[q,<- r];rfl
end Go.Sx

namespace Go.Sx
open Go Go.RowKit
set_option maxRecDepth 1000000
def Zaf(t u:T2)(m n:Int):J E2:=J.md R2 (Wo R2 (J.md R2 (Wo R2 (oJ R2) (W5 R2 (rsU t) 384 m.toNat))) (W5 R2 (rsU u) 384 n.toNat))
theorem Zx1(t:T2):rsW (enc (T2.L t))=rsU t:=by
 unfold rsW cq;rw[Qu];rfl
theorem Zt4(t u:T2)(m n:Int):J5 [enc (T2.L t),enc (T2.L u)] [m,n]=Zaf t u m n:=by
 unfold J5 Zaf;simp only[List.zip_cons_cons,List.zip_nil_right,List.foldl_cons,List.foldl_nil,Zx1]
theorem Ziv{k:Sg}{L:List Int}(h:L=k.L++[0]){x0 x1 x2 x3 x4 x5 x6 x7 x8 x9:Int}(h0:x0=L.getD 0 0)(h1:x1=L.getD 1 0)(h2:x2=L.getD 2 0)(h3:x3=L.getD 3 0)(h4:x4=L.getD 4 0)(h5:x5=L.getD 5 0)(h6:x6=L.getD 6 0)(h7:x7=L.getD 7 0)(h8:x8=L.getD 8 0)(h9:x9=L.getD 9 0):Sg.mk x0 ((x1,x2),(x3,x4),x5) ⟨x6,x7,x8⟩=k/\x9=0:=by
 subst h;subst h0 h1 h2 h3 h4 h5 h6 h7 h8 h9;exact⟨rfl,rfl⟩
section
variable {k k':Ky}{a0 a1 a2 a3 a4 a5 a6 b0 b1 b2 b3 b4 b5 b6 n x0 x1 x2 x3 x4 x5 x6 x7:Int}
end
section
variable {k k':Sg}{a0 a1 a2 a3 a4 a5 a6 a7 a8 b0 b1 b2 b3 b4 b5 b6 b7 b8 n x0 x1 x2 x3 x4 x5 x6 x7 x8 x9:Int}
theorem Zk5{k:Sg}(hk:Sg.mk a0 ((a1,a2),(a3,a4),a5) ⟨a6,a7,a8⟩=k)(h:k.ok):bj (Qeh a0 a1 a2 a3 a4 a5 a6 a7 a8)=1:=by
 subst hk;exact Ql9 h
end
set_option maxHeartbeats 4000000
theorem Zt3(a:Int){r:Int}(h:0<r):0<=a%r/\a%r<r:=⟨Mw _ (by omega),Mv _ h⟩
theorem Zth{T:List K}{e:Nat->Int}{v:Int}{i0 i1 i2 i3 i4 i5 i6 i7 i8 j0 j1 j2 j3 j4 j5 j6 j7 j8:Nat}(hv:v=(D.eqs [((.v i0),(.v j0)),((.m i1 0),(.m j1 0)),((.m i1 1),(.m j1 1)),((.m i1 2),(.m j1 2)),((.m i1 3),(.m j1 3)),((.m i1 4),(.m j1 4)),((.m i1 5),(.m j1 5)),((.m i2 0),(.m j2 0)),((.m i2 1),(.m j2 1)),((.m i2 2),(.m j2 2)),((.m i2 3),(.m j2 3)),((.m i2 4),(.m j2 4)),((.m i2 5),(.m j2 5)),((.m i3 0),(.m j3 0)),((.m i3 1),(.m j3 1)),((.m i3 2),(.m j3 2)),((.m i3 3),(.m j3 3)),((.m i3 4),(.m j3 4)),((.m i3 5),(.m j3 5)),((.m i4 0),(.m j4 0)),((.m i4 1),(.m j4 1)),((.m i4 2),(.m j4 2)),((.m i4 3),(.m j4 3)),((.m i4 4),(.m j4 4)),((.m i4 5),(.m j4 5)),((.v i5),(.v j5)),((.v i6),(.v j6)),((.v i7),(.v j7)),((.v i8),(.v j8))]).ev T e)(h:Sg.mk (e i0) ((e i1,e i2),(e i3,e i4),e i5) ⟨e i6,e i7,e i8⟩=Sg.mk (e j0) ((e j1,e j2),(e j3,e j4),e j5) ⟨e j6,e j7,e j8⟩):v≠0:=by
 injection h with h0 h1 h2;injection h1 with h1 h3;injection h1 with h1 h8;injection h3 with h3 h4;injection h3 with h3 h9;injection h2 with h5 h6 h7;rw[hv];simp only[D.ev,L1,Oaa,Qp,Qn,Ql,h0,h1,h3,h4,h5,h6,h7,h8,h9,beq_self_eq_true,H6,Xo];decide
end Go.Sx
namespace Go.Sx
open Cr
section
variable {α:Type}[Cr α]
def Ql2:Nat->α
 |0=>zero
 |1=>one
 |n+2=>add (Ql2 (n+1)) one
@[reducible] def ofN (n:Nat):OfNat α n:=match n with
 |0=>⟨zero⟩
 |1=>⟨one⟩
 |n+2=>⟨Ql2 (n+2)⟩
def npw(a:α):Nat->α
 |0=>one
 |n+1=>mul (npw a n) a
def Zmm:Int->α
 |.ofNat n=>Ql2 n
 |.negSucc n=>neg (Ql2 (n+1))
theorem Zgs:∀n,(Ql2 (n+1):α)=add (Ql2 n) one
 |0=>(zero_add _).symm
 |n+1=>rfl
theorem Qta:∀n,(ofN (α:=α) n).ofNat=Ql2 n
 |0=>rfl
 |1=>rfl
 |n+2=>rfl
theorem Zfs:∀i:Int,(Zmm (-i):α)=neg (Zmm i)
 |.ofNat 0=>Z0.symm
 |.ofNat (n+1)=>rfl
 |.negSucc n=>(neg_neg _).symm
end
instance  (priority:=low) gSr {α:Type}[Cr α]:Lean.Grind.Semiring α where
 add:=Cr.add
 mul:=Cr.mul
 natCast:=⟨Ql2⟩
 ofNat:=ofN
 nsmul:=⟨fun n a=>mul (Ql2 n) a⟩
 npow:=⟨npw⟩
 add_zero:=add_zero
 add_comm:=add_comm
 add_assoc:=add_assoc
 mul_assoc:=mul_assoc
 mul_one:=mul_one
 one_mul a:=(mul_comm _ _).trans (mul_one a)
 left_distrib:=mul_add
 right_distrib a b c:=by show mul (add a b) c=add (mul a c) (mul b c);rw[mul_comm,mul_add,mul_comm c,mul_comm c]
 zero_mul a:=(mul_comm _ _).trans (mul_zero a)
 mul_zero a:=mul_zero a
 pow_zero a:=rfl
 pow_succ a n:=rfl
 ofNat_succ n:=(Qta _).trans ((Zgs n).trans (congrArg (fun x=>add x one) (Qta n).symm))
 ofNat_eq_natCast n:=Qta n
 nsmul_eq_natCast_mul n a:=rfl
instance  (priority:=low) gRg {α:Type}[Cr α]:Lean.Grind.CommRing α where
 toSemiring:=gSr
 neg:=Cr.neg
 sub a b:=Cr.add a (Cr.neg b)
 intCast:=⟨Zmm⟩
 zsmul:=⟨fun n a=>mul (Zmm n) a⟩
 neg_add_cancel a:=(add_comm _ _).trans (add_neg a)
 sub_eq_add_neg a b:=rfl
 neg_zsmul i a:=(congrArg (fun x=>mul x a) (Zfs i)).trans (neg_mul _ _)
 zsmul_natCast_eq_nsmul n a:=rfl
 intCast_ofNat n:=(Qta n).symm
 intCast_neg i:=Zfs i
 mul_comm:=mul_comm
example {F:Type} [Cr F] (a b c:F):a*(b+c)=b*a+c*a:=by grind
example {F:Type} [Cr F] (a b c:F) (h:a+b=0):a*a=b*b:=by grind
example {F:Type} [Cr F] (a b c:F) (h:a+a=-1):(1+1)*a*b=- b:=by grind
theorem Qn8{α:Type}:∀(l m:List α),l.Nodup->(∀x,x∈l->x∈m)->m.length<=l.length->l.Perm m:=by
 classical
 intro l
 induction l with
 |nil=>intro m _ _ h;cases m with|nil=>exact .refl _|cons a m=>simp at h
 |cons a l ih =>
  intro m hn hs hl;have ha:=hs a (.head _);have hn:=List.nodup_cons.1 hn;have h1:=List.perm_cons_erase ha;refine((ih (m.erase a) hn.2 (fun x hx=>?_) ?_).cons a).trans h1.symm
  ·exact(List.mem_erase_of_ne (fun hc:x=a=>hn.1 (hc▸hx))).2 (hs x (.tail _ hx))
  ·rw[List.length_erase_of_mem ha];simp at hl;omega
theorem Zr1{α:Type}[DecidableEq α]:∀(l m:List α),l.Nodup->(∀x,x∈l->x∈m)->l.length<=m.length:=by
 intro l
 induction l with
 |nil=>intro m _ _;simp
 |cons a l ih =>
  intro m hl h;have ha:=h a (.head _);have hl:=List.nodup_cons.1 hl;have:=ih (m.erase a) hl.2 fun x hx=>(List.mem_erase_of_ne (fun hc:x=a=>hl.1 (hc▸hx))).2 (h x (.tail _ hx))
  rw[List.length_erase_of_mem ha]at this;have:0<m.length:=List.length_pos_of_mem ha;simp;omega
theorem Zir{α:Type}(p q:α->Bool)(h:∀x,q x=!p x):∀l:List α,(l.filter q).length+(l.filter p).length=l.length
 |[]=>rfl
 |a::l=>by
  have ih:=Zir p q h l;rw[List.filter_cons,List.filter_cons,h a];cases p a <;> simp <;> omega
theorem Za8{α:Type}[DecidableEq α](o s:List α)(ho:o.Nodup)(hs:s.Nodup)(h:∀x,x∈o->x∈s):(s.filter (fun x=>decide (¬x∈o))).length+o.length=s.length:=by
 have h1:(s.filter (fun x=>decide (x∈o))).Perm o:=by
  refine(Qn8 o _ ho (fun x hx=>List.mem_filter.2 ⟨h x hx,by simpa using hx⟩) ?_).symm;exact Zr1 _ _ (hs.sublist List.filter_sublist) (fun x hx=>by simpa using(List.mem_filter.1 hx).2)
 rw[<- h1.length_eq];exact Zir _ _ (fun x=>by simp) s
theorem Zr9{α ι:Type}(H:List ι)(h0:H≠[])(act:ι->α->α)(hn:H.Nodup)(ok:α->Prop)(ho:∀a h,ok a->h∈H->ok (act h a))
  (free:∀a h h',ok a->h∈H->h'∈H->act h a=act h' a->h=h')
  (cl:∀a h h',ok a->h∈H->h'∈H->∃k,k∈H/\act h' (act h a)=act k a)
  (iv:∀a h,ok a->h∈H->∃k,k∈H/\act k (act h a)=a) :
  ∀(n:Nat) (S:List α),S.length=n->S.Nodup->(∀a,a∈S->ok a)->(∀a h,a∈S->h∈H->act h a∈S)->H.length∣n:=by
 classical
 intro n
 induction n using Nat.strongRecOn with
 |ind n ih =>
  intro S hS hnd hok hcl
  match S,hS with
  |[],hS=>simp at hS;subst hS;exact Nat.dvd_zero _
  |a::R,hS =>
   have haS:a∈a::R:=.head _;have oa:=hok a haS;generalize hSe:a::R=S at *
   have ond:(H.map (fun k=>act k a)).Nodup:=by
    rw[Ka,Hz];refine hn.imp_of_mem fun {h h'} m m' hne hc=>hne (free a h h' oa m m' hc)
   have osub:∀x,x∈H.map (fun k=>act k a)->x∈S:=fun x hx=>by
    obtain⟨h,hh,rfl⟩:=Mx.1 hx;exact hcl a h haS hh
   have hlen:=Za8 _ _ ond hnd osub;rw[O8]at hlen;have hpos:0<H.length:=List.length_pos_iff.2 h0;have hd:=ih _ (by omega) (S.filter (fun x=>decide (¬x∈H.map (fun k=>act k a)))) rfl (hnd.sublist List.filter_sublist) (fun b hb=>hok b (List.mem_filter.1 hb).1) (fun b h hb hh=>by
    obtain⟨hbS,hbn⟩:=List.mem_filter.1 hb;have hbn:¬b∈H.map (fun k=>act k a):=by simpa using hbn
    refine List.mem_filter.2 ⟨hcl b h hbS hh,?_⟩;simp only[decide_eq_true_eq];intro hc;obtain⟨h1,m1,e1⟩:=Mx.1 hc;obtain⟨k,mk,ek⟩:=iv b h (hok b hbS) hh;obtain⟨k2,mk2,ek2⟩:=cl a h1 k oa m1 mk;refine hbn (Mx.2 ⟨k2,mk2,?_⟩);show act k2 a=b;rw[<- ek2,<- ek];exact congrArg (act k) e1)
   have:n=(S.filter (fun x=>decide (¬x∈H.map (fun k=>act k a)))).length+H.length:=by omega
   rw[this];exact Nat.dvd_add hd (Nat.dvd_refl _)
section
variable {F:Type}[Fd F]{a b:F}
theorem B7{A B:List (Pn F)}(C:List (Pn F))(h:Cl a b A B):Cl a b (A++C) (B++C) :=
 Zn (Uw Ks) (Zn (Qgw C h) (Uw Ks))
theorem Zg5(ns:NS a b){P:Pn F}(h:P.on a b):Cl a b [P.ng,P] []:=by
 have:Cl a b [P,P.ng] [Pn.O]:=Qgi ns (by
  cases P with
  |O=>exact .zl _
  |P x y=>exact .opp x y) h (Pn.Xby h) trivial
 exact Zn (Uw (.swap _ _ _)) (Zn this (Qpp []))
theorem Qpi(ns:NS a b){P:Pn F}(hP:P.on a b){A B:List (Pn F)}(h:Cl a b (P::A) (P::B)):Cl a b A B :=
 Zn (Vq (B7 A (Zg5 ns hP))) (Zn (Qnx P.ng h) (B7 B (Zg5 ns hP)))
theorem Zgb(ns:NS a b):∀(L:List (Pn F)),(∀P,P∈L->P.on a b)->∀ {A B:List (Pn F)},Cl a b (L++A) (L++B)->Cl a b A B
 |[],_,_,_,h=>h
 |P::L,hL,_,_,h=>Zgb ns L (fun Q hQ=>hL Q (.tail _ hQ)) (Qpi ns (hL P (.head _)) h)
theorem Zac(ns:NS a b){L:List (Pn F)}(hn:L.Nodup)(hc:∀A:Pn F,A.on a b->A∈L)(ho:∀A,A∈L->A.on a b){A:Pn F}(hA:A.on a b):Ml a b L.length A .O:=by
 classical
 have hex:∀B:Pn F,∃C,B.on a b->Sm a b A B C/\C.on a b:=fun B=>by
  by_cases hB:B.on a b
  ·obtain⟨C,h⟩:=Zai A B hA hB;exact⟨C,fun _=>h⟩
  ·exact⟨.O,fun h=>absurd h hB⟩
 let f:Pn F->Pn F:=fun B=>(hex B).choose
 have hf:∀B:Pn F,B.on a b->Sm a b A B (f B)/\(f B).on a b:=fun B=>(hex B).choose_spec
 have cf:∀B:Pn F,B.on a b->Cl a b [f B] [A,B]:=fun B hB=>Vq (Qgi ns (hf B hB).1 hA hB (hf B hB).2)
 have inj:∀B C:Pn F,B.on a b->C.on a b->f B=f C->B=C:=fun B C hB hC e=>by
  have h1:=cf B hB;rw[e]at h1;exact Qf6 (Qpi ns hA (Zn (Vq h1) (cf C hC))) hB hC
 have hp:(L.map f).Perm L:=by
  refine Qn8 _ _ ?_ (fun x hx=>?_) (by simp)
  ·rw[Ka,Hz];exact hn.imp_of_mem fun {B C} m m' hne e=>hne (inj B C (ho B m) (ho C m') e)
  ·obtain⟨B,mB,rfl⟩:=Mx.1 hx;exact hc _ (hf B (ho B mB)).2
 have key:∀S:List (Pn F),(∀B,B∈S->B.on a b)->Cl a b (S.map f) (List.replicate S.length A++S):=by
  intro S
  induction S with
  |nil=>intro _;exact Qxm []
  |cons B S ih =>
   intro hS;have h1:=ih fun C hC=>hS C (.tail _ hC)
   have h2:Cl a b ([f B]++S.map f) ([A,B]++(List.replicate S.length A++S)):=Zn (B7 _ (cf B (hS B (.head _)))) (Qgw _ h1);refine Zn h2 (Uw ?_);show(A::B::(List.replicate S.length A++S)).Perm (A::(List.replicate S.length A++B::S));exact(List.perm_middle.symm).cons A
 have h1:=key L ho;have h2:Cl a b (L++List.replicate L.length A) (L++[]):=by
  rw[Oaf];exact Zn (Uw Ks) (Zn (Vq h1) (Uw hp))
 exact⟨Zn (Qpp []) (Vq (Zgb ns L ho h2)),trivial⟩
theorem Zib(c:F):∃R:List F,R.Nodup/\(∀y,y∈R↔y*y=c)/\R.length<=2/\(c=0->R.length=1)/\((∃y,y*y=c)->c≠0->R.length=2):=by
 by_cases h:∃y,y*y=c
 ·obtain⟨y,hy⟩:=h;have two:∀z,z*z=c->z=y∨z=-y:=fun z hz=>by
   have:(z + -y)*(z+y)=0:=by grind
   rcases W3 this with h|h
   ·left;grind
   ·right;grind
  by_cases hc:c=0
  ·have hy0:y=0:=by
    rw[hc]at hy;rcases W3 hy with h|h <;> exact h
   refine⟨[y],by simp,fun z=>?_,by simp,fun _=>rfl,fun _ h=>absurd hc h⟩;rw[Me];refine⟨fun h=>by rw[h];exact hy,fun h=>?_⟩;rcases two z h with h|h <;> grind
  ·have hne:y≠-y:=fun h=>by
    have h2:(1+1)*y=0:=by grind
    rcases W3 h2 with h|h
    ·exact Fd.two_ne h
    ·refine hc ?_;grind
   refine⟨[y,-y],?_,fun z=>?_,by simp,fun h=>absurd h hc,fun _ _=>rfl⟩
   ·rw[List.nodup_cons,Me];exact⟨hne,by simp⟩
   ·rw[Mh,Me];refine⟨fun h=>?_,two z⟩;rcases h with h|h <;> rw[h] <;> grind
 ·refine⟨[],by simp,fun y=>⟨fun hy=>by simp at hy,fun hy=>absurd ⟨y,hy⟩ h⟩,by simp,fun hc=>absurd ⟨0,by rw[hc];grind⟩ h,fun h'=>absurd h' h⟩
theorem Zks{X:List F}(hn:X.Nodup)(hX:∀x,x∈X):∃(L:List (Pn F)) (s:F->Nat),L.Nodup/\(∀A:Pn F,A.on a b->A∈L)/\(∀A,A∈L->A.on a b)/\L.length=(X.map s).sum+1/\∀x,s x<=2/\(x*x*x+a*x+b=0->s x=1)/\((∃y,y*y=x*x*x+a*x+b)->x*x*x+a*x+b≠0->s x=2)/\((¬ ∃y,y*y=x*x*x+a*x+b)->s x=0):=by
 let R:F->List F:=fun x=>(Zib (x*x*x+a*x+b)).choose
 have hR:=fun x=>(Zib (x*x*x+a*x+b)).choose_spec
 refine⟨.O::X.flatMap (fun x=>(R x).map (Pn.P x)),fun x=>(R x).length,?_,?_,?_,?_,fun x=>⟨(hR x).2.2.1,(hR x).2.2.2.1,(hR x).2.2.2.2,fun h=>?_⟩⟩
 ·rw[List.nodup_cons];refine⟨fun h=>?_,?_⟩
  ·obtain⟨x,_,h⟩:=Hm.1 h;obtain⟨y,_,h⟩:=Mx.1 h;cases h
  ·rw[Ka,List.pairwise_flatMap];refine⟨fun x _=>?_,?_⟩
   ·rw[Hz];exact(hR x).1.imp fun {y z} hne e=>hne (by injection e)
   ·refine hn.imp fun {x x'} hne p hp q hq e=>?_
    obtain⟨y,_,rfl⟩:=Mx.1 hp;obtain⟨z,_,rfl⟩:=Mx.1 hq;exact hne (by injection e)
 ·intro A hA;cases A with
  |O=>exact .head _
  |P x y=>exact .tail _ (Hm.2 ⟨x,hX x,Mx.2 ⟨y,((hR x).2.1 y).2 hA,rfl⟩⟩)
 ·intro A hA;rcases Mh.1 hA with rfl|hA
  ·trivial
  ·obtain⟨x,_,hA⟩:=Hm.1 hA;obtain⟨y,my,rfl⟩:=Mx.1 hA;exact((hR x).2.1 y).1 my
 ·rw[Ov,List.length_flatMap];simp only[O8]
 ·show(R x).length=0;cases hl:R x with
  |nil=>rfl
  |cons y l=>exact absurd ⟨y,((hR x).2.1 y).1 (by show y∈R x;rw[hl];exact .head _)⟩ h
theorem Zjb{G:Type}{s:G->Nat}(h:∀x,s x<=2):∀X:List G,(X.map s).sum<=2*X.length
 |[]=>by simp
 |x::X=>by
  have:=Zjb h X;have:=h x;simp only[Mn,List.sum_cons,Ov];omega
theorem Zuv{X Y:List Nat}(h:X.Perm Y):X.sum=Y.sum:=by
 induction h with
 |nil=>rfl
 |cons x _ ih=>simp only[List.sum_cons,ih]
 |swap x y l=>simp only[List.sum_cons];omega
 |trans _ _ ih1 ih2=>exact ih1.trans ih2
theorem Zmn(ns:NS a 0){X:List F}(hn:X.Nodup)(hX:∀x,x∈X)(hm:∀c:F,c≠0->((∃y,y*y=c)↔¬ ∃y,y*y=-c)){A:Pn F}(hA:A.on a 0):Ml a 0 (X.length+1) A .O:=by
 obtain⟨L,s,h1,h2,h3,h4,h5⟩:=Zks (a:=a) (b:=0) hn hX;have hs:∀x:F,s x+s (-x)=2:=fun x=>by
  have e:(-x)*(-x)*(-x)+a*(-x)+0=-(x*x*x+a*x+0):=by grind
  have p:=h5 x;have q:=h5 (-x);rw[e]at q;generalize x*x*x+a*x+0=c at p q;by_cases hc:c=0
  ·rw[p.2.1 hc,q.2.1 (by rw[hc];exact Z0)]
  ·have hc':-c≠0:=fun h=>hc (by grind)
   by_cases hy:∃y,y*y=c
   ·rw[p.2.2.1 hy hc,q.2.2.2 ((hm c hc).1 hy)]
   ·rw[p.2.2.2 hy,q.2.2.1 (Classical.byContradiction fun h=>hy ((hm c hc).2 h)) hc']
 have hp:(X.map fun x=>-x).Perm X:=Qn8 _ _ (by
  rw[Ka,Hz];exact hn.imp fun {x y} hne e=>hne (by grind)) (fun x _=>hX x) (by simp)
 have e1:((X.map fun x=>-x).map s).sum=(X.map s).sum:=Zuv (hp.map s);have e2:∀Y:List F,(Y.map s).sum+((Y.map fun x=>-x).map s).sum=2*Y.length:=by
  intro Y
  induction Y with
  |nil=>rfl
  |cons y Y ih =>
   have:=hs y;simp only[Mn,List.sum_cons,Ov];omega
 have:=e2 X;have:=Zac ns h1 h2 h3 hA;rw[h4]at this;have e3:(X.map s).sum=X.length:=by omega
 rwa[e3]at this
end
section
variable {F:Type}[Fd F]{a b:F}
theorem Ztd(ns:NS a b){Q:Pn F}(hQ:Q.on a b):∀m n:Nat,Ml a b m Q .O->Ml a b n Q .O->Ml a b (Nat.gcd m n) Q .O:=by
 intro m n
 induction m,n using Nat.gcd.induction with
 |H0 n=>intro _ h;rwa[Nat.gcd_zero_left]
 |H1 m n hm ih =>
  intro h h';rw[Nat.gcd_rec];exact ih ((Qvs ns h hQ).2 h') h
theorem Zu6(ns:NS a b){Q:Pn F}(hQ:Q.on a b){l N:Nat}(hl:Np.isP l)(h:Ml a b l Q .O)(hN:Ml a b N Q .O)(hne:Q≠.O):l∣N:=by
 refine Classical.byContradiction fun hc=>hne ?_
 have h1:=Ztd ns hQ l N h hN;rw[show Nat.gcd l N=1 from Np.cop hl hc]at h1;exact Wt (Zd0 hQ) h1
def rp{G:Type}(Q R:Pn G)(i j:Nat):List (Pn G):=List.replicate i Q++List.replicate j R
theorem Qxf{G:Type}(Q R:Pn G)(i j i' j':Nat):(rp Q R i j++rp Q R i' j').Perm (rp Q R (i+i') (j+j')):=by
 unfold rp;rw[<- Hd,<- Hd,M8,M8];refine List.Perm.append_left _ ?_;rw[<- M8,<- M8];exact List.Perm.append_right _ Ks
theorem Zkp(ns:NS a b){Q:Pn F}(hQ:Q.on a b){l:Nat}(h:Ml a b l Q .O)(n:Nat):Cl a b (List.replicate n Q) (List.replicate (n%l) Q):=by
 obtain⟨B,hB⟩:=Qhb ns hQ n;exact Zn (Vq hB.1) ((Qvs ns h hQ).2 hB).1
theorem Zkm(ns:NS a b){Q R:Pn F}(hQ:Q.on a b)(hR:R.on a b){l:Nat}(h:Ml a b l Q .O)(h':Ml a b l R .O)(i j:Nat):Cl a b (rp Q R i j) (rp Q R (i%l) (j%l)) :=
 Zn (Qgw _ (Zkp ns hR h' j)) (B7 _ (Zkp ns hQ h i))
theorem Zwd(ns:NS a b){Q R:Pn F}(hQ:Q.on a b)(hR:R.on a b)(i j:Nat){A:Pn F}(hA:A.on a b):∃C,C.on a b/\Cl a b [C] (A::rp Q R i j):=by
 obtain⟨B,hB⟩:=Qhb ns hQ i;obtain⟨D,hD⟩:=Qhb ns hR j;obtain⟨S,s,oS⟩:=Zai A B hA hB.2;obtain⟨T,t,oT⟩:=Zai S D oS hD.2;refine⟨T,oT,?_⟩;have h1:=Vq (Qgi ns t oS hD.2 oT);have h2:Cl a b [S,D] ([A,B]++[D]):=B7 [D] (Vq (Qgi ns s hA hB.2 oS));refine Zn h1 (Zn h2 ?_);exact Qnx A (Zn (B7 [D] hB.1) (Qgw _ hD.1))
theorem Zw2(ns:NS a b){Q R:Pn F}(hQ:Q.on a b)(hR:R.on a b){l:Nat}(hl:0<l)(h:Ml a b l Q .O)(h':Ml a b l R .O)(ind:∀i j,i<l->j<l->Cl a b (rp Q R i j) []->i=0/\j=0)
  {L:List (Pn F)} (hn:L.Nodup) (hc:∀A:Pn F,A.on a b->A∈L) (ho:∀A,A∈L->A.on a b):l*l∣L.length:=by
 classical
 let H:List (Nat×Nat):=(List.range l).flatMap fun i=>(List.range l).map fun j=>(i,j)
 have mH:∀i j,(i,j)∈H↔i<l/\j<l:=fun i j=>by
  constructor
  ·intro hm;obtain⟨x,mx,hm⟩:=Hm.1 hm;obtain⟨y,my,e⟩:=Mx.1 hm;injection e with e1 e2;subst e1;subst e2;exact⟨M3.1 mx,M3.1 my⟩
  ·intro⟨h1,h2⟩;exact Hm.2 ⟨i,M3.2 h1,Mx.2 ⟨j,M3.2 h2,rfl⟩⟩
 have lH:H.length=l*l:=by
  show((List.range l).flatMap _).length=_;rw[List.length_flatMap];simp only[O8,Hh];have:∀n m:Nat,((List.range n).map fun _=>m).sum=n*m:=fun n m=>by
   induction n with
   |zero=>simp
   |succ n ih=>rw[List.range_succ,Kq,List.sum_append,ih];simp[Nat.succ_mul]
  exact this l l
 have nH:H.Nodup:=by
  show((List.range l).flatMap _).Nodup;rw[Ka,List.pairwise_flatMap];refine⟨fun i _=>?_,?_⟩
  ·rw[Hz];exact List.nodup_range.imp fun {x y} hne e=>hne (by injection e)
  ·refine List.nodup_range.imp fun {x x'} hne p hp q hq e=>?_
   obtain⟨y,_,rfl⟩:=Mx.1 hp;obtain⟨z,_,rfl⟩:=Mx.1 hq;exact hne (by injection e)
 have hex:∀(k:Nat×Nat) (A:Pn F),∃C,A.on a b->C.on a b/\Cl a b [C] (A::rp Q R k.1 k.2):=fun k A=>by
  by_cases hA:A.on a b
  ·obtain⟨C,h⟩:=Zwd ns hQ hR k.1 k.2 hA;exact⟨C,fun _=>h⟩
  ·exact⟨.O,fun h=>absurd h hA⟩
 let act:Nat×Nat->Pn F->Pn F:=fun k A=>(hex k A).choose
 have ha:∀(k:Nat×Nat) (A:Pn F),A.on a b->(act k A).on a b/\Cl a b [act k A] (A::rp Q R k.1 k.2):=fun k A=>(hex k A).choose_spec
 have two:∀(A:Pn F) (i j i' j':Nat),A.on a b->Cl a b [act (i',j') (act (i,j) A)] (A::rp Q R ((i+i')%l) ((j+j')%l)):=fun A i j i' j' hA=>by
  have h1:=ha (i,j) A hA;have h2:=ha (i',j') _ h1.1;refine Zn h2.2 (Zn (B7 (rp Q R i' j') h1.2) ?_);exact Qnx A (Zn (Uw (Qxf Q R i j i' j')) (Zkm ns hQ hR h h' _ _))
 rw[<- lH];refine Zr9 H (fun h0=>?_) act nH (fun A=>A.on a b) (fun A k hA _=>(ha k A hA).1) (fun A k k' hA mk mk' e=>?_) (fun A k k' hA mk mk'=>?_) (fun A k hA mk=>?_) _ L rfl hn ho (fun A k mA _=>hc _ (ha k A (ho A mA)).1)
 ·have:=(mH 0 0).2 ⟨hl,hl⟩;rw[h0]at this;cases this
 ·obtain⟨i,j⟩:=k;obtain⟨i',j'⟩:=k';obtain⟨h1,h2⟩:=(mH i j).1 mk;obtain⟨h3,h4⟩:=(mH i' j').1 mk';have e1:=(ha (i,j) A hA).2;have e2:=(ha (i',j') A hA).2;rw[e]at e1;have e3:Cl a b (rp Q R i j) (rp Q R i' j'):=Qpi ns hA (Zn (Vq e1) e2)
  have e4:Cl a b (rp Q R (i+(l-i')) (j+(l-j'))) (rp Q R (i'+(l-i')) (j'+(l-j'))) :=
   Zn (Uw (Qxf Q R _ _ _ _).symm) (Zn (B7 _ e3) (Uw (Qxf Q R _ _ _ _)))
  have e5:=Zn (Vq (Zkm ns hQ hR h h' _ _)) (Zn e4 (Zkm ns hQ hR h h' _ _));rw[show i'+(l-i')=l by omega,show j'+(l-j')=l by omega,Nat.mod_self]at e5;obtain⟨q1,q2⟩:=ind _ _ (Oau _ hl) (Oau _ hl) e5;have f:∀x y:Nat,x<l->y<l->(x+(l-y))%l=0->x=y:=fun x y hx hy hm=>by
   by_cases hxy:x<y
   ·rw[He (by omega)]at hm;omega
   ·rw[show x+(l-y)=(x-y)+l by omega,Nat.add_mod_right,He (by omega)]at hm;omega
  rw[f i i' h1 h3 q1,f j j' h2 h4 q2]
 ·refine⟨((k.1+k'.1)%l,(k.2+k'.2)%l),(mH _ _).2 ⟨Oau _ hl,Oau _ hl⟩,?_⟩;exact Qf6 (Zn (two A k.1 k.2 k'.1 k'.2 hA) (Vq (ha _ A hA).2)) (ha _ _ (ha _ A hA).1).1 (ha _ A hA).1
 ·obtain⟨i,j⟩:=k;obtain⟨h1,h2⟩:=(mH i j).1 mk;refine⟨((l-i)%l,(l-j)%l),(mH _ _).2 ⟨Oau _ hl,Oau _ hl⟩,?_⟩;have e1:=two A i j ((l-i)%l) ((l-j)%l) hA;rw[Nat.add_mod_mod,Nat.add_mod_mod,show i+(l-i)=l by omega,show j+(l-j)=l by omega,Nat.mod_self]at e1;exact Qf6 e1 (ha _ _ (ha _ A hA).1).1 hA
end
end Go.Sx
namespace Np
set_option maxRecDepth 100000
theorem p2713:isP 2713:=Xg 53 (by decide) (by decide) (by decide +kernel)
theorem p11953:isP 11953:=Xg 110 (by decide) (by decide) (by decide +kernel)
theorem p262069:isP 262069:=Xg 512 (by decide) (by decide) (by decide +kernel)
theorem Zt2:isP 37501:=Xg 194 (by decide) (by decide) (by decide +kernel)
theorem Zl1:isP 661873:=Xg 814 (by decide) (by decide) (by decide +kernel)
theorem Zcs:isP 12211063:=Xg 3495 (by decide) (by decide) (by decide +kernel)
theorem Qsm:isP 1402724681:=Xg 37453 (by decide) (by decide) (by decide +kernel)
theorem Zsu:isP 68059:=Xg 261 (by decide) (by decide) (by decide +kernel)
theorem Zob:isP 349079:=Xg 591 (by decide) (by decide) (by decide +kernel)
theorem Qhq:isP 16297965815447:=by
 refine big (F:=68059^1*349079^1) (by decide +kernel) (by decide +kernel) fun l hl hln=>?_
 have a0:=Xh (n:=16297965815447) (l:=l) (q:=68059) (a:=2) (e:=0) (c:=(16297965815447-1)/68059^1) 44 (by decide +kernel) hl hln Zsu (by decide +kernel) (by decide +kernel) (by decide +kernel) (by decide +kernel);have a1:=Xh (n:=16297965815447) (l:=l) (q:=349079) (a:=2) (e:=0) (c:=(16297965815447-1)/349079^1) 44 (by decide +kernel) hl hln Zob (by decide +kernel) (by decide +kernel) (by decide +kernel) (by decide +kernel);exact(Nat.Coprime.mul_dvd_of_dvd_of_dvd (by decide +kernel) a0 a1)
theorem p_k:isP 4638704574076146691498289350639807119782054683906549022985642612861209609656189848749536921852444848596916990932297:=by
 refine Zxc (F:=37501^1*661873^1*12211063^1*1402724681^1*16297965815447^1) (c0:=1096963548451380378684350183682590906529) (c1:=96614666878420017828785702290921051) (s:=1096963548451380378684350183682590906528) (by decide +kernel) (by decide +kernel) (by decide +kernel) (by decide +kernel) (by decide +kernel) (by decide +kernel) (by decide +kernel) (by decide +kernel) fun l hl hln=>?_
 have a0:=Xh (n:=4638704574076146691498289350639807119782054683906549022985642612861209609656189848749536921852444848596916990932297) (l:=l) (q:=37501) (a:=2) (e:=0) (c:=(4638704574076146691498289350639807119782054683906549022985642612861209609656189848749536921852444848596916990932297-1)/37501^1) 381 (by decide +kernel) hl hln Zt2 (by decide +kernel) (by decide +kernel) (by decide +kernel) (by decide +kernel);have a1:=Xh (n:=4638704574076146691498289350639807119782054683906549022985642612861209609656189848749536921852444848596916990932297) (l:=l) (q:=661873) (a:=2) (e:=0) (c:=(4638704574076146691498289350639807119782054683906549022985642612861209609656189848749536921852444848596916990932297-1)/661873^1) 381 (by decide +kernel) hl hln Zl1 (by decide +kernel) (by decide +kernel) (by decide +kernel) (by decide +kernel);have a2:=Xh (n:=4638704574076146691498289350639807119782054683906549022985642612861209609656189848749536921852444848596916990932297) (l:=l) (q:=12211063) (a:=2) (e:=0) (c:=(4638704574076146691498289350639807119782054683906549022985642612861209609656189848749536921852444848596916990932297-1)/12211063^1) 381 (by decide +kernel) hl hln Zcs (by decide +kernel) (by decide +kernel) (by decide +kernel) (by decide +kernel);have a3:=Xh (n:=4638704574076146691498289350639807119782054683906549022985642612861209609656189848749536921852444848596916990932297) (l:=l) (q:=1402724681) (a:=2) (e:=0) (c:=(4638704574076146691498289350639807119782054683906549022985642612861209609656189848749536921852444848596916990932297-1)/1402724681^1) 381 (by decide +kernel) hl hln Qsm (by decide +kernel) (by decide +kernel) (by decide +kernel) (by decide +kernel);have a4:=Xh (n:=4638704574076146691498289350639807119782054683906549022985642612861209609656189848749536921852444848596916990932297) (l:=l) (q:=16297965815447) (a:=2) (e:=0) (c:=(4638704574076146691498289350639807119782054683906549022985642612861209609656189848749536921852444848596916990932297-1)/16297965815447^1) 381 (by decide +kernel) hl hln Qhq (by decide +kernel) (by decide +kernel) (by decide +kernel) (by decide +kernel);exact(Nat.Coprime.mul_dvd_of_dvd_of_dvd (by decide +kernel) (Nat.Coprime.mul_dvd_of_dvd_of_dvd (by decide +kernel) (Nat.Coprime.mul_dvd_of_dvd_of_dvd (by decide +kernel) (Nat.Coprime.mul_dvd_of_dvd_of_dvd (by decide +kernel) a0 a1) a2) a3) a4)
theorem p_h:isP 402096035359507321594726366720466575392706800671181159425656785868777272553337714697862511267018014931937703598282857976535744623203249:=by
 refine big (F:=4638704574076146691498289350639807119782054683906549022985642612861209609656189848749536921852444848596916990932297^1) (by decide +kernel) (by decide +kernel) fun l hl hln=>?_
 have a0:=Xh (n:=402096035359507321594726366720466575392706800671181159425656785868777272553337714697862511267018014931937703598282857976535744623203249) (l:=l) (q:=4638704574076146691498289350639807119782054683906549022985642612861209609656189848749536921852444848596916990932297) (a:=2) (e:=0) (c:=(402096035359507321594726366720466575392706800671181159425656785868777272553337714697862511267018014931937703598282857976535744623203249-1)/4638704574076146691498289350639807119782054683906549022985642612861209609656189848749536921852444848596916990932297^1) 448 (by decide +kernel) hl hln p_k (by decide +kernel) (by decide +kernel) (by decide +kernel) (by decide +kernel);exact a0
end Np
