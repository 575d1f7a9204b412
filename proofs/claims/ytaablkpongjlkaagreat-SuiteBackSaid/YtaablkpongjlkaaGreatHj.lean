/- Part Hj of the proof. -/
import Derived.Test.YtaablkpongjlkaaGreatHi
set_option linter.unusedVariables false
set_option linter.unusedSimpArgs false
namespace Go.Sx
open Go Go.RowKit
def bP:Int:=4002409555221667393417789825735904156556882819939007885332058136124031650490837864442687629129015664037894272559787
theorem bP_pos:0<bP:=by decide
theorem bP_odd:bP%2=1:=by decide
theorem bP_lt:2*bP<N384:=by decide
def iR:Int:=half2 bP^384%bP
theorem iR_ok:∃ z,N384*iR=1+bP*z:=by
 obtain ⟨z,hz⟩:=half_R bP_odd
 obtain ⟨y,hy⟩:=md_of (x:=half2 bP^384) (n:=bP)
 refine ⟨z+N384*y,?_⟩
 unfold iR
 rw [hy]
 generalize half2 bP^384=I at *
 generalize bP=p at *
 generalize N384=R at *
 grind
def toE (x:Int):Int:=x*N384%bP
def ofE (a:Int):Int:=a*iR%bP
theorem toE_lt (x:Int):0<=toE x/\toE x<bP:=md_lt bP_pos
theorem toE_md {x y:Int} (h:x%bP=y%bP):toE x=toE y:=by
 obtain ⟨z,rfl⟩:=dm h
 exact md (z*N384) (by rw [Int.add_mul,Int.mul_assoc])
theorem ofE_toE (x:Int):ofE (toE x)=x%bP:=by
 obtain ⟨z,hz⟩:=iR_ok
 obtain ⟨y,hy⟩:=md_of (x:=x*N384) (n:=bP)
 unfold ofE toE
 rw [hy]
 refine md (y*iR+x*z) ?_
 generalize iR=I at *
 generalize bP=p at *
 generalize N384=R at *
 have:x*(R*I)=x*(1+p*z):=by rw [hz]
 grind
theorem toE_ofE {a:Int} (h0:0<=a) (h1:a<bP):toE (ofE a)=a:=by
 obtain ⟨z,hz⟩:=iR_ok
 obtain ⟨y,hy⟩:=md_of (x:=a*iR) (n:=bP)
 unfold ofE toE
 rw [hy]
 refine md_eq (y*N384+a*z) ?_ h0 h1
 generalize iR=I at *
 generalize bP=p at *
 generalize N384=R at *
 have:a*(R*I)=a*(1+p*z):=by rw [hz]
 grind
theorem toE_inj {x y:Int} (h:toE x=toE y):x%bP=y%bP:=by rw [<- ofE_toE,h,ofE_toE]
theorem toE_0:toE 0=0:=by decide
theorem toE_zero {x:Int}:toE x=0↔x%bP=0:=by
 rw [<- toE_0]
 exact ⟨fun h=>toE_inj h,fun h=>toE_md h⟩
theorem E_add {v a b A B:Int} (h:v=(a+b)%bP) (ha:a=toE A) (hb:b=toE B):v=toE (A+B):=by
 obtain ⟨y,hy⟩:=md_of (x:=A*N384) (n:=bP)
 obtain ⟨z,hz⟩:=md_of (x:=B*N384) (n:=bP)
 rw [h,ha,hb]
 unfold toE
 rw [hy,hz]
 exact md (y+z) (by grind)
theorem E_sub {v a b A B:Int} (h:v=(a-b)%bP) (ha:a=toE A) (hb:b=toE B):v=toE (A-B):=by
 obtain ⟨y,hy⟩:=md_of (x:=A*N384) (n:=bP)
 obtain ⟨z,hz⟩:=md_of (x:=B*N384) (n:=bP)
 rw [h,ha,hb]
 unfold toE
 rw [hy,hz]
 exact md (y-z) (by grind)
theorem E_mul {v a b A B:Int} (h:v=montv bP a b) (ha:a=toE A) (hb:b=toE B):v=toE (A*B):=by
 obtain ⟨z,hz⟩:=half_R bP_odd
 obtain ⟨y,hy⟩:=md_of (x:=A*N384) (n:=bP)
 obtain ⟨w,hw⟩:=md_of (x:=B*N384) (n:=bP)
 rw [h,ha,hb]
 unfold toE montv
 rw [hy,hw,show (bP+1)/2=half2 bP from rfl]
 generalize half2 bP^384=I at *
 generalize bP=p at *
 generalize N384=R at *
 have h1:A*B*R*(R*I)=A*B*R*(1+p*z):=by rw [hz]
 exact md (A*B*R*z+(A*R*w+y*B*R+p*y*w)*I) (by grind)
theorem E_of {a:Int} (h0:0<=a) (h1:a<bP):a=toE (ofE a):=(toE_ofE h0 h1).symm
theorem E_to {n:Int}:montv bP (wideOf bP) n=toE n:=by
 obtain ⟨z,hz⟩:=RR1 bP_odd
 unfold montv toE
 rw [show (bP+1)/2=half2 bP from rfl]
 generalize half2 bP^384=I at *
 generalize wideOf bP=w at *
 generalize bP=p at *
 generalize N384=R at *
 have:n*(w*I)=n*(R+p*z):=by rw [hz]
 exact md (n*z) (by grind)
theorem E_from {a:Int}:montv bP a 1=ofE a:=by
 obtain ⟨y,hy⟩:=md_of (x:=half2 bP^384) (n:=bP)
 unfold montv ofE iR
 rw [hy,show (bP+1)/2=half2 bP from rfl]
 generalize half2 bP^384=I at *
 generalize bP=p at *
 exact md (-(a*y)) (by grind)
structure Rg (α:Type) where
 add:α->α->α
 sub:α->α->α
 mul:α->α->α
 one:α
 zero:α
 isz:α->Bool
 md:α->α
def R1:Rg Int:=⟨fun a b=>a+b,fun a b=>a-b,fun a b=>a*b,1,0,fun a=>a%bP==0,fun a=>a%bP⟩
def R2:Rg (Int×Int):=⟨fun a b=>(a.1+b.1,a.2+b.2),fun a b=>(a.1-b.1,a.2-b.2),fun a b=>(a.1*b.1-a.2*b.2,a.1*b.2+a.2*b.1),(1,0),(0,0),fun a=>a.1%bP==0&&a.2%bP==0,fun a=>(a.1%bP,a.2%bP)⟩
structure J (α:Type) where
 x:α
 y:α
 z:α
section
variable {α:Type}
def J.md (R:Rg α) (P:J α):J α:=⟨R.md P.x,R.md P.y,R.md P.z⟩
def oJ (R:Rg α):J α:=⟨R.one,R.one,R.zero⟩
def dblJ (R:Rg α) (P:J α):J α :=
 let yy:=R.mul P.y P.y
 let s:=R.mul P.x yy
 let s:=R.add s s
 let s:=R.add s s
 let m:=R.mul P.x P.x
 let m:=R.add (R.add m m) m
 let x:=R.sub (R.mul m m) (R.add s s)
 let e:=R.mul yy yy
 let e:=R.add e e
 let e:=R.add e e
 let e:=R.add e e
 let z:=R.mul P.y P.z
 ⟨x,R.sub (R.mul m (R.sub s x)) e,R.add z z⟩
def sumJ (R:Rg α) (P Q:J α):J α :=
 if R.isz P.z=true then Q else if R.isz Q.z=true then P else
 let pp:=R.mul P.z P.z
 let qq:=R.mul Q.z Q.z
 let u:=R.mul P.x qq
 let v:=R.mul Q.x pp
 let s:=R.mul P.y (R.mul qq Q.z)
 let t:=R.mul Q.y (R.mul pp P.z)
 let h:=R.sub v u
 let r:=R.sub t s
 if R.isz h=true then (if R.isz r=true then dblJ R P else oJ R) else
 let hh:=R.mul h h
 let hhh:=R.mul hh h
 let w:=R.mul u hh
 let x:=R.sub (R.sub (R.mul r r) hhh) (R.add w w)
 ⟨x,R.sub (R.mul r (R.sub w x)) (R.mul s hhh),R.mul h (R.mul P.z Q.z)⟩
def addJ (R:Rg α) (P Q:J α):J α :=
 let pp:=R.mul P.z P.z
 let qq:=R.mul Q.z Q.z
 let u:=R.mul P.x qq
 let v:=R.mul Q.x pp
 let s:=R.mul P.y (R.mul qq Q.z)
 let t:=R.mul Q.y (R.mul pp P.z)
 let h:=R.sub v u
 let r:=R.sub t s
 let hh:=R.mul h h
 let hhh:=R.mul hh h
 let w:=R.mul u hh
 let x:=R.sub (R.sub (R.mul r r) hhh) (R.add w w)
 ⟨x,R.sub (R.mul r (R.sub w x)) (R.mul s hhh),R.mul h (R.mul P.z Q.z)⟩
def hJ (R:Rg α) (P Q:J α):α:=R.sub (R.mul Q.x (R.mul P.z P.z)) (R.mul P.x (R.mul Q.z Q.z))
def rJ (R:Rg α) (P Q:J α):α:=R.sub (R.mul Q.y (R.mul (R.mul P.z P.z) P.z)) (R.mul P.y (R.mul (R.mul Q.z Q.z) Q.z))
theorem sumJ_eq (R:Rg α) (P Q:J α):sumJ R P Q=if R.isz P.z=true then Q else if R.isz Q.z=true then P else if R.isz (hJ R P Q)=true then (if R.isz (rJ R P Q)=true then dblJ R P else oJ R) else addJ R P Q:=rfl
theorem sumJ_z1 {R:Rg α} {P Q:J α} (h:R.isz P.z=true):sumJ R P Q=Q:=by rw [sumJ_eq,if_pos h]
theorem sumJ_z2 {R:Rg α} {P Q:J α} (h:¬ R.isz P.z=true) (h2:R.isz Q.z=true):sumJ R P Q=P:=by rw [sumJ_eq,if_neg h,if_pos h2]
theorem sumJ_dbl {R:Rg α} {P Q:J α} (h:¬ R.isz P.z=true) (h2:¬ R.isz Q.z=true) (h3:R.isz (hJ R P Q)=true) (h4:R.isz (rJ R P Q)=true):sumJ R P Q=dblJ R P:=by rw [sumJ_eq,if_neg h,if_neg h2,if_pos h3,if_pos h4]
theorem sumJ_opp {R:Rg α} {P Q:J α} (h:¬ R.isz P.z=true) (h2:¬ R.isz Q.z=true) (h3:R.isz (hJ R P Q)=true) (h4:¬ R.isz (rJ R P Q)=true):sumJ R P Q=oJ R:=by rw [sumJ_eq,if_neg h,if_neg h2,if_pos h3,if_neg h4]
theorem sumJ_gen {R:Rg α} {P Q:J α} (h:¬ R.isz P.z=true) (h2:¬ R.isz Q.z=true) (h3:¬ R.isz (hJ R P Q)=true):sumJ R P Q=addJ R P Q:=by rw [sumJ_eq,if_neg h,if_neg h2,if_neg h3]
def tmJ (R:Rg α) (P:J α):Nat->Nat->J α
 | 0,_=>oJ R
 | k+1,n=>if n=0 then oJ R else
  let d:=J.md R (dblJ R (tmJ R P k (n/2)))
  if n%2=1 then J.md R (sumJ R d P) else d
theorem tmJ_fuel {R:Rg α} {P:J α}:∀ (k n:Nat),n<2^k->tmJ R P (k+1) n=tmJ R P k n
 | 0,n,h=>by
  have:n=0:=by simpa using h
  subst this;rfl
 | k+1,n,h=>by
  have ih:=tmJ_fuel (R:=R) (P:=P) k (n/2) (by rw [Nat.pow_succ] at h;omega)
  have e1:∀ j,tmJ R P (j+1) n=if n=0 then oJ R else (if n%2=1 then J.md R (sumJ R (J.md R (dblJ R (tmJ R P j (n/2)))) P) else J.md R (dblJ R (tmJ R P j (n/2)))):=fun j=>rfl
  rw [e1,e1,ih]
end
end Go.Sx
namespace Go.Sx
theorem E_lt {a A:Int} (h:a=toE A):a<bP:=by rw [h];exact (toE_lt A).2
theorem E_ofm {a A:Int} (h:a=toE A):ofE a%bP=A%bP:=by rw [h,ofE_toE];exact Int.emod_emod_of_dvd _ (Int.dvd_refl _)
theorem mdE_add {p a b A B:Int} (ha:a%p=A%p) (hb:b%p=B%p):(a+b)%p=(A+B)%p:=by rw [Int.add_emod,ha,hb,<- Int.add_emod]
theorem mdE_sub {p a b A B:Int} (ha:a%p=A%p) (hb:b%p=B%p):(a-b)%p=(A-B)%p:=by rw [Int.sub_emod,ha,hb,<- Int.sub_emod]
theorem mdE_mul {p a b A B:Int} (ha:a%p=A%p) (hb:b%p=B%p):(a*b)%p=(A*B)%p:=by rw [Int.mul_emod,ha,hb,<- Int.mul_emod]
theorem mdE_pow {p a A:Int} (ha:a%p=A%p):∀ n:Nat,a^n%p=A^n%p
 | 0=>by rw [Int.pow_zero,Int.pow_zero]
 | n+1=>by rw [Int.pow_succ,Int.pow_succ];exact mdE_mul (mdE_pow ha n) ha
theorem Eadd {v a b A B:Int} (h:v=toE (ofE a+ofE b)) (ha:a=toE A) (hb:b=toE B):v=toE (A+B):=h.trans (toE_md (mdE_add (E_ofm ha) (E_ofm hb)))
theorem Esub {v a b A B:Int} (h:v=toE (ofE a-ofE b)) (ha:a=toE A) (hb:b=toE B):v=toE (A-B):=h.trans (toE_md (mdE_sub (E_ofm ha) (E_ofm hb)))
theorem Emul {v a b A B:Int} (h:v=toE (ofE a*ofE b)) (ha:a=toE A) (hb:b=toE B):v=toE (A*B):=h.trans (toE_md (mdE_mul (E_ofm ha) (E_ofm hb)))
theorem Epow {v a A:Int} {n:Nat} (h:v=toE (ofE a^n)) (ha:a=toE A):v=toE (A^n):=h.trans (toE_md (mdE_pow (E_ofm ha) n))
end Go.Sx
namespace Go.Sx
open Go Go.RowKit
def kELess (f:FuncId):K:={fn:=f,ext:=false,ins:=[iN],outs:=[oN],pre:=fun _=>True,sem:=fun | [a]=>[if bP<=a then a-bP else a] | _=>[] }
def kEAdd (f:FuncId):K:={fn:=f,ext:=false,ins:=[iN,iN],outs:=[oN],pre:=fun | [a,b]=>a<bP/\b<bP | _=>False,sem:=fun | [a,b]=>[toE (ofE a+ofE b)] | _=>[] }
def kESub (f:FuncId):K:={fn:=f,ext:=false,ins:=[iN,iN],outs:=[oN],pre:=fun | [a,b]=>a<bP/\b<bP | _=>False,sem:=fun | [a,b]=>[toE (ofE a-ofE b)] | _=>[] }
def kENeg (f:FuncId):K:={fn:=f,ext:=false,ins:=[iN],outs:=[oN],pre:=fun | [a]=>a<bP | _=>False,sem:=fun | [a]=>[toE (-ofE a)] | _=>[] }
def kEMont (f:FuncId):K:={fn:=f,ext:=false,ins:=[iN,iN],outs:=[oN],pre:=fun | [a,_]=>a<bP | _=>False,sem:=fun | [a,b]=>[montv bP a b] | _=>[] }
def kEMul (f:FuncId):K:={fn:=f,ext:=false,ins:=[iN,iN],outs:=[oN],pre:=fun | [a,b]=>a<bP/\b<bP | _=>False,sem:=fun | [a,b]=>[toE (ofE a*ofE b)] | _=>[] }
def kETo (f:FuncId):K:={fn:=f,ext:=false,ins:=[iN],outs:=[oN],pre:=fun _=>True,sem:=fun | [a]=>[toE a] | _=>[] }
def kEFrom (f:FuncId):K:={fn:=f,ext:=false,ins:=[iN],outs:=[oN],pre:=fun | [a]=>a<bP | _=>False,sem:=fun | [a]=>[ofE a] | _=>[] }
def kEPow (f:FuncId):K:={fn:=f,ext:=false,ins:=[iN,iN],outs:=[oN],pre:=fun | [a,_]=>a<bP | _=>False,sem:=fun | [a,n]=>[toE (ofE a^n.toNat)] | _=>[] }
def kEInv (f:FuncId):K:={fn:=f,ext:=false,ins:=[iN],outs:=[oN],pre:=fun | [a]=>a<bP | _=>False,sem:=fun | [a]=>[toE (ofE a^(bP-2).toNat)] | _=>[] }
structure Fo where
 add:FuncId
 sub:FuncId
 mul:FuncId
 inv:FuncId
def Fo.ls (o:Fo):List L:=[.cst (.fn o.add []),.cst (.fn o.sub []),.cst (.fn o.mul []),.cst (.fn o.inv []),.num,.num]
abbrev ls3:List L:=[.num,.num,.num]
abbrev lsPl:List L:=[.num,.num,.bool]
def kFirst (o:Fo) (f:FuncId):K:={fn:=f,ext:=false,ins:=[],outs:=[.agg o.ls],pre:=fun _=>True,sem:=fun _=>[toE 1,toE 4] }
def ofJ (x y z:Int):J Int:=⟨ofE x,ofE y,ofE z⟩
def J.l (P:J Int):List Int:=[toE P.x,toE P.y,toE P.z]
def kRaise (o:Fo) (f:FuncId):K:={fn:=f,ext:=false,ins:=[.agg o.ls,.agg lsPl],outs:=[.agg ls3],pre:=fun _=>True,sem:=fun | [u,_,x,y,z]=>if z=0 then [x,y,u] else [u,u,0] | _=>[] }
def kTwice (o:Fo) (f:FuncId):K:={fn:=f,ext:=false,ins:=[.agg o.ls,.agg ls3],outs:=[.agg ls3],pre:=fun | [_,_,x,y,z]=>x<bP/\y<bP/\z<bP | _=>False,sem:=fun | [_,_,x,y,z]=>(dblJ R1 (ofJ x y z)).l | _=>[] }
def kSum (o:Fo) (f:FuncId):K:={fn:=f,ext:=false,ins:=[.agg o.ls,.agg ls3,.agg ls3],outs:=[.agg ls3],pre:=fun | [u,_,x,y,z,x',y',z']=>u=toE 1/\(x<bP/\y<bP/\z<bP)/\(x'<bP/\y'<bP/\z'<bP) | _=>False,sem:=fun | [_,_,x,y,z,x',y',z']=>(sumJ R1 (ofJ x y z) (ofJ x' y' z')).l | _=>[] }
def kTimes (o:Fo) (f:FuncId):K:={fn:=f,ext:=false,ins:=[.agg o.ls,.agg ls3,iN],outs:=[.agg ls3],pre:=fun | [u,_,x,y,z,_]=>u=toE 1/\x<bP/\y<bP/\z<bP | _=>False,sem:=fun | [_,_,x,y,z,n]=>(tmJ R1 (ofJ x y z) 384 n.toNat).l | _=>[] }
set_option maxRecDepth 100000
def round7T (im ia b:Nat) (x low n0 y0 y1 y2 y3 y4 y5 n1 n2 n3 n4 n5 t0 t1 t2 t3 t4 t5 t6:A) (k:A->A->A->A->A->A->A->Tree):Tree :=
 macsT im ia x [(y0,t0,b,b+2,b+5),(y1,t1,b+8,b+10,b+13),(y2,t2,b+16,b+18,b+21),(y3,t3,b+24,b+26,b+29),(y4,t4,b+32,b+34,b+37),(y5,t5,b+40,b+42,b+45)] (.lit 0) fun c =>
 .lett (b+48) (.int .u64) (.bin .add .u64 t6 c)
 (.lett (b+49) (.int .u64) (.bin .mul .u64 (.var (b+5)) low)
 (.req im [.var (b+49),n0] (.lett (b+50) (.int .u64) (.app im 0 [.var (b+49),n0]) (.lett (b+51) (.int .u64) (.app im 1 [.var (b+49),n0])
 (.req ia [.var (b+51),.var (b+5),.lit 0] (.lett (b+52) (.int .u64) (.app ia 0 [.var (b+51),.var (b+5),.lit 0]) (.lett (b+53) (.int .u64) (.app ia 1 [.var (b+51),.var (b+5),.lit 0])
 (.lett (b+54) (.int .u64) (.bin .add .u64 (.var (b+50)) (.var (b+53)))
 (macsT im ia (.var (b+49)) [(n1,.var (b+13),b+55,b+57,b+60),(n2,.var (b+21),b+63,b+65,b+68),(n3,.var (b+29),b+71,b+73,b+76),(n4,.var (b+37),b+79,b+81,b+84),(n5,.var (b+45),b+87,b+89,b+92)] (.var (b+54)) fun c' =>
 .req ia [.var (b+48),c',.lit 0] (.lett (b+95) (.int .u64) (.app ia 0 [.var (b+48),c',.lit 0]) (.lett (b+96) (.int .u64) (.app ia 1 [.var (b+48),c',.lit 0])
 (k (.var (b+60)) (.var (b+68)) (.var (b+76)) (.var (b+84)) (.var (b+92)) (.var (b+95)) (.var (b+96))))))))))))))
theorem round7_arith {xB qn0 qJ V jl l0 j5 t6 c s6 h l' cc ca j2 c' t5' t6' jt:Int}
  (hqz:(qn0+l0)%18446744073709551616=0) (hqn:0<=qn0/\qn0<=18446744073709551615*18446744073709551615)
  (hV:V=jt+N384*t6) (u6:U t6) (hjl:jl=l0+18446744073709551616*j5) (hj5:0<=j5) (ul:U l0) (uc:U c) (uc':U c') (hb:V+xB<N384*18446744073709551616)
  (S1:jl+N384*c=xB+jt+0) (a1:s6=wr .u64 (t6+c))
  (m1:h=qn0/18446744073709551616) (m2:l'=qn0%18446744073709551616) (m4:cc=(l'+l0+0)/18446744073709551616) (m5:ca=wr .u64 (h+cc))
  (S2:j2+2135987035920910082395021706169552114602704522356652769947041607822219725780640550022962086936576*c'=qJ+j5+ca)
  (b1:t5'=(s6+c'+0)%18446744073709551616) (b2:t6'=(s6+c'+0)/18446744073709551616) :
  18446744073709551616*(j2+2135987035920910082395021706169552114602704522356652769947041607822219725780640550022962086936576*t5'+N384*t6')=V+xB+(qn0+18446744073709551616*qJ)/\U t5'/\0<=t6'/\t6'<=2:=by
 unfold U N384 at *
 simp only [wr] at *
 omega
section
variable {T:List K} {f g:FuncId} {im ia b:Nat} {G:Gl} {e:Nat->Int}
theorem round7_says {x low n0 y0 y1 y2 y3 y4 y5 n1 n2 n3 n4 n5 t0 t1 t2 t3 t4 t5 t6:A} {k:A->A->A->A->A->A->A->Tree} {B N V:Int} (hm:T[im]?=some (kMul64 f)) (ha:T[ia]?=some (kAdd64 g)) (bx:U (x.ev e))
  (hy:AllU e [y0,y1,y2,y3,y4,y5]) (hn:AllU e [n0,n1,n2,n3,n4,n5]) (ht:AllU e [t0,t1,t2,t3,t4,t5,t6])
  (hB:B=jo e [y0,y1,y2,y3,y4,y5]) (hN:N=jo e [n0,n1,n2,n3,n4,n5]) (hV:V=jo e [t0,t1,t2,t3,t4,t5]+N384*t6.ev e) (hVB:V<B+N) (hBN:B+N<N384)
  (hl:n0.ev e*low.ev e%18446744073709551616=18446744073709551615)
  (hk:∀ V' q,AllU e [.var (b+60),.var (b+68),.var (b+76),.var (b+84),.var (b+92),.var (b+95),.var (b+96)] ->
   V'=jo e [.var (b+60),.var (b+68),.var (b+76),.var (b+84),.var (b+92),.var (b+95)]+N384*e (b+96)->V'<B+N->0<=V'->0<=q/\q<18446744073709551616->18446744073709551616*V'=V+x.ev e*B+q*N ->
   (k (.var (b+60)) (.var (b+68)) (.var (b+76)) (.var (b+84)) (.var (b+92)) (.var (b+95)) (.var (b+96))).says T G e) :
  (round7T im ia b x low n0 y0 y1 y2 y3 y4 y5 n1 n2 n3 n4 n5 t0 t1 t2 t3 t4 t5 t6 k).says T G e:=by
 unfold round7T
 obtain ⟨ht0,ht1,ht2,ht3,ht4,ht5,ht6,_⟩:=ht
 obtain ⟨hn0,hn1,hn2,hn3,hn4,hn5,_⟩:=hn
 have hB0:0<=B:=by
  obtain ⟨z0,z1,z2,z3,z4,z5,_⟩:=hy
  unfold U at z0 z1 z2 z3 z4 z5
  rw [hB];simp only [jo];omega
 have hN0:0<=N:=by
  unfold U at hn0 hn1 hn2 hn3 hn4 hn5
  rw [hN];simp only [jo];omega
 have hxb:A.ev e x*B<=18446744073709551615*B:=Int.mul_le_mul_of_nonneg_right (by have:=bx.2;omega) hB0
 refine macsT_says hm ha bx _ _ _ hy ⟨ht0,ht1,ht2,ht3,ht4,ht5,trivial⟩ (by show U 0;unfold U;omega) fun g1 g2 g3=>?_
 simp only [List.map,outC,List.length_cons,List.length_nil,AllU,ev_var] at g1 g2 g3
 obtain ⟨l0,l1,l2,l3,l4,l5,_⟩:=g1
 simp only [outC]
 have ht6':=ht6
 refine fun a1 k1 a3 k3=>⟨by simp only [hm,kMul64],fun a4 _ a5 _=>⟨by simp only [ha,kAdd64,List.map,ev_lit];omega,fun _ _ a7 _ a8 k8=>?_⟩⟩
 have k3':U (e (b+49)):=has_u64 k3
 have k8':U (e (b+54)):=has_u64 k8
 refine macsT_says hm ha (by exact k3') _ _ _ ⟨hn1,hn2,hn3,hn4,hn5,trivial⟩ ⟨l1,l2,l3,l4,l5,trivial⟩ (by exact k8') fun p1 p2 p3=>?_
 simp only [List.map,outC,List.length_cons,List.length_nil,AllU,ev_var] at p1 p2 p3
 obtain ⟨r1,r2,r3,r4,r5,_⟩:=p1
 simp only [outC]
 refine ⟨by simp only [ha,kAdd64,List.map,ev_lit];omega,fun b1 _ b2 _=>?_⟩
 simp only [D.ev,ha,hm,kAdd64,kMul64,List.map,List.getD_cons_zero,List.getD_cons_succ,ev_var,ev_lit,binE] at a1 a3 a4 a5 a7 a8 b1 b2
 have hz:=q_zero a3 hl
 have e6:pw64 (0+1+1+1+1+1+1)=N384:=by decide +kernel
 have e5:pw64 (0+1+1+1+1+1)=2135987035920910082395021706169552114602704522356652769947041607822219725780640550022962086936576:=by decide +kernel
 rw [e6,show (A.lit 0).ev e=0 from rfl] at g3
 rw [e5] at p3
 have hqn:=mul_bd k3' hn0
 have hxB:A.ev e x*jo e [y0,y1,y2,y3,y4,y5]=A.ev e x*B:=by rw [hB]
 have hvx:V+A.ev e x*jo e [y0,y1,y2,y3,y4,y5]<N384*18446744073709551616:=by
  rw [hxB]
  generalize A.ev e x*B=z at *
  clear g3 p3 hz a1 a3 a4 a5 a7 a8 b1 b2 hqn hV hN hB hk
  unfold N384 at *
  omega
 have hj5:0<=jo e [.var (b+13),.var (b+21),.var (b+29),.var (b+37),.var (b+45)]:=by
  unfold U at l1 l2 l3 l4 l5
  simp only [jo,ev_var];omega
 obtain ⟨s1,s2,s3,s4⟩:=round7_arith hz hqn hV ht6 (show jo e [.var (b+5),.var (b+13),.var (b+21),.var (b+29),.var (b+37),.var (b+45)]=_ from rfl) hj5 l0 g2 p2 hvx g3 a1 a4 a5 a7 a8 p3 b1 b2
 have hqN:e (b+49)*N=e (b+49)*n0.ev e+18446744073709551616*(e (b+49)*jo e [n1,n2,n3,n4,n5]):=by
  rw [hN,show jo e [n0,n1,n2,n3,n4,n5]=n0.ev e+18446744073709551616*jo e [n1,n2,n3,n4,n5] from rfl,Int.mul_add,Int.mul_left_comm]
 rw [<- hqN] at s1
 have s1':18446744073709551616*(jo e [.var (b+60),.var (b+68),.var (b+76),.var (b+84),.var (b+92),.var (b+95)]+N384*e (b+96))=V+A.ev e x*B+e (b+49)*N:=by
  rw [hxB] at s1
  rw [<- s1]
  simp only [jo,ev_var];omega
 have m2:e (b+49)*N<=18446744073709551615*N:=Int.mul_le_mul_of_nonneg_right (by have:=k3'.2;omega) hN0
 refine hk _ _ ⟨r1,r2,r3,r4,r5,s2,by exact ⟨s3,by show e (b+96)<_;omega⟩,trivial⟩ rfl ?_ ?_ k3' s1'
 ·generalize jo e [.var (b+60),.var (b+68),.var (b+76),.var (b+84),.var (b+92),.var (b+95)]+N384*e (b+96)=V' at *
  omega
 ·unfold U at r1 r2 r3 r4 r5 s2
  have s3':0<=e (b+96):=s3
  unfold N384
  simp only [jo,ev_var];omega
end
def tEMulR (i b:Nat) (t0 t1 t2 t3 t4 t5 t6:A) (k:A->A->A->A->A->A->A->Tree):Tree :=
 round7T 1 0 b (.limb 1 i) (.lit 9940570264628428797) (.lit 13402431016077863595) (.limb 0 0) (.limb 0 1) (.limb 0 2) (.limb 0 3) (.limb 0 4) (.limb 0 5) (.lit 2210141511517208575) (.lit 7435674573564081700) (.lit 7239337960414712511) (.lit 5412103778470702295) (.lit 1873798617647539866) t0 t1 t2 t3 t4 t5 t6 k
def tEMul:Tree :=
 tEMulR 0 2 (.lit 0) (.lit 0) (.lit 0) (.lit 0) (.lit 0) (.lit 0) (.lit 0) fun t0 t1 t2 t3 t4 t5 t6 =>
 tEMulR 1 99 t0 t1 t2 t3 t4 t5 t6 fun t0 t1 t2 t3 t4 t5 t6 =>
 tEMulR 2 196 t0 t1 t2 t3 t4 t5 t6 fun t0 t1 t2 t3 t4 t5 t6 =>
 tEMulR 3 293 t0 t1 t2 t3 t4 t5 t6 fun t0 t1 t2 t3 t4 t5 t6 =>
 tEMulR 4 390 t0 t1 t2 t3 t4 t5 t6 fun t0 t1 t2 t3 t4 t5 t6 =>
 tEMulR 5 487 t0 t1 t2 t3 t4 t5 t6 fun t0 t1 t2 t3 t4 t5 _ =>
 (.lett 584 .num (.join [t0,t1,t2,t3,t4,t5])
 (.req 2 [.var 584]
 (.lett 585 .num (.app 2 0 [.var 584])
 (.ret [.var 585]))))
theorem bP_words:jo (fun _=>0) [.lit 13402431016077863595,.lit 2210141511517208575,.lit 7435674573564081700,.lit 7239337960414712511,.lit 5412103778470702295,.lit 1873798617647539866]=bP:=by decide
theorem law_eMont (f1 f2 f3 f:FuncId) (e:Nat->Int) (hk:kkHas [.num,.num] [e 0,e 1]) (hp:(kEMont f).pre [e 0,e 1]) :
  tEMul.says [kAdd64 f1,kMul64 f2,kELess f3] ⟨fun ys=>ys=(kEMont f).sem [e 0,e 1],[]⟩ e:=by
 obtain ⟨h0,h1,_⟩:=hk
 have hab:e 0<bP:=hp
 have hx:∀ i j,U ((A.limb i j).ev e):=U_lim e
 have hb6:=jo6 h0 e 0 rfl
 have hn6:jo e [.lit 13402431016077863595,.lit 2210141511517208575,.lit 7435674573564081700,.lit 7239337960414712511,.lit 5412103778470702295,.lit 1873798617647539866]=bP:=bP_words
 have hB:AllU e [.limb 0 0,.limb 0 1,.limb 0 2,.limb 0 3,.limb 0 4,.limb 0 5]:=⟨hx _ _,hx _ _,hx _ _,hx _ _,hx _ _,hx _ _,trivial⟩
 have hN:AllU e [.lit 13402431016077863595,.lit 2210141511517208575,.lit 7435674573564081700,.lit 7239337960414712511,.lit 5412103778470702295,.lit 1873798617647539866]:=by
  refine ⟨?_,?_,?_,?_,?_,?_,trivial⟩ <;> (show U _;simp only [ev_lit,U];decide)
 have hl0:(A.lit 13402431016077863595).ev e*(A.lit 9940570264628428797).ev e%18446744073709551616=18446744073709551615:=by simp only [ev_lit];decide
 have hz:U ((A.lit 0).ev e):=by show U 0;unfold U;omega
 have hbn:e 0+bP<N384:=by have:=bP_lt;omega
 have hb0:0<=e 0:=h0.1
 have hbp:=bP_pos
 unfold tEMul tEMulR
 refine round7_says (V:=0) rfl rfl (hx _ _) hB hN ⟨hz,hz,hz,hz,hz,hz,hz,trivial⟩ hb6.symm hn6.symm (by simp only [jo,ev_lit];omega) (by omega) hbn hl0 fun V1 q0 t1 v1 b1 _ k1 E1=>?_
 refine round7_says rfl rfl (hx _ _) hB hN t1 hb6.symm hn6.symm v1 b1 hbn hl0 fun V2 q1 t2 v2 b2 _ k2 E2=>?_
 refine round7_says rfl rfl (hx _ _) hB hN t2 hb6.symm hn6.symm v2 b2 hbn hl0 fun V3 q2 t3 v3 b3 _ k3 E3=>?_
 refine round7_says rfl rfl (hx _ _) hB hN t3 hb6.symm hn6.symm v3 b3 hbn hl0 fun V4 q3 t4 v4 b4 _ k4 E4=>?_
 refine round7_says rfl rfl (hx _ _) hB hN t4 hb6.symm hn6.symm v4 b4 hbn hl0 fun V5 q4 t5 v5 b5 _ k5 E5=>?_
 refine round7_says rfl rfl (hx _ _) hB hN t5 hb6.symm hn6.symm v5 b5 hbn hl0 fun V6 q5 t6 v6 b6 p6 k6 E6=>?_
 have ha:e 1=wd (lim (e 1) 0) (lim (e 1) 1) (lim (e 1) 2) (lim (e 1) 3) (lim (e 1) 4) (lim (e 1) 5):=lim_eq h1
 have fin:=mont_fin E1 E2 E3 E4 E5 E6 ha
 have hq:=wd_lt k1 k2 k3 k4 k5 k6
 have hlt:=mont_lt h1 h0 hq (by decide) (.inr hab) fin
 have hmv:=montv_of bP_odd fin
 obtain ⟨u0,u1,u2,u3,u4,u5,u6,_⟩:=t6
 have hv6:e 583=0/\V6=jo e [.var 547,.var 555,.var 563,.var 571,.var 579,.var 582]:=by
  have hj:0<=jo e [.var 547,.var 555,.var 563,.var 571,.var 579,.var 582]:=by
   have w0:U (e 547):=u0
   have w1:U (e 555):=u1
   have w2:U (e 563):=u2
   have w3:U (e 571):=u3
   have w4:U (e 579):=u4
   have w5:U (e 582):=u5
   unfold U at w0 w1 w2 w3 w4 w5
   simp only [jo,ev_var];omega
  have hu:0<=e 583:=u6.1
  have hv6':V6=jo e [.var 547,.var 555,.var 563,.var 571,.var 579,.var 582]+N384*e 583:=v6
  have hN2:=bP_lt
  generalize jo e [.var 547,.var 555,.var 563,.var 571,.var 579,.var 582]=J at *
  unfold N384 at hv6' hN2
  omega
 refine fun c1 _=>⟨trivial,fun c2 _=>?_⟩
 have c1':e 584=V6:=by
  rw [c1,hv6.2];exact jo_join e [.var 547,.var 555,.var 563,.var 571,.var 579,.var 582]
 have c2':e 585=if bP<=e 584 then e 584-bP else e 584:=c2
 show [e 585]=[montv bP (e 0) (e 1)]
 have hcm:montv bP (e 0) (e 1)=montv bP (e 1) (e 0):=by unfold montv;rw [Int.mul_comm (e 0)]
 rw [c2',c1',hcm,<- hmv]
 congr 1
 split
 ·exact (md_eq 1 (by omega) (by omega) (by omega)).symm
 ·exact (Int.emod_eq_of_lt p6 (by omega)).symm
set_option maxRecDepth 100000
theorem cs_mod {v s p:Int} (h:v=if p<=s then s-p else s) (h0:0<=s) (h1:s<2*p):v=s%p:=by
 rw [h]
 split
 ·exact (md_eq 1 (by omega) (by omega) (by omega)).symm
 ·exact (Int.emod_eq_of_lt h0 (by omega)).symm
theorem subc2 {s c x y i:Int} (hs:s=(x-y-i)%18446744073709551616) (hc:c=if x<y+i then 1 else 0) (hx:0<=x/\x<18446744073709551616) (hy:0<=y/\y<18446744073709551616) (hi:0<=i/\i<=1) :
  s=x-y-i+18446744073709551616*c/\(0<=c/\c<=1)/\(0<=s/\s<18446744073709551616):=by split at hc <;> omega
theorem addc2 {s c x y i:Int} (hs:s=(x+y+i)%18446744073709551616) (hc:c=(x+y+i)/18446744073709551616) (hx:0<=x/\x<18446744073709551616) (hy:0<=y/\y<18446744073709551616) (hi:0<=i/\i<=1) :
  s+18446744073709551616*c=x+y+i/\(0<=c/\c<=1)/\(0<=s/\s<18446744073709551616):=by omega
theorem sub6 {x0 x1 x2 x3 x4 x5 y0 y1 y2 y3 y4 y5 s0 s1 s2 s3 s4 s5 c0 c1 c2 c3 c4 c5:Int} (h0:s0=x0-y0-0+18446744073709551616*c0) (h1:s1=x1-y1-c0+18446744073709551616*c1) (h2:s2=x2-y2-c1+18446744073709551616*c2) (h3:s3=x3-y3-c2+18446744073709551616*c3) (h4:s4=x4-y4-c3+18446744073709551616*c4) (h5:s5=x5-y5-c4+18446744073709551616*c5) :
  s0+18446744073709551616*(s1+18446744073709551616*(s2+18446744073709551616*(s3+18446744073709551616*(s4+18446744073709551616*s5))))=(x0+18446744073709551616*(x1+18446744073709551616*(x2+18446744073709551616*(x3+18446744073709551616*(x4+18446744073709551616*x5)))))-(y0+18446744073709551616*(y1+18446744073709551616*(y2+18446744073709551616*(y3+18446744073709551616*(y4+18446744073709551616*y5)))))+39402006196394479212279040100143613805079739270465446667948293404245721771497210611414266254884915640806627990306816*c5:=by omega
theorem add6 {x0 x1 x2 x3 x4 x5 y0 y1 y2 y3 y4 y5 s0 s1 s2 s3 s4 s5 c0 c1 c2 c3 c4 c5:Int} (h0:s0+18446744073709551616*c0=x0+y0+0) (h1:s1+18446744073709551616*c1=x1+y1+c0) (h2:s2+18446744073709551616*c2=x2+y2+c1) (h3:s3+18446744073709551616*c3=x3+y3+c2) (h4:s4+18446744073709551616*c4=x4+y4+c3) (h5:s5+18446744073709551616*c5=x5+y5+c4) :
  s0+18446744073709551616*(s1+18446744073709551616*(s2+18446744073709551616*(s3+18446744073709551616*(s4+18446744073709551616*s5))))+39402006196394479212279040100143613805079739270465446667948293404245721771497210611414266254884915640806627990306816*c5=(x0+18446744073709551616*(x1+18446744073709551616*(x2+18446744073709551616*(x3+18446744073709551616*(x4+18446744073709551616*x5)))))+(y0+18446744073709551616*(y1+18446744073709551616*(y2+18446744073709551616*(y3+18446744073709551616*(y4+18446744073709551616*y5))))):=by omega
theorem rng6 {s0 s1 s2 s3 s4 s5:Int} (h0:0<=s0/\s0<18446744073709551616) (h1:0<=s1/\s1<18446744073709551616) (h2:0<=s2/\s2<18446744073709551616) (h3:0<=s3/\s3<18446744073709551616) (h4:0<=s4/\s4<18446744073709551616) (h5:0<=s5/\s5<18446744073709551616) :
  0<=s0+18446744073709551616*(s1+18446744073709551616*(s2+18446744073709551616*(s3+18446744073709551616*(s4+18446744073709551616*s5))))/\s0+18446744073709551616*(s1+18446744073709551616*(s2+18446744073709551616*(s3+18446744073709551616*(s4+18446744073709551616*s5))))<39402006196394479212279040100143613805079739270465446667948293404245721771497210611414266254884915640806627990306816:=by omega
theorem z01:(0:Int)<=0/\(0:Int)<=1:=by decide
theorem bP_wd:bP=13402431016077863595+18446744073709551616*(2210141511517208575+18446744073709551616*(7435674573564081700+18446744073709551616*(7239337960414712511+18446744073709551616*(5412103778470702295+18446744073709551616*1873798617647539866)))):=by decide
theorem u_lit {n:Int} (h:decide (0<=n/\n<18446744073709551616)=true):0<=n/\n<18446744073709551616:=of_decide_eq_true h
def tELess:Tree:=(.req 0 [.limb 0 0,.lit 13402431016077863595,.lit 0]
(.lett 385 (.int .u64) (.app 0 0 [.limb 0 0,.lit 13402431016077863595,.lit 0])
(.lett 386 (.int .u64) (.app 0 1 [.limb 0 0,.lit 13402431016077863595,.lit 0])
(.req 0 [.limb 0 1,.lit 2210141511517208575,.var 386]
(.lett 1105 (.int .u64) (.app 0 0 [.limb 0 1,.lit 2210141511517208575,.var 386])
(.lett 1106 (.int .u64) (.app 0 1 [.limb 0 1,.lit 2210141511517208575,.var 386])
(.req 0 [.limb 0 2,.lit 7435674573564081700,.var 1106]
(.lett 1825 (.int .u64) (.app 0 0 [.limb 0 2,.lit 7435674573564081700,.var 1106])
(.lett 1826 (.int .u64) (.app 0 1 [.limb 0 2,.lit 7435674573564081700,.var 1106])
(.req 0 [.limb 0 3,.lit 7239337960414712511,.var 1826]
(.lett 2545 (.int .u64) (.app 0 0 [.limb 0 3,.lit 7239337960414712511,.var 1826])
(.lett 2546 (.int .u64) (.app 0 1 [.limb 0 3,.lit 7239337960414712511,.var 1826])
(.req 0 [.limb 0 4,.lit 5412103778470702295,.var 2546]
(.lett 3265 (.int .u64) (.app 0 0 [.limb 0 4,.lit 5412103778470702295,.var 2546])
(.lett 3266 (.int .u64) (.app 0 1 [.limb 0 4,.lit 5412103778470702295,.var 2546])
(.req 0 [.limb 0 5,.lit 1873798617647539866,.var 3266]
(.lett 3985 (.int .u64) (.app 0 0 [.limb 0 5,.lit 1873798617647539866,.var 3266])
(.lett 3986 (.int .u64) (.app 0 1 [.limb 0 5,.lit 1873798617647539866,.var 3266])
(.lett 4321 .bit (.cmp .eql (.var 3986) (.lit 1))
(.split 4321
(.ret [.var 0])
(.lett 4322 .num (.join [.var 385,.var 1105,.var 1825,.var 2545,.var 3265,.var 3985])
(.ret [.var 4322]))))))))))))))))))))))
theorem law_eLess (f1 f:FuncId) (e:Nat->Int) (hk:kkHas [.num] [e 0]):tELess.says [kSub64 f1] ⟨fun ys=>ys=(kELess f).sem [e 0],[]⟩ e:=by
 obtain ⟨ha,_⟩:=hk
 have ea:=lim_eq ha
 have hb:=bP_wd
 have l0_0:=lim_lt (e 0) 0
 have l0_1:=lim_lt (e 0) 1
 have l0_2:=lim_lt (e 0) 2
 have l0_3:=lim_lt (e 0) 3
 have l0_4:=lim_lt (e 0) 4
 have l0_5:=lim_lt (e 0) 5
 have p_0:(0:Int)<=13402431016077863595/\(13402431016077863595:Int)<18446744073709551616:=u_lit (by decide)
 have p_1:(0:Int)<=2210141511517208575/\(2210141511517208575:Int)<18446744073709551616:=u_lit (by decide)
 have p_2:(0:Int)<=7435674573564081700/\(7435674573564081700:Int)<18446744073709551616:=u_lit (by decide)
 have p_3:(0:Int)<=7239337960414712511/\(7239337960414712511:Int)<18446744073709551616:=u_lit (by decide)
 have p_4:(0:Int)<=5412103778470702295/\(5412103778470702295:Int)<18446744073709551616:=u_lit (by decide)
 have p_5:(0:Int)<=1873798617647539866/\(1873798617647539866:Int)<18446744073709551616:=u_lit (by decide)
 simp only [tELess,kSub64,kELess,KK.has,joinE6,Tree.says,List.getElem?_cons_zero,List.getElem?_cons_succ,List.map,ev_lit,ev_var,ev_limb,D.ev,List.getD_cons_zero,List.getD_cons_succ]
 generalize lim (e 0) 0=x00 at *
 generalize lim (e 0) 1=x01 at *
 generalize lim (e 0) 2=x02 at *
 generalize lim (e 0) 3=x03 at *
 generalize lim (e 0) 4=x04 at *
 generalize lim (e 0) 5=x05 at *
 refine ⟨z01,fun as0 _ at0 _=>?_⟩
 obtain ⟨ap0,aq0,ar0⟩:=subc2 as0 at0 l0_0 p_0 z01
 clear as0 at0
 refine ⟨aq0,fun as1 _ at1 _=>?_⟩
 obtain ⟨ap1,aq1,ar1⟩:=subc2 as1 at1 l0_1 p_1 aq0
 clear as1 at1
 refine ⟨aq1,fun as2 _ at2 _=>?_⟩
 obtain ⟨ap2,aq2,ar2⟩:=subc2 as2 at2 l0_2 p_2 aq1
 clear as2 at2
 refine ⟨aq2,fun as3 _ at3 _=>?_⟩
 obtain ⟨ap3,aq3,ar3⟩:=subc2 as3 at3 l0_3 p_3 aq2
 clear as3 at3
 refine ⟨aq3,fun as4 _ at4 _=>?_⟩
 obtain ⟨ap4,aq4,ar4⟩:=subc2 as4 at4 l0_4 p_4 aq3
 clear as4 at4
 refine ⟨aq4,fun as5 _ at5 _=>?_⟩
 obtain ⟨ap5,aq5,ar5⟩:=subc2 as5 at5 l0_5 p_5 aq4
 clear as5 at5
 have tot:=sub6 ap0 ap1 ap2 ap3 ap4 ap5
 have rg:=rng6 ar0 ar1 ar2 ar3 ar4 ar5
 rw [<- ea,<- hb] at tot
 intro h1 _
 have h1:=c_eq h1
 refine ⟨fun n=>?_,fun n=>?_⟩
 ·rw [if_neg (by clear ea hb ap0 ap1 ap2 ap3 ap4 ap5 ar0 ar1 ar2 ar3 ar4 ar5;omega)]
 ·intro h2 h3
  rw [<- h2] at tot
  rw [if_pos (by clear ea hb ap0 ap1 ap2 ap3 ap4 ap5 ar0 ar1 ar2 ar3 ar4 ar5;omega)]
  congr 1
  clear ea hb ap0 ap1 ap2 ap3 ap4 ap5 ar0 ar1 ar2 ar3 ar4 ar5
  omega
def tEAdd:Tree:=(.req 0 [.limb 0 0,.limb 1 0,.lit 0]
(.lett 386 (.int .u64) (.app 0 0 [.limb 0 0,.limb 1 0,.lit 0])
(.lett 387 (.int .u64) (.app 0 1 [.limb 0 0,.limb 1 0,.lit 0])
(.req 0 [.limb 0 1,.limb 1 1,.var 387]
(.lett 1106 (.int .u64) (.app 0 0 [.limb 0 1,.limb 1 1,.var 387])
(.lett 1107 (.int .u64) (.app 0 1 [.limb 0 1,.limb 1 1,.var 387])
(.req 0 [.limb 0 2,.limb 1 2,.var 1107]
(.lett 1826 (.int .u64) (.app 0 0 [.limb 0 2,.limb 1 2,.var 1107])
(.lett 1827 (.int .u64) (.app 0 1 [.limb 0 2,.limb 1 2,.var 1107])
(.req 0 [.limb 0 3,.limb 1 3,.var 1827]
(.lett 2546 (.int .u64) (.app 0 0 [.limb 0 3,.limb 1 3,.var 1827])
(.lett 2547 (.int .u64) (.app 0 1 [.limb 0 3,.limb 1 3,.var 1827])
(.req 0 [.limb 0 4,.limb 1 4,.var 2547]
(.lett 3266 (.int .u64) (.app 0 0 [.limb 0 4,.limb 1 4,.var 2547])
(.lett 3267 (.int .u64) (.app 0 1 [.limb 0 4,.limb 1 4,.var 2547])
(.req 0 [.limb 0 5,.limb 1 5,.var 3267]
(.lett 3986 (.int .u64) (.app 0 0 [.limb 0 5,.limb 1 5,.var 3267])
(.lett 3987 (.int .u64) (.app 0 1 [.limb 0 5,.limb 1 5,.var 3267])
(.lett 4322 .num (.join [.var 386,.var 1106,.var 1826,.var 2546,.var 3266,.var 3986])
(.req 1 [.var 4322]
(.lett 4323 .num (.app 1 0 [.var 4322])
(.ret [.var 4323]))))))))))))))))))))))
theorem law_eAdd (f1 f2 f:FuncId) (e:Nat->Int) (hk:kkHas [.num,.num] [e 0,e 1]) (hp:(kEAdd f).pre [e 0,e 1]):tEAdd.says [kAdd64 f1,kELess f2] ⟨fun ys=>ys=(kEAdd f).sem [e 0,e 1],[]⟩ e:=by
 obtain ⟨ha,hb,_⟩:=hk
 obtain ⟨u0,u1⟩:e 0<bP/\e 1<bP:=hp
 have v0:0<=e 0:=ha.1
 have v1:0<=e 1:=hb.1
 have ea:=lim_eq ha
 have eb:=lim_eq hb
 have hP:=bP_lt
 have l0_0:=lim_lt (e 0) 0
 have l0_1:=lim_lt (e 0) 1
 have l0_2:=lim_lt (e 0) 2
 have l0_3:=lim_lt (e 0) 3
 have l0_4:=lim_lt (e 0) 4
 have l0_5:=lim_lt (e 0) 5
 have l1_0:=lim_lt (e 1) 0
 have l1_1:=lim_lt (e 1) 1
 have l1_2:=lim_lt (e 1) 2
 have l1_3:=lim_lt (e 1) 3
 have l1_4:=lim_lt (e 1) 4
 have l1_5:=lim_lt (e 1) 5
 simp only [tEAdd,kAdd64,kELess,kEAdd,KK.has,joinE6,Tree.says,List.getElem?_cons_zero,List.getElem?_cons_succ,List.map,ev_lit,ev_var,ev_limb,D.ev,List.getD_cons_zero,List.getD_cons_succ]
 generalize lim (e 0) 0=x00 at *
 generalize lim (e 0) 1=x01 at *
 generalize lim (e 0) 2=x02 at *
 generalize lim (e 0) 3=x03 at *
 generalize lim (e 0) 4=x04 at *
 generalize lim (e 0) 5=x05 at *
 generalize lim (e 1) 0=x10 at *
 generalize lim (e 1) 1=x11 at *
 generalize lim (e 1) 2=x12 at *
 generalize lim (e 1) 3=x13 at *
 generalize lim (e 1) 4=x14 at *
 generalize lim (e 1) 5=x15 at *
 refine ⟨z01,fun as0 _ at0 _=>?_⟩
 obtain ⟨ap0,aq0,ar0⟩:=addc2 as0 at0 l0_0 l1_0 z01
 clear as0 at0
 refine ⟨aq0,fun as1 _ at1 _=>?_⟩
 obtain ⟨ap1,aq1,ar1⟩:=addc2 as1 at1 l0_1 l1_1 aq0
 clear as1 at1
 refine ⟨aq1,fun as2 _ at2 _=>?_⟩
 obtain ⟨ap2,aq2,ar2⟩:=addc2 as2 at2 l0_2 l1_2 aq1
 clear as2 at2
 refine ⟨aq2,fun as3 _ at3 _=>?_⟩
 obtain ⟨ap3,aq3,ar3⟩:=addc2 as3 at3 l0_3 l1_3 aq2
 clear as3 at3
 refine ⟨aq3,fun as4 _ at4 _=>?_⟩
 obtain ⟨ap4,aq4,ar4⟩:=addc2 as4 at4 l0_4 l1_4 aq3
 clear as4 at4
 refine ⟨aq4,fun as5 _ at5 _=>?_⟩
 obtain ⟨ap5,aq5,ar5⟩:=addc2 as5 at5 l0_5 l1_5 aq4
 clear as5 at5
 have tot:=add6 ap0 ap1 ap2 ap3 ap4 ap5
 have rg:=rng6 ar0 ar1 ar2 ar3 ar4 ar5
 rw [<- ea,<- eb] at tot
 intro h1 h2
 refine ⟨trivial,fun h3 _=>?_⟩
 rw [<- h1] at tot rg
 clear ea eb h1 ap0 ap1 ap2 ap3 ap4 ap5 ar0 ar1 ar2 ar3 ar4 ar5
 have hs:e 4322=e 0+e 1:=by unfold N384 at hP;omega
 have h4:=cs_mod h3 (by omega) (by omega)
 rw [hs] at h4
 rw [E_add h4 (E_of v0 u0) (E_of v1 u1)]
def tESub:Tree:=(.req 0 [.limb 0 0,.limb 1 0,.lit 0]
(.lett 386 (.int .u64) (.app 0 0 [.limb 0 0,.limb 1 0,.lit 0])
(.lett 387 (.int .u64) (.app 0 1 [.limb 0 0,.limb 1 0,.lit 0])
(.req 0 [.limb 0 1,.limb 1 1,.var 387]
(.lett 1106 (.int .u64) (.app 0 0 [.limb 0 1,.limb 1 1,.var 387])
(.lett 1107 (.int .u64) (.app 0 1 [.limb 0 1,.limb 1 1,.var 387])
(.req 0 [.limb 0 2,.limb 1 2,.var 1107]
(.lett 1826 (.int .u64) (.app 0 0 [.limb 0 2,.limb 1 2,.var 1107])
(.lett 1827 (.int .u64) (.app 0 1 [.limb 0 2,.limb 1 2,.var 1107])
(.req 0 [.limb 0 3,.limb 1 3,.var 1827]
(.lett 2546 (.int .u64) (.app 0 0 [.limb 0 3,.limb 1 3,.var 1827])
(.lett 2547 (.int .u64) (.app 0 1 [.limb 0 3,.limb 1 3,.var 1827])
(.req 0 [.limb 0 4,.limb 1 4,.var 2547]
(.lett 3266 (.int .u64) (.app 0 0 [.limb 0 4,.limb 1 4,.var 2547])
(.lett 3267 (.int .u64) (.app 0 1 [.limb 0 4,.limb 1 4,.var 2547])
(.req 0 [.limb 0 5,.limb 1 5,.var 3267]
(.lett 3986 (.int .u64) (.app 0 0 [.limb 0 5,.limb 1 5,.var 3267])
(.lett 3987 (.int .u64) (.app 0 1 [.limb 0 5,.limb 1 5,.var 3267])
(.lett 4322 .bit (.cmp .eql (.var 3987) (.lit 1))
(.split 4322
(.req 1 [.var 386,.lit 13402431016077863595,.lit 0]
(.lett 4707 (.int .u64) (.app 1 0 [.var 386,.lit 13402431016077863595,.lit 0])
(.lett 4708 (.int .u64) (.app 1 1 [.var 386,.lit 13402431016077863595,.lit 0])
(.req 1 [.var 1106,.lit 2210141511517208575,.var 4708]
(.lett 5427 (.int .u64) (.app 1 0 [.var 1106,.lit 2210141511517208575,.var 4708])
(.lett 5428 (.int .u64) (.app 1 1 [.var 1106,.lit 2210141511517208575,.var 4708])
(.req 1 [.var 1826,.lit 7435674573564081700,.var 5428]
(.lett 6147 (.int .u64) (.app 1 0 [.var 1826,.lit 7435674573564081700,.var 5428])
(.lett 6148 (.int .u64) (.app 1 1 [.var 1826,.lit 7435674573564081700,.var 5428])
(.req 1 [.var 2546,.lit 7239337960414712511,.var 6148]
(.lett 6867 (.int .u64) (.app 1 0 [.var 2546,.lit 7239337960414712511,.var 6148])
(.lett 6868 (.int .u64) (.app 1 1 [.var 2546,.lit 7239337960414712511,.var 6148])
(.req 1 [.var 3266,.lit 5412103778470702295,.var 6868]
(.lett 7587 (.int .u64) (.app 1 0 [.var 3266,.lit 5412103778470702295,.var 6868])
(.lett 7588 (.int .u64) (.app 1 1 [.var 3266,.lit 5412103778470702295,.var 6868])
(.req 1 [.var 3986,.lit 1873798617647539866,.var 7588]
(.lett 8307 (.int .u64) (.app 1 0 [.var 3986,.lit 1873798617647539866,.var 7588])
(.lett 8308 (.int .u64) (.app 1 1 [.var 3986,.lit 1873798617647539866,.var 7588])
(.lett 8643 .num (.join [.var 4707,.var 5427,.var 6147,.var 6867,.var 7587,.var 8307])
(.ret [.var 8643]))))))))))))))))))))
(.lett 4323 .num (.join [.var 386,.var 1106,.var 1826,.var 2546,.var 3266,.var 3986])
(.ret [.var 4323]))))))))))))))))))))))
theorem law_eSub (f1 f2 f:FuncId) (e:Nat->Int) (hk:kkHas [.num,.num] [e 0,e 1]) (hp:(kESub f).pre [e 0,e 1]):tESub.says [kSub64 f1,kAdd64 f2] ⟨fun ys=>ys=(kESub f).sem [e 0,e 1],[]⟩ e:=by
 obtain ⟨ha,hb,_⟩:=hk
 obtain ⟨u0,u1⟩:e 0<bP/\e 1<bP:=hp
 have v0:0<=e 0:=ha.1
 have v1:0<=e 1:=hb.1
 have ea:=lim_eq ha
 have eb:=lim_eq hb
 have hP:=bP_lt
 have hW:=bP_wd
 have l0_0:=lim_lt (e 0) 0
 have l0_1:=lim_lt (e 0) 1
 have l0_2:=lim_lt (e 0) 2
 have l0_3:=lim_lt (e 0) 3
 have l0_4:=lim_lt (e 0) 4
 have l0_5:=lim_lt (e 0) 5
 have l1_0:=lim_lt (e 1) 0
 have l1_1:=lim_lt (e 1) 1
 have l1_2:=lim_lt (e 1) 2
 have l1_3:=lim_lt (e 1) 3
 have l1_4:=lim_lt (e 1) 4
 have l1_5:=lim_lt (e 1) 5
 have p_0:(0:Int)<=13402431016077863595/\(13402431016077863595:Int)<18446744073709551616:=u_lit (by decide)
 have p_1:(0:Int)<=2210141511517208575/\(2210141511517208575:Int)<18446744073709551616:=u_lit (by decide)
 have p_2:(0:Int)<=7435674573564081700/\(7435674573564081700:Int)<18446744073709551616:=u_lit (by decide)
 have p_3:(0:Int)<=7239337960414712511/\(7239337960414712511:Int)<18446744073709551616:=u_lit (by decide)
 have p_4:(0:Int)<=5412103778470702295/\(5412103778470702295:Int)<18446744073709551616:=u_lit (by decide)
 have p_5:(0:Int)<=1873798617647539866/\(1873798617647539866:Int)<18446744073709551616:=u_lit (by decide)
 simp only [tESub,kSub64,kAdd64,kESub,KK.has,joinE6,Tree.says,List.getElem?_cons_zero,List.getElem?_cons_succ,List.map,ev_lit,ev_var,ev_limb,D.ev,List.getD_cons_zero,List.getD_cons_succ]
 generalize lim (e 0) 0=x00 at *
 generalize lim (e 0) 1=x01 at *
 generalize lim (e 0) 2=x02 at *
 generalize lim (e 0) 3=x03 at *
 generalize lim (e 0) 4=x04 at *
 generalize lim (e 0) 5=x05 at *
 generalize lim (e 1) 0=x10 at *
 generalize lim (e 1) 1=x11 at *
 generalize lim (e 1) 2=x12 at *
 generalize lim (e 1) 3=x13 at *
 generalize lim (e 1) 4=x14 at *
 generalize lim (e 1) 5=x15 at *
 refine ⟨z01,fun as0 _ at0 _=>?_⟩
 obtain ⟨ap0,aq0,ar0⟩:=subc2 as0 at0 l0_0 l1_0 z01
 clear as0 at0
 refine ⟨aq0,fun as1 _ at1 _=>?_⟩
 obtain ⟨ap1,aq1,ar1⟩:=subc2 as1 at1 l0_1 l1_1 aq0
 clear as1 at1
 refine ⟨aq1,fun as2 _ at2 _=>?_⟩
 obtain ⟨ap2,aq2,ar2⟩:=subc2 as2 at2 l0_2 l1_2 aq1
 clear as2 at2
 refine ⟨aq2,fun as3 _ at3 _=>?_⟩
 obtain ⟨ap3,aq3,ar3⟩:=subc2 as3 at3 l0_3 l1_3 aq2
 clear as3 at3
 refine ⟨aq3,fun as4 _ at4 _=>?_⟩
 obtain ⟨ap4,aq4,ar4⟩:=subc2 as4 at4 l0_4 l1_4 aq3
 clear as4 at4
 refine ⟨aq4,fun as5 _ at5 _=>?_⟩
 obtain ⟨ap5,aq5,ar5⟩:=subc2 as5 at5 l0_5 l1_5 aq4
 clear as5 at5
 have tot:=sub6 ap0 ap1 ap2 ap3 ap4 ap5
 have rg:=rng6 ar0 ar1 ar2 ar3 ar4 ar5
 rw [<- ea,<- eb] at tot
 intro h1 _
 have h1:=c_eq h1
 have fin:∀ v:Int,v=(e 0-e 1)%bP->[v]=[toE (ofE (e 0)-ofE (e 1))]:=fun v hv=>by rw [E_sub hv (E_of v0 u0) (E_of v1 u1)]
 refine ⟨fun n=>?_,fun n=>?_⟩
 ·have hc:e 3987=1:=by
   rcases h1 with ⟨_,h⟩ | ⟨h,_⟩
   ·exact h
   ·exact absurd h n
  refine ⟨z01,fun bs0 _ bt0 _=>?_⟩
  obtain ⟨bp0,bq0,br0⟩:=addc2 bs0 bt0 ar0 p_0 z01
  clear bs0 bt0
  refine ⟨bq0,fun bs1 _ bt1 _=>?_⟩
  obtain ⟨bp1,bq1,br1⟩:=addc2 bs1 bt1 ar1 p_1 bq0
  clear bs1 bt1
  refine ⟨bq1,fun bs2 _ bt2 _=>?_⟩
  obtain ⟨bp2,bq2,br2⟩:=addc2 bs2 bt2 ar2 p_2 bq1
  clear bs2 bt2
  refine ⟨bq2,fun bs3 _ bt3 _=>?_⟩
  obtain ⟨bp3,bq3,br3⟩:=addc2 bs3 bt3 ar3 p_3 bq2
  clear bs3 bt3
  refine ⟨bq3,fun bs4 _ bt4 _=>?_⟩
  obtain ⟨bp4,bq4,br4⟩:=addc2 bs4 bt4 ar4 p_4 bq3
  clear bs4 bt4
  refine ⟨bq4,fun bs5 _ bt5 _=>?_⟩
  obtain ⟨bp5,bq5,br5⟩:=addc2 bs5 bt5 ar5 p_5 bq4
  clear bs5 bt5
  have tot2:=add6 bp0 bp1 bp2 bp3 bp4 bp5
  have rg2:=rng6 br0 br1 br2 br3 br4 br5
  rw [<- hW,tot] at tot2
  intro h2 h3
  refine fin _ ?_
  rw [<- h2] at tot2 rg2
  rw [tot] at rg
  have b6:=bq5
  clear ap0 ap1 ap2 ap3 ap4 ap5 ar0 ar1 ar2 ar3 ar4 ar5 bp0 bp1 bp2 bp3 bp4 bp5 br0 br1 br2 br3 br4 br5 ea eb h2 hW tot h3
  unfold N384 at hP
  have hs:e 8643=e 0-e 1+bP:=by omega
  rw [hs]
  exact (md_eq (-1) (by omega) (by omega) (by omega)).symm
 ·have hc:e 3987=0:=by
   rcases h1 with ⟨h,_⟩ | ⟨_,h⟩
   ·exact absurd (h.symm.trans n) (by decide)
   ·have:=aq5;clear tot rg ea eb hW;rcases this with ⟨q1,q2⟩;rcases Int.lt_or_le 0 (e 3987) with z | z;exact absurd (show e 3987=1 from Int.le_antisymm q2 z) h;exact Int.le_antisymm z q1
  intro h2 h3
  refine fin _ ?_
  rw [<- h2] at tot rg
  clear ap0 ap1 ap2 ap3 ap4 ap5 ar0 ar1 ar2 ar3 ar4 ar5 ea eb h2 hW h3
  have hs:e 4323=e 0-e 1:=by omega
  rw [hs]
  exact (Int.emod_eq_of_lt (by omega) (by omega)).symm
def tENeg:Tree:=(.req 0 [.lit 0,.var 0]
(.lett 1 .num (.app 0 0 [.lit 0,.var 0])
(.ret [.var 1])))
theorem law_eNeg (f1 f:FuncId) (e:Nat->Int) (hk:kkHas [.num] [e 0]) (hp:(kENeg f).pre [e 0]):tENeg.says [kESub f1] ⟨fun ys=>ys=(kENeg f).sem [e 0],[]⟩ e:=by
 have u0:e 0<bP:=hp
 refine ⟨⟨bP_pos,u0⟩,fun a1 _=>?_⟩
 show [e 1]=[toE (-ofE (e 0))]
 rw [show e 1=toE (ofE 0-ofE (e 0)) from a1,show ofE 0=0 by unfold ofE;rw [Int.zero_mul];rfl,Int.zero_sub]
theorem mul_of_mont {P:Program} {f:FuncId} (h:(kEMont f).ok P):(kEMul f).ok P:=by
 intro w args xs hin hp
 have hx:∃ a b,xs=[a,b]:=by
  match xs,hp with
  | [a,b],_=>exact ⟨a,b,rfl⟩
 obtain ⟨a,b,rfl⟩:=hx
 have hp':a<bP/\b<bP:=hp
 have h1:=insRel_kk _ _ _ hin
 have ka:0<=a:=h1.1.1
 have kb:0<=b:=h1.2.1.1
 have h2:=h w args [a,b] hin hp'.1
 have e1:(kEMont f).sem [a,b]=(kEMul f).sem [a,b]:=by
  show [montv bP a b]=[toE (ofE a*ofE b)]
  rw [E_mul rfl (E_of ka hp'.1) (E_of kb hp'.2)]
 rw [<- e1]
 exact h2
def kEWide (f:FuncId):K:={fn:=f,ext:=false,ins:=[],outs:=[oN],pre:=fun _=>True,sem:=fun _=>[wideOf bP] }
def kEOne (f:FuncId):K:={fn:=f,ext:=false,ins:=[],outs:=[oN],pre:=fun _=>True,sem:=fun _=>[toE 1] }
def tEWide:Tree:=(.ret [.lit 2708263910654730174793787626328176511836455197166317677006154293982164122222515399004018013397331347120527951271750])
theorem law_eWide (f:FuncId) (e:Nat->Int):tEWide.says [] ⟨fun ys=>ys=(kEWide f).sem [],[]⟩ e:=by
 show [(_:Int)]=[wideOf bP]
 rw [show wideOf bP=2708263910654730174793787626328176511836455197166317677006154293982164122222515399004018013397331347120527951271750 by decide +kernel];rfl
def tEOne:Tree:=(.ret [.lit 3380320199399472671518931668520476396067793891014375699959770179129436917079669831430077592723774664465579537268733])
theorem law_eOne (f:FuncId) (e:Nat->Int):tEOne.says [] ⟨fun ys=>ys=(kEOne f).sem [],[]⟩ e:=by
 show [(3380320199399472671518931668520476396067793891014375699959770179129436917079669831430077592723774664465579537268733:Int)]=[toE 1]
 rw [show toE 1=N384%bP by unfold toE;rw [Int.one_mul]]
 decide +kernel
def tETo:Tree:=(.req 1 []
(.lett 1 .num (.app 1 0 [])
(.req 0 [.var 1,.var 0]
(.lett 97 .num (.app 0 0 [.var 1,.var 0])
(.ret [.var 97])))))
theorem law_eTo (f1 f2 f:FuncId) (e:Nat->Int) (hk:kkHas [.num] [e 0]):tETo.says [kEMont f1,kEWide f2] ⟨fun ys=>ys=(kETo f).sem [e 0],[]⟩ e:=by
 refine ⟨trivial,fun a1 _=>⟨?_,fun a2 _=>?_⟩⟩
 ·show e 1<bP
  rw [show e 1=wideOf bP from a1];exact (wide_lt bP_pos).2
 ·show [e 97]=[toE (e 0)]
  rw [show e 97=montv bP (e 1) (e 0) from a2,show e 1=wideOf bP from a1,E_to]
def tEFrom:Tree:=(.req 0 [.var 0,.lit 1]
(.lett 1 .num (.app 0 0 [.var 0,.lit 1])
(.ret [.var 1])))
theorem law_eFrom (f1 f:FuncId) (e:Nat->Int) (hk:kkHas [.num] [e 0]) (hp:(kEFrom f).pre [e 0]):tEFrom.says [kEMont f1] ⟨fun ys=>ys=(kEFrom f).sem [e 0],[]⟩ e:=by
 have u0:e 0<bP:=hp
 refine ⟨u0,fun a1 _=>?_⟩
 show [e 1]=[ofE (e 0)]
 rw [show e 1=montv bP (e 0) 1 from a1,E_from]
set_option maxRecDepth 100000
theorem newt {N x a b:Int} (h:∃ z,N*x=1+a*z) (hb:∃ c,a*a=b*c) (hW:∃ d,18446744073709551616=b*d) :
  ∃ z,N*(x*((2-N*x%18446744073709551616)%18446744073709551616)%18446744073709551616)=1+b*z:=by
 obtain ⟨z,hz⟩:=h
 obtain ⟨c,hc⟩:=hb
 obtain ⟨d,hd⟩:=hW
 obtain ⟨t1,h1⟩:=md_of (x:=N*x) (n:=18446744073709551616)
 obtain ⟨t2,h2⟩:=md_of (x:=2-N*x%18446744073709551616) (n:=18446744073709551616)
 obtain ⟨t3,h3⟩:=md_of (x:=x*((2-N*x%18446744073709551616)%18446744073709551616)) (n:=18446744073709551616)
 rw [h3,h2,h1]
 generalize (18446744073709551616:Int)=W at *
 subst hd
 refine ⟨d*(N*t3+N*x*t2-N*x*t1)-c*z*z,?_⟩
 have e1:N*x*(N*x)=(1+a*z)*(1+a*z):=by rw [hz]
 have e2:(1+a*z)*(1+a*z)=1+2*(a*z)+b*c*z*z:=by rw [<- hc];grind
 grind
theorem sq8 {n:Int} (h:n%2=1):∃ z,n*n=1+8*z:=by
 rcases Int.emod_two_eq (n/2) with h3 | h3
 ·have h4:n=4*(n/2/2)+1:=by omega
  generalize n/2/2=q at *
  exact ⟨q*(2*q)+q,by subst h4;grind⟩
 ·have h4:n=4*(n/2/2)+3:=by omega
  generalize n/2/2=q at *
  exact ⟨q*(2*q)+3*q+1,by subst h4;grind⟩
theorem newton_s {l x a b y:Int} {k:Nat} (h1:a=l*x%18446744073709551616) (h2:b=(2-a)%18446744073709551616) (h3:y=x*b%18446744073709551616):newton l (k+1) x=newton l k y:=by
 rw [h3,h2,h1];rfl
theorem newton_ok {n:Int} (h:n%2=1):∃ z,n*newton n 6 n=1+18446744073709551616*z:=by
 have s0:=sq8 h
 have s1:=newt s0 (b:=64) ⟨1,by decide⟩ ⟨288230376151711744,by decide⟩
 have s2:=newt s1 (b:=4096) ⟨1,by decide⟩ ⟨4503599627370496,by decide⟩
 have s3:=newt s2 (b:=16777216) ⟨1,by decide⟩ ⟨1099511627776,by decide⟩
 have s4:=newt s3 (b:=281474976710656) ⟨1,by decide⟩ ⟨65536,by decide⟩
 have s5:=newt s4 (b:=18446744073709551616) ⟨4294967296,by decide⟩ ⟨1,by decide⟩
 exact newt s5 (b:=18446744073709551616) ⟨18446744073709551616,by decide⟩ ⟨1,by decide⟩
theorem lowOf_ok {n:Int} (h:n%2=1):n*lowOf n%18446744073709551616=18446744073709551615:=by
 obtain ⟨z,hz⟩:=newton_ok (n:=n%18446744073709551616) (by omega)
 unfold lowOf
 generalize newton (n%18446744073709551616) 6 (n%18446744073709551616)=x at *
 obtain ⟨t1,h1⟩:=md_of (x:=-x) (n:=18446744073709551616)
 obtain ⟨t2,h2⟩:=md_of (x:=n) (n:=18446744073709551616)
 rw [h1]
 rw [h2] at hz
 refine md_eq (n*t1+t2*x-z-1) ?_ (by decide) (by decide)
 grind
theorem new_good {n:Int} (h:n%2=1) (h3:3<=n) (hl:n<2^382):mGood n (lowOf n) (wideOf n):=⟨⟨lowOf_ok h,h3,hl⟩,rfl⟩
theorem dbl_join {x o0 o1 o2 o3 o4 o5:Int} (hx:0<=x/\x<N384) (hs:2*x<N384) (h0:o0=2*lim x 0%18446744073709551616) (h1:o1=2*lim x 1%18446744073709551616+lim x 0/9223372036854775808)
  (h2:o2=2*lim x 2%18446744073709551616+lim x 1/9223372036854775808) (h3:o3=2*lim x 3%18446744073709551616+lim x 2/9223372036854775808) (h4:o4=2*lim x 4%18446744073709551616+lim x 3/9223372036854775808)
  (h5:o5=2*lim x 5%18446744073709551616+lim x 4/9223372036854775808):joinE [o0,o1,o2,o3,o4,o5]=2*x:=by
 have ex:=lim_eq hx
 have l0:=lim_lt x 0
 have l1:=lim_lt x 1
 have l2:=lim_lt x 2
 have l3:=lim_lt x 3
 have l4:=lim_lt x 4
 have l5:=lim_lt x 5
 rw [joinE6]
 generalize lim x 0=x0 at *
 generalize lim x 1=x1 at *
 generalize lim x 2=x2 at *
 generalize lim x 3=x3 at *
 generalize lim x 4=x4 at *
 generalize lim x 5=x5 at *
 unfold N384 at hs
 omega
def tNew:Tree:=(.lett 97 (.int .u64) (.bin .and .u64 (.limb 0 0) (.lit 1))
(.lett 145 .bit (.cmp .eql (.var 97) (.lit 0))
(.split 145
(.bad 402 "")
(.req 0 [.var 0]
(.lett 289 (.int .i64) (.app 0 0 [.var 0])
(.lett 337 .bit (.cmp .gtr (.var 289) (.lit 382))
(.split 337
 (.bad 402 "")
 (.req 3 [.lit 3]
 (.lett 529 .num (.app 3 0 [.lit 3])
 (.req 1 [.var 0,.var 529]
 (.lett 577 (.int .i64) (.app 1 0 [.var 0,.var 529])
 (.lett 625 .bit (.cmp .lss (.var 577) (.lit 0))
 (.split 625
 (.bad 402 "")
 (.lett 721 (.int .u64) (.bin .mul .u64 (.limb 0 0) (.limb 0 0))
 (.lett 722 (.int .u64) (.bin .sub .u64 (.lit 2) (.var 721))
 (.lett 723 (.int .u64) (.bin .mul .u64 (.limb 0 0) (.var 722))
 (.lett 724 (.int .u64) (.bin .mul .u64 (.limb 0 0) (.var 723))
 (.lett 725 (.int .u64) (.bin .sub .u64 (.lit 2) (.var 724))
 (.lett 726 (.int .u64) (.bin .mul .u64 (.var 723) (.var 725))
 (.lett 727 (.int .u64) (.bin .mul .u64 (.limb 0 0) (.var 726))
 (.lett 728 (.int .u64) (.bin .sub .u64 (.lit 2) (.var 727))
 (.lett 729 (.int .u64) (.bin .mul .u64 (.var 726) (.var 728))
 (.lett 730 (.int .u64) (.bin .mul .u64 (.limb 0 0) (.var 729))
 (.lett 731 (.int .u64) (.bin .sub .u64 (.lit 2) (.var 730))
 (.lett 732 (.int .u64) (.bin .mul .u64 (.var 729) (.var 731))
 (.lett 733 (.int .u64) (.bin .mul .u64 (.limb 0 0) (.var 732))
 (.lett 734 (.int .u64) (.bin .sub .u64 (.lit 2) (.var 733))
 (.lett 735 (.int .u64) (.bin .mul .u64 (.var 732) (.var 734))
 (.lett 736 (.int .u64) (.bin .mul .u64 (.limb 0 0) (.var 735))
 (.lett 737 (.int .u64) (.bin .sub .u64 (.lit 2) (.var 736))
 (.lett 738 (.int .u64) (.bin .mul .u64 (.var 735) (.var 737))
 (.lett 739 (.int .u64) (.bin .sub .u64 (.lit 0) (.var 738))
 (.req 3 [.lit 1]
 (.lett 740 .num (.app 3 0 [.lit 1])
 (.loop [.var 740,.lit 0] [.num,(.int .i64)] 741
 (.lett 743 .bit (.cmp .lss (.var 742) (.lit 768))
 (.split 743
 (.lett 744 (.int .u64) (.bin .shl .u64 (.limb 741 0) (.lit 1))
 (.lett 745 (.int .u64) (.bin .shl .u64 (.limb 741 1) (.lit 1))
 (.lett 1130 (.int .u64) (.bin .shr .u64 (.limb 741 0) (.lit 63))
 (.lett 1178 (.int .u64) (.bin .or .u64 (.var 745) (.var 1130))
 (.lett 1322 (.int .u64) (.bin .shl .u64 (.limb 741 2) (.lit 1))
 (.lett 1707 (.int .u64) (.bin .shr .u64 (.limb 741 1) (.lit 63))
 (.lett 1755 (.int .u64) (.bin .or .u64 (.var 1322) (.var 1707))
 (.lett 1899 (.int .u64) (.bin .shl .u64 (.limb 741 3) (.lit 1))
 (.lett 2284 (.int .u64) (.bin .shr .u64 (.limb 741 2) (.lit 63))
 (.lett 2332 (.int .u64) (.bin .or .u64 (.var 1899) (.var 2284))
 (.lett 2476 (.int .u64) (.bin .shl .u64 (.limb 741 4) (.lit 1))
 (.lett 2861 (.int .u64) (.bin .shr .u64 (.limb 741 3) (.lit 63))
 (.lett 2909 (.int .u64) (.bin .or .u64 (.var 2476) (.var 2861))
 (.lett 3053 (.int .u64) (.bin .shl .u64 (.limb 741 5) (.lit 1))
 (.lett 3438 (.int .u64) (.bin .shr .u64 (.limb 741 4) (.lit 63))
 (.lett 3486 (.int .u64) (.bin .or .u64 (.var 3053) (.var 3438))
 (.lett 3630 .num (.join [.var 744,.var 1178,.var 1755,.var 2332,.var 2909,.var 3486])
 (.req 2 [.var 0,.var 739,.lit 0,.var 3630]
 (.lett 3631 .num (.app 2 0 [.var 0,.var 739,.lit 0,.var 3630])
 (.lett 3632 (.int .i64) (.bin .add .i64 (.var 742) (.lit 1))
 (.back 0 [.var 3631,.var 3632])))))))))))))))))))))
 (.ret [.var 0,.var 739,.var 741]))))))))))))))))))))))))))))))))))))))
theorem pow_step {n i x:Int} (hn:3<=n) (hi:0<=i) (hx:x=2^i.toNat%n):(if n<=2*x then 2*x-n else 2*x)=2^(i+1).toNat%n:=by
 have h1:(i+1).toNat=i.toNat+1:=by omega
 obtain ⟨z,hz⟩:=md_of (x:=(2:Int)^i.toNat) (n:=n)
 have hb:=md_lt (x:=(2:Int)^i.toNat) (n:=n) (by omega)
 rw [h1,Int.pow_succ]
 rw [<- hx] at hb hz
 have key:2^i.toNat*2%n=2*x%n:=md (-(2*z)) (by rw [hz];grind)
 rw [key]
 split
 ·exact (md_eq 1 (by omega) (by omega) (by omega)).symm
 ·exact (Int.emod_eq_of_lt (by omega) (by omega)).symm
theorem shl_1 {v x:Int} (h:v=binE .shl .u64 x 1):v=2*x%18446744073709551616:=by
 have:=shl_d 2 h rfl
 simp only [wr] at this
 omega
theorem law_new (f1 f2 f3 f4 f:FuncId) (te:TypeId) (e:Nat->Int) (hk:kkHas [.num] [e 0]) (hp:(kNew f te).pre [e 0]):tNew.says [kWLen f1,kWCmp f2,kLess f3,kOf f4] ⟨fun ys=>ys=(kNew f te).sem [e 0],[]⟩ e:=by
 obtain ⟨hodd,hn3,hn⟩:=hp
 have h0:=hk.1
 have z:=U_lim e
 have hl:2*e 0<N384:=by rw [p382] at hn;unfold N384;omega
 simp only [KK.has] at h0
 have e00:lim (e 0) 0=e 0%18446744073709551616:=lim_0 _
 simp only [tNew,kWLen,kWCmp,kLess,kOf,kNew,Tree.says,List.getElem?_cons_zero,List.getElem?_cons_succ,List.map,ev_lit,ev_var,ev_limb,D.ev,List.getD_cons_zero,List.getD_cons_succ]
 intro a1 _ a2 _
 have b1:=and_1 a1 (z 0 0)
 have b2:=c_eq a2
 refine ⟨fun n=>by clear a1 z;omega,fun n=>⟨trivial,fun a3 _ a4 _=>?_⟩⟩
 have b4:=c_gt a4
 have hb:=blen_le 382 (e 0) h0.1 hn
 rw [<- a3] at hb
 refine ⟨fun n=>by clear a1 z;omega,fun n=>⟨trivial,fun a5 _=>⟨trivial,fun a6 _ a7 _=>?_⟩⟩⟩
 have b7:=c_lt a7
 rw [a5] at a6
 have b6:¬ e 577<0:=by rw [a6];rw [if_neg (by clear a1 z;omega)];split <;> decide
 refine ⟨fun n=>by clear a1 z;omega,fun n=>?_⟩
 intro c1 _ c2 _ c3 _ c4 _ c5 _ c6 _ c7 _ c8 _ c9 _ c10 _ c11 _ c12 _ c13 _ c14 _ c15 _ c16 _ c17 _ c18 _ c19 _
 have hlow:e 739=lowOf (e 0):=by
  simp only [binE,wr] at c1 c2 c3 c4 c5 c6 c7 c8 c9 c10 c11 c12 c13 c14 c15 c16 c17 c18 c19
  unfold lowOf
  rw [<- e00,newton_s c1 c2 c3,newton_s c4 c5 c6,newton_s c7 c8 c9,newton_s c10 c11 c12,newton_s c13 c14 c15,newton_s c16 c17 c18,c19,Int.zero_sub]
  rfl
 clear c1 c2 c3 c4 c5 c6 c7 c8 c9 c10 c11 c12 c13 c14 c15 c16 c17 c18 c19
 refine ⟨trivial,fun d1 _=>?_⟩
 refine ⟨fun | [x,i]=>0<=i/\i<=768/\x=2^i.toNat%e 0 | _=>False,fun | [_,i]=>(768-i).toNat | _=>0,?_,fun e' he hkk hI=>?_⟩
 ·refine ⟨by decide,by decide,?_⟩
  rw [d1];show (1:Int)=1%e 0;symm;exact Int.emod_eq_of_lt (by decide) (by omega)
 ·obtain ⟨i0,i1,i2⟩:0<=e' 742/\e' 742<=768/\e' 741=2^(e' 742).toNat%e 0:=hI
  have hx:=md_lt (x:=(2:Int)^(e' 742).toNat) (n:=e 0) (by omega)
  rw [<- i2] at hx
  intro g1 _
  have g2:=c_lt g1
  refine ⟨fun n=>?_,fun n=>?_⟩
  ·intro s0 _ s1 _ r1 _ o1 _ s2 _ r2 _ o2 _ s3 _ r3 _ o3 _ s4 _ r4 _ o4 _ s5 _ r5 _ o5 _ oj _
   have zz:=U_lim e'
   have hj:=dbl_join (x:=e' 741) (by constructor <;> (clear s0 s1 r1 o1 s2 r2 o2 s3 r3 o3 s4 r4 o4 s5 r5 o5 oj z zz;omega)) (by clear s0 s1 r1 o1 s2 r2 o2 s3 r3 o3 s4 r4 o4 s5 r5 o5 oj z zz;omega) (shl_1 s0) (or_1 o1 s1 r1 (zz _ _) (zz _ _)) (or_1 o2 s2 r2 (zz _ _) (zz _ _)) (or_1 o3 s3 r3 (zz _ _) (zz _ _)) (or_1 o4 s4 r4 (zz _ _) (zz _ _)) (or_1 o5 s5 r5 (zz _ _) (zz _ _))
   rw [<- oj] at hj
   clear oj s0 s1 r1 o1 s2 r2 o2 s3 r3 o3 s4 r4 o4 s5 r5 o5 z zz
   refine ⟨trivial,fun k1 _ k2 _=>?_⟩
   rw [he 0 (by decide),hj] at k1
   have hi:e' 3632=e' 742+1:=by rw [k2];simp only [binE,wr];omega
   show (0<=e' 3632/\e' 3632<=768/\e' 3631=2^(e' 3632).toNat%e 0)/\(768-e' 3632).toNat<(768-e' 742).toNat
   rw [hi,k1,pow_step hn3 i0 i2]
   exact ⟨⟨by omega,by omega,rfl⟩,by omega⟩
  ·have hi:e' 742=768:=by omega
   rw [he 0 (by decide),he 739 (by decide),hlow,i2,hi]
   rfl
set_option maxRecDepth 100000
theorem lim_inj {x y:Int} (hx:0<=x/\x<N384) (hy:0<=y/\y<N384) (h:lim x 0=lim y 0/\lim x 1=lim y 1/\lim x 2=lim y 2/\lim x 3=lim y 3/\lim x 4=lim y 4/\lim x 5=lim y 5):x=y:=by
 have:=lim_eq hx
 have:=lim_eq hy
 omega
theorem c_num {e:Nat->Int} {v:Int} {i j:Nat} (h:v=(D.eqs [(.limb i 0,.limb j 0),(.limb i 1,.limb j 1),(.limb i 2,.limb j 2),(.limb i 3,.limb j 3),(.limb i 4,.limb j 4),(.limb i 5,.limb j 5)]).ev [] e) (hi:0<=e i/\e i<N384) (hj:0<=e j/\e j<N384):(v=1/\e i=e j)∨(v=0/\¬ e i=e j):=by
 simp only [D.ev,List.all_cons,List.all_nil,ev_limb,Bool.and_true,b2i_bi,Bool.and_eq_true,beq_iff_eq] at h
 by_cases hc:e i=e j
 ·left;rw [hc] at h;simp at h;exact ⟨h,hc⟩
 ·right
  rw [if_neg (fun hh=>hc (lim_inj hi hj hh))] at h
  exact ⟨h,hc⟩
theorem c_num0 {e:Nat->Int} {v:Int} {i:Nat} (h:v=(D.eqs [(.limb i 0,.lit 0),(.limb i 1,.lit 0),(.limb i 2,.lit 0),(.limb i 3,.lit 0),(.limb i 4,.lit 0),(.limb i 5,.lit 0)]).ev [] e) (hi:0<=e i/\e i<N384):(v=1/\e i=0)∨(v=0/\¬ e i=0):=by
 simp only [D.ev,List.all_cons,List.all_nil,ev_limb,ev_lit,Bool.and_true,b2i_bi,Bool.and_eq_true,beq_iff_eq] at h
 by_cases hc:e i=0
 ·left;rw [hc] at h;simp [lim] at h;exact ⟨h,hc⟩
 ·right
  rw [if_neg (fun hh=>hc (by have:=lim_eq hi;omega))] at h
  exact ⟨h,hc⟩
theorem rOf_ok {s:Int} (h:isS s):rOf s%2=1/\3<=rOf s/\rOf s<2^382:=by
 obtain ⟨h0,h1⟩:=h
 have:s=0∨s=1∨s=2:=by omega
 rw [p382]
 rcases this with h | h | h <;> subst h <;> decide
def tOrder:Tree:=(.lett 1 .bit (.cmp .eql (.var 0) (.lit 0))
(.split 1
(.ret [.lit 52435875175126190479447740508185965837690552500527637822603658699938581184513])
(.lett 2 .bit (.cmp .eql (.var 0) (.lit 1))
(.split 2
 (.ret [.lit 65521])
 (.lett 3 .bit (.cmp .eql (.var 0) (.lit 2))
 (.split 3
 (.ret [.lit 72057594037927889])
 (.ret [.lit 0])))))))
theorem law_order (f:FuncId) (e:Nat->Int) (hk:kkHas [.int .i64] [e 0]) (hp:(kOrder f).pre [e 0]):tOrder.says [] ⟨fun ys=>ys=(kOrder f).sem [e 0],[]⟩ e:=by
 obtain ⟨p0,p1⟩:=hp
 simp only [tOrder,kOrder,Tree.says,List.getElem?_cons_zero,List.getElem?_cons_succ,List.map,ev_lit,ev_var,ev_limb,D.ev,List.getD_cons_zero,List.getD_cons_succ]
 intro a1 _
 have b1:=c_eq a1
 refine ⟨fun n=>?_,fun n=>?_⟩
 ·have:e 0=0:=by omega
  rw [this];rfl
 intro a2 _
 have b2:=c_eq a2
 refine ⟨fun n=>?_,fun n=>?_⟩
 ·have:e 0=1:=by omega
  rw [this];rfl
 intro a3 _
 have b3:=c_eq a3
 refine ⟨fun n=>?_,fun n=>?_⟩
 ·have:e 0=2:=by omega
  rw [this];rfl
 ·omega
def tSOrder:Tree:=(.lett 1 .bit (.cmp .eql (.var 0) (.lit 0))
(.split 1
(.req 0 [.var 0]
(.lett 2 .num (.app 0 0 [.var 0])
(.ret [.var 2,.lit 0])))
(.lett 2 .bit (.cmp .eql (.var 0) (.lit 1))
(.split 2
 (.req 0 [.var 0]
 (.lett 3 .num (.app 0 0 [.var 0])
 (.ret [.var 3,.lit 0])))
 (.lett 3 .bit (.cmp .eql (.var 0) (.lit 2))
 (.lett 4 .bit (.not (.var 3))
 (.split 4
 (.ret [.lit 0,.lit 2])
 (.req 0 [.var 0]
 (.lett 5 .num (.app 0 0 [.var 0])
 (.ret [.var 5,.lit 0]))))))))))
theorem law_sOrder (f1 f:FuncId) (e:Nat->Int) (hk:kkHas [.int .i64] [e 0]):tSOrder.says [kOrder f1] ⟨fun ys=>ys=(kSOrder f).sem [e 0],[]⟩ e:=by
 simp only [tSOrder,kOrder,kSOrder,Tree.says,List.getElem?_cons_zero,List.getElem?_cons_succ,List.map,ev_lit,ev_var,ev_limb,D.ev,List.getD_cons_zero,List.getD_cons_succ]
 intro a1 _
 have b1:=c_eq a1
 refine ⟨fun n=>?_,fun n=>?_⟩
 ·have hs:isS (e 0):=by unfold isS;omega
  exact ⟨hs,fun a _=>by rw [if_pos hs,a]⟩
 intro a2 _
 have b2:=c_eq a2
 refine ⟨fun n=>?_,fun n=>?_⟩
 ·have hs:isS (e 0):=by unfold isS;omega
  exact ⟨hs,fun a _=>by rw [if_pos hs,a]⟩
 intro a3 _ a4 _
 have b3:=c_eq a3
 have b4:=c_not a4
 refine ⟨fun n=>?_,fun n=>?_⟩
 ·rw [if_neg (by unfold isS;omega)]
 ·have hs:isS (e 0):=by unfold isS;omega
  exact ⟨hs,fun a _=>by rw [if_pos hs,a]⟩
def br2 (b:Nat):Tree:=(.req 0 [.var 0]
(.lett b .num (.app 0 0 [.var 0])
(.req 1 [.var 1,(.var b)]
(.lett (b+1) (.int .i64) (.app 1 0 [.var 1,(.var b)])
(.lett (b+2) .bit (.cmp .geq (.var (b+1)) (.lit 0))
(.split (b+2)
 (.ret [.lit 0,.lit 2])
 (.req 1 [.var 2,(.var b)]
 (.lett (b+3) (.int .i64) (.app 1 0 [.var 2,(.var b)])
 (.lett (b+4) .bit (.cmp .geq (.var (b+3)) (.lit 0))
 (.split (b+4)
 (.ret [.lit 0,.lit 2])
 (.req 2 [(.var b)]
 (.lett (b+5) .num (.app 2 0 [(.var b)])
 (.lett (b+6) (.int .u64) (.app 2 1 [(.var b)])
 (.lett (b+7) .num (.app 2 2 [(.var b)])
 (.req 3 [(.var (b+5)),(.var (b+6)),(.var (b+7)),.var 1,.var 2]
 (.lett (b+8) .num (.app 3 0 [(.var (b+5)),(.var (b+6)),(.var (b+7)),.var 1,.var 2])
 (.ret [(.var (b+8)),.lit 0])))))))))))))))))
def tS2:Tree:=(.lett 3 .bit (.cmp .eql (.var 0) (.lit 0))
(.split 3 (br2 4)
(.lett 4 .bit (.cmp .eql (.var 0) (.lit 1))
(.split 4 (br2 5)
(.lett 5 .bit (.cmp .eql (.var 0) (.lit 2))
(.lett 6 .bit (.not (.var 5))
(.split 6
 (.ret [.lit 0,.lit 2])
 (br2 7))))))))
theorem cmp_ge {a b v w:Int} (h:v=if a<b then -1 else if a=b then 0 else 1) (hw:w=b2i (cmpE .geq v 0)):(w=1/\b<=a)∨(w=0/\a<b):=by
 have:=c_ge hw
 split at h
 ·omega
 ·split at h <;> omega
theorem br2_says {Y:K} {op:Int->Int->Int} (f0 f1 f2:FuncId) (te:TypeId) (hpre:∀ n l w a b,mGood n l w->Y.pre [n,l,w,a,b]) (hsem:∀ n l w a b,Y.sem [n,l,w,a,b]=[op a b%n]) (e:Nat->Int) (hs:isS (e 0)) (b:Nat) :
  (br2 b).says [kOrder f0,kWCmp f1,kNew f2 te,Y] ⟨fun ys=>ys=sem2 op [e 0,e 1,e 2],[]⟩ e:=by
 simp only [br2,kOrder,kWCmp,kNew,sem2,hsem,Tree.says,List.getElem?_cons_zero,List.getElem?_cons_succ,List.map,ev_lit,ev_var,ev_limb,D.ev,List.getD_cons_zero,List.getD_cons_succ]
 refine ⟨hs,fun a0 _=>⟨trivial,fun a1 _ a2 _=>?_⟩⟩
 have b2:=cmp_ge a1 a2
 rw [a0] at b2
 refine ⟨fun n=>by rw [if_neg (by omega)],fun n=>⟨trivial,fun a3 _ a4 _=>?_⟩⟩
 have b4:=cmp_ge a3 a4
 rw [a0] at b4
 refine ⟨fun n'=>by rw [if_neg (by omega)],fun n'=>?_⟩
 obtain ⟨r1,r2,r3⟩:=rOf_ok hs
 rw [a0]
 refine ⟨⟨r1,r2,r3⟩,fun a5 _ a6 _ a7 _=>⟨hpre _ _ _ _ _ (by rw [a5,a6,a7];exact new_good r1 r2 r3),fun a8 _=>?_⟩⟩
 rw [if_pos ⟨hs,by omega,by omega⟩,a8,a5]
theorem law_s2 {Y:K} {op:Int->Int->Int} (f0 f1 f2 f:FuncId) (te:TypeId) (hpre:∀ n l w a b,mGood n l w->Y.pre [n,l,w,a,b]) (hsem:∀ n l w a b,Y.sem [n,l,w,a,b]=[op a b%n]) (e:Nat->Int) :
  tS2.says [kOrder f0,kWCmp f1,kNew f2 te,Y] ⟨fun ys=>ys=(kS2 f op).sem [e 0,e 1,e 2],[]⟩ e:=by
 unfold tS2
 intro a1 _
 have b1:=c_eq a1
 simp only [ev_var,ev_lit] at b1
 refine ⟨fun n=>br2_says f0 f1 f2 te hpre hsem e (by unfold isS;omega) _,fun n=>?_⟩
 intro a2 _
 have b2:=c_eq a2
 simp only [ev_var,ev_lit] at b2
 refine ⟨fun n=>br2_says f0 f1 f2 te hpre hsem e (by unfold isS;omega) _,fun n=>?_⟩
 intro a3 _ a4 _
 have b3:=c_eq a3
 have b4:=c_not a4
 simp only [ev_var,ev_lit] at b3 b4
 refine ⟨fun n=>?_,fun n=>br2_says f0 f1 f2 te hpre hsem e (by unfold isS;omega) _⟩
 show [(0:Int),2]=sem2 op [e 0,e 1,e 2]
 simp only [sem2]
 rw [if_neg (by unfold isS;omega)]
def br1 (b:Nat) (j:Bool):Tree:=(.req 0 [.var 0]
 (.lett b .num (.app 0 0 [.var 0])
 (.req 1 [.var 1,(.var b)]
 (.lett (b+1) (.int .i64) (.app 1 0 [.var 1,(.var b)])
 (.lett (b+2) .bit (.cmp .geq (.var (b+1)) (.lit 0))
 (.split (b+2)
  (.ret [.lit 0,.lit 2])
  (.req 2 [(.var b)]
  (.lett (b+3) .num (.app 2 0 [(.var b)])
  (.lett (b+4) (.int .u64) (.app 2 1 [(.var b)])
  (.lett (b+5) .num (.app 2 2 [(.var b)])
  (.req 3 [(.var (b+3)),(.var (b+4)),(.var (b+5)),.var 1]
  (.lett (b+6) .num (.app 3 0 [(.var (b+3)),(.var (b+4)),(.var (b+5)),.var 1])
   (if j then (.lett (b+7) (.int .i64) (.app 3 1 [(.var (b+3)),(.var (b+4)),(.var (b+5)),.var 1]) (.ret [(.var (b+6)),(.var (b+7))])) else (.ret [(.var (b+6)),.lit 0]))))))))))))))
def tS1 (j:Bool):Tree:=(.lett 2 .bit (.cmp .eql (.var 0) (.lit 0))
(.split 2 (br1 3 j)
(.lett 3 .bit (.cmp .eql (.var 0) (.lit 1))
(.split 3 (br1 4 j)
(.lett 4 .bit (.cmp .eql (.var 0) (.lit 2))
(.lett 5 .bit (.not (.var 4))
(.split 5
 (.ret [.lit 0,.lit 2])
 (br1 6 j))))))))
theorem br1_inv (f0 f1 f2 f3 f:FuncId) (te:TypeId) (e:Nat->Int) (hs:isS (e 0)) (b:Nat) :
  (br1 b true).says [kOrder f0,kWCmp f1,kNew f2 te,kMInv f3] ⟨fun ys=>ys=(kSInv f).sem [e 0,e 1],[]⟩ e:=by
 simp only [br1,kOrder,kWCmp,kNew,kMInv,kSInv,if_true,Tree.says,List.getElem?_cons_zero,List.getElem?_cons_succ,List.map,ev_lit,ev_var,ev_limb,D.ev,List.getD_cons_zero,List.getD_cons_succ]
 refine ⟨hs,fun a0 _=>⟨trivial,fun a1 _ a2 _=>?_⟩⟩
 have b2:=cmp_ge a1 a2
 rw [a0] at b2
 refine ⟨fun n=>by rw [if_neg (by omega)],fun n=>?_⟩
 obtain ⟨r1,r2,r3⟩:=rOf_ok hs
 rw [a0]
 refine ⟨⟨r1,r2,r3⟩,fun a5 _ a6 _ a7 _=>⟨by rw [a5,a6,a7];exact new_good r1 r2 r3,fun a8 _ a9 _=>?_⟩⟩
 rw [if_pos ⟨hs,by omega⟩,a8,a9,a5]
theorem s1_says {T:List K} {G:Gl} {j:Bool} (e:Nat->Int) (hb:isS (e 0)->∀ b,(br1 b j).says T G e) (hn:¬ isS (e 0)->G.goal [0,2]):(tS1 j).says T G e:=by
 unfold tS1
 intro a1 _
 have b1:=c_eq a1
 simp only [ev_var,ev_lit] at b1
 refine ⟨fun n=>hb (by unfold isS;omega) _,fun n=>?_⟩
 intro a2 _
 have b2:=c_eq a2
 simp only [ev_var,ev_lit] at b2
 refine ⟨fun n=>hb (by unfold isS;omega) _,fun n=>?_⟩
 intro a3 _ a4 _
 have b3:=c_eq a3
 have b4:=c_not a4
 simp only [ev_var,ev_lit] at b3 b4
 exact ⟨fun n=>hn (by unfold isS;omega),fun n=>hb (by unfold isS;omega) _⟩
theorem law_sInv (f0 f1 f2 f3 f:FuncId) (te:TypeId) (e:Nat->Int):(tS1 true).says [kOrder f0,kWCmp f1,kNew f2 te,kMInv f3] ⟨fun ys=>ys=(kSInv f).sem [e 0,e 1],[]⟩ e :=
 s1_says e (fun hs b=>br1_inv f0 f1 f2 f3 f te e hs b) fun hn=>by simp only [kSInv];rw [if_neg (fun h=>hn h.1)]
def tShR1:Tree:=(.lett 1 (.int .u64) (.bin .shl .u64 (.limb 0 1) (.lit 63))
(.lett 386 (.int .u64) (.bin .shr .u64 (.limb 0 0) (.lit 1))
(.lett 434 (.int .u64) (.bin .or .u64 (.var 1) (.var 386))
(.lett 578 (.int .u64) (.bin .shl .u64 (.limb 0 2) (.lit 63))
(.lett 963 (.int .u64) (.bin .shr .u64 (.limb 0 1) (.lit 1))
(.lett 1011 (.int .u64) (.bin .or .u64 (.var 578) (.var 963))
(.lett 1155 (.int .u64) (.bin .shl .u64 (.limb 0 3) (.lit 63))
(.lett 1540 (.int .u64) (.bin .shr .u64 (.limb 0 2) (.lit 1))
(.lett 1588 (.int .u64) (.bin .or .u64 (.var 1155) (.var 1540))
(.lett 1732 (.int .u64) (.bin .shl .u64 (.limb 0 4) (.lit 63))
(.lett 2117 (.int .u64) (.bin .shr .u64 (.limb 0 3) (.lit 1))
(.lett 2165 (.int .u64) (.bin .or .u64 (.var 1732) (.var 2117))
(.lett 2309 (.int .u64) (.bin .shl .u64 (.limb 0 5) (.lit 63))
(.lett 2694 (.int .u64) (.bin .shr .u64 (.limb 0 4) (.lit 1))
(.lett 2742 (.int .u64) (.bin .or .u64 (.var 2309) (.var 2694))
(.lett 3270 (.int .u64) (.bin .shr .u64 (.limb 0 5) (.lit 1))
(.lett 3318 (.int .u64) (.bin .or .u64 (.lit 0) (.var 3270))
(.lett 3462 .num (.join [.var 434,.var 1011,.var 1588,.var 2165,.var 2742,.var 3318])
(.ret [.var 3462])))))))))))))))))))
theorem law_shR1 (f:FuncId) (e:Nat->Int) (hk:kkHas [.num] [e 0]):tShR1.says [] ⟨fun ys=>ys=(kShR1 f).sem [e 0],[]⟩ e:=by
 have h0:=hk.1
 have z:=U_lim e
 simp only [tShR1,kShR1,Tree.says,List.getElem?_cons_zero,List.getElem?_cons_succ,List.map,ev_lit,ev_var,ev_limb,D.ev,List.getD_cons_zero,List.getD_cons_succ]
 intro s1 _ r1 _ o1 _ s2 _ r2 _ o2 _ s3 _ r3 _ o3 _ s4 _ r4 _ o4 _ s5 _ r5 _ o5 _ r6 _ o6 _ aj _
 have hj:=half_join h0 (or_63 o1 s1 r1 (z _ _) (z _ _)) (or_63 o2 s2 r2 (z _ _) (z _ _)) (or_63 o3 s3 r3 (z _ _) (z _ _)) (or_63 o4 s4 r4 (z _ _) (z _ _)) (or_63 o5 s5 r5 (z _ _) (z _ _)) (or_0 o6 r6 (z _ _))
 rw [<- aj] at hj
 rw [hj]
set_option maxRecDepth 100000
theorem eq_md {a b n:Int} (ha:0<=a/\a<n) (hb:0<=b/\b<n) (z:Int) (h:a=b+n*z):a=b:=by
 have:=md z h
 rwa [Int.emod_eq_of_lt ha.1 ha.2,Int.emod_eq_of_lt hb.1 hb.2] at this
theorem md1 {x n:Int} (h:x%n=1):∃ z,x=1+n*z:=⟨x/n,by have:=Int.emod_add_mul_ediv x n;omega⟩
theorem invM_eq {n a y:Int} (h0:0<=y/\y<n) (h:a*y%n=1):invM n a=y/\∃ y,0<=y/\y<n/\a*y%n=1:=by
 have hex:∃ y,0<=y/\y<n/\a*y%n=1:=⟨y,h0.1,h0.2,h⟩
 refine ⟨?_,hex⟩
 unfold invM
 rw [dif_pos hex]
 obtain ⟨c0,c1,c2⟩:=hex.choose_spec
 generalize hex.choose=c at *
 obtain ⟨s,hs⟩:=md1 h
 obtain ⟨t,ht⟩:=md1 c2
 refine eq_md ⟨c0,c1⟩ h0 (t*y-c*s) ?_
 have e1:c*(a*y)=c*(1+n*s):=by rw [hs]
 have e2:y*(a*c)=y*(1+n*t):=by rw [ht]
 grind
theorem invM_none {n a:Int} (h:¬ ∃ y,0<=y/\y<n/\a*y%n=1):invM n a=0:=by unfold invM;rw [dif_neg h]
def tMInv:Tree:=(.lett 4 .bit (.cmp .eql (.var 1) (.lit 0))
(.split 4
(.ret [.lit 0,.lit 1])
(.req 1 [.var 0,.var 1,.var 2,.var 3]
(.lett 101 .num (.app 1 0 [.var 0,.var 1,.var 2,.var 3])
(.req 0 [.lit 1]
(.lett 533 .num (.app 0 0 [.lit 1])
(.loop [.var 101,.var 0,.var 533,.lit 0] [.num,.num,.num,.num] 534
(.lett 538 .bit (.eqs [((.limb 534 0),(.lit 0)),((.limb 534 1),(.lit 0)),((.limb 534 2),(.lit 0)),((.limb 534 3),(.lit 0)),((.limb 534 4),(.lit 0)),((.limb 534 5),(.lit 0))])
(.lett 539 .bit (.not (.var 538))
(.split 539
 (.lett 540 (.int .u64) (.bin .and .u64 (.limb 534 0) (.lit 1))
 (.lett 541 .bit (.cmp .eql (.var 540) (.lit 0))
 (.split 541
 (.req 2 [.var 534]
 (.lett 590 .num (.app 2 0 [.var 534])
 (.req 3 [.var 0,.var 1,.var 2,.var 536]
 (.lett 734 .num (.app 3 0 [.var 0,.var 1,.var 2,.var 536])
 (.back 0 [.var 590,.var 535,.var 734,.var 537])))))
 (.lett 542 (.int .u64) (.bin .and .u64 (.limb 535 0) (.lit 1))
 (.lett 543 .bit (.cmp .eql (.var 542) (.lit 0))
 (.split 543
 (.req 2 [.var 535]
 (.lett 592 .num (.app 2 0 [.var 535])
 (.req 3 [.var 0,.var 1,.var 2,.var 537]
 (.lett 736 .num (.app 3 0 [.var 0,.var 1,.var 2,.var 537])
 (.back 0 [.var 534,.var 592,.var 536,.var 736])))))
 (.req 4 [.var 534,.var 535]
 (.lett 544 (.int .i64) (.app 4 0 [.var 534,.var 535])
 (.lett 545 .bit (.cmp .geq (.var 544) (.lit 0))
 (.split 545
 (.req 5 [.var 534,.var 535]
 (.lett 546 .num (.app 5 0 [.var 534,.var 535])
 (.lett 547 .bit (.app 5 1 [.var 534,.var 535])
 (.req 6 [.var 0,.var 1,.var 2,.var 536,.var 537]
 (.lett 548 .num (.app 6 0 [.var 0,.var 1,.var 2,.var 536,.var 537])
 (.back 0 [.var 546,.var 535,.var 548,.var 537]))))))
 (.req 5 [.var 535,.var 534]
 (.lett 546 .num (.app 5 0 [.var 535,.var 534])
 (.lett 547 .bit (.app 5 1 [.var 535,.var 534])
 (.req 6 [.var 0,.var 1,.var 2,.var 537,.var 536]
 (.lett 548 .num (.app 6 0 [.var 0,.var 1,.var 2,.var 537,.var 536])
 (.back 0 [.var 534,.var 546,.var 536,.var 548]))))))))))))))))
 (.req 0 [.lit 1]
 (.lett 588 .num (.app 0 0 [.lit 1])
 (.lett 636 .bit (.eqs [((.limb 535 0),(.limb 588 0)),((.limb 535 1),(.limb 588 1)),((.limb 535 2),(.limb 588 2)),((.limb 535 3),(.limb 588 3)),((.limb 535 4),(.limb 588 4)),((.limb 535 5),(.limb 588 5))])
 (.lett 637 .bit (.not (.var 636))
 (.split 637
 (.ret [.lit 0,.lit 6])
 (.ret [.var 537,.lit 0]))))))))))))))))
def InvI (n a:Int):List Int->Prop
 | [u,v,x,y]=>1<=v/\x<n/\y<n/\(∃ z,x*a=u+n*z)/\(∃ z,y*a=v+n*z)/\(∀ d:Int,d∣u->d∣v->d∣a/\d∣n)
 | _=>False
def InvM:List Int->Nat
 | [u,v,_,_]=>(u+v).toNat
 | _=>0
theorem half_step {n a u x:Int} (ho:n%2=1) (hu:u%2=0) (h:∃ z,x*a=u+n*z):∃ z,(x*half2 n%n)*a=u/2+n*z:=by
 obtain ⟨z,hz⟩:=h
 obtain ⟨t,ht⟩:=md_of (x:=x*half2 n) (n:=n)
 have e2:2*half2 n=n+1:=by unfold half2;omega
 have hu2:u=2*(u/2):=by omega
 generalize u/2=w at *
 generalize half2 n=i at *
 rw [ht]
 refine ⟨w+z*i+t*a,?_⟩
 have e1:x*a*i=(u+n*z)*i:=by rw [hz]
 have e3:u*i=w*(n+1):=by rw [hu2,<- e2];grind
 grind
theorem sub_step {n a u v x y:Int} (h:∃ z,x*a=u+n*z) (h':∃ z,y*a=v+n*z):∃ z,((x-y)%n)*a=(u-v)+n*z:=by
 obtain ⟨z,hz⟩:=h
 obtain ⟨w,hw⟩:=h'
 obtain ⟨t,ht⟩:=md_of (x:=x-y) (n:=n)
 rw [ht]
 exact ⟨z-w+t*a,by grind⟩
theorem law_mInv (f0 f1 f2 f3 f4 f5 f6 f:FuncId) (e:Nat->Int) (hk:kkHas [.num,.int .u64,.num,.num] [e 0,e 1,e 2,e 3]) (hp:(kMInv f).pre [e 0,e 1,e 2,e 3]) :
  tMInv.says [kOf f0,kReduce f1,kShR1 f2,kHalf f3,kWCmp f4,kWSub f5,kMSub f6] ⟨fun ys=>ys=(kMInv f).sem [e 0,e 1,e 2,e 3],[]⟩ e:=by
 obtain ⟨hm,hw⟩:=hp
 have hn3:=hm.2.1
 have hl:=hm.lt
 have ho:=hm.odd
 have hlow:=hm.low_ne
 have h0:=hk.1
 simp only [KK.has] at h0
 simp only [tMInv,kOf,kReduce,kShR1,kHalf,kWCmp,kWSub,kMSub,kMInv,Tree.says,List.getElem?_cons_zero,List.getElem?_cons_succ,List.map,ev_lit,ev_var,ev_limb,D.ev,List.getD_cons_zero,List.getD_cons_succ]
 intro a4 _
 have b4:=c_eq a4
 refine ⟨fun n=>by omega,fun n=>⟨⟨hm,hw⟩,fun a5 _=>⟨trivial,fun a6 _=>?_⟩⟩⟩
 refine ⟨InvI (e 0) (e 3),InvM,?_,fun e' he hkk hI=>?_⟩
 ·rw [a5,a6]
  refine ⟨by omega,by omega,by omega,?_,⟨-1,by omega⟩,fun d d1 d2=>⟨?_,d2⟩⟩
  ·obtain ⟨z,hz⟩:=md_of (x:=e 3) (n:=e 0)
   exact ⟨-z,by rw [hz];grind⟩
  ·have:=Int.emod_add_mul_ediv (e 3) (e 0)
   rw [<- this]
   exact Int.dvd_add d1 (Int.dvd_trans d2 (Int.dvd_mul_right ..))
 ·obtain ⟨i1,i2,i3,i4,i5,i6⟩:InvI (e 0) (e 3) [e' 534,e' 535,e' 536,e' 537]:=hI
  obtain ⟨k1,k2,k3,k4,_⟩:kkHas [.num,.num,.num,.num] [e' 534,e' 535,e' 536,e' 537]:=hkk
  simp only [KK.has] at k1 k2 k3 k4
  have m0:e' 0=e 0:=he 0 (by decide)
  have m1:e' 1=e 1:=he 1 (by decide)
  have m2:e' 2=e 2:=he 2 (by decide)
  have z:=U_lim e'
  have hmod:∀ i,lim (e' i) 0=e' i%18446744073709551616:=fun i=>lim_0 _
  intro c1 _ c2 _
  have d1:=c_num0 c1 k1
  have d2:=c_not c2
  refine ⟨fun hs=>?_,fun hs=>?_⟩
  ·have hu:1<=e' 534:=by omega
   intro g1 _ g2 _
   have j1:=and_1 g1 (z 534 0)
   have j2:=c_eq g2
   rw [hmod 534] at j1
   refine ⟨fun hs2=>?_,fun hs2=>?_⟩
   ·refine ⟨trivial,fun r1 _=>⟨by rw [m0,m1,m2];exact ⟨⟨hm,hw⟩,i2⟩,fun r2 _=>?_⟩⟩
    rw [m0] at r2
    have hev:e' 534%2=0:=by clear g1 z;omega
    show InvI (e 0) (e 3) [e' 590,e' 535,e' 734,e' 537]/\InvM [e' 590,e' 535,e' 734,e' 537]<InvM [e' 534,e' 535,e' 536,e' 537]
    rw [r1,r2]
    refine ⟨⟨i1,(md_lt (by omega)).2,i3,half_step ho hev i4,i5,fun d x1 x2=>i6 d ?_ x2⟩,?_⟩
    ·rw [show e' 534=e' 534/2*2 by clear g1 z;omega];exact Int.dvd_trans x1 (Int.dvd_mul_right ..)
    ·simp only [InvM];clear g1 z;omega
   ·intro g3 _ g4 _
    have j3:=and_1 g3 (z 535 0)
    have j4:=c_eq g4
    rw [hmod 535] at j3
    refine ⟨fun hs3=>?_,fun hs3=>?_⟩
    ·refine ⟨trivial,fun r1 _=>⟨by rw [m0,m1,m2];exact ⟨⟨hm,hw⟩,i3⟩,fun r2 _=>?_⟩⟩
     rw [m0] at r2
     have hev:e' 535%2=0:=by clear g1 g3 z;omega
     show InvI (e 0) (e 3) [e' 534,e' 592,e' 536,e' 736]/\InvM [e' 534,e' 592,e' 536,e' 736]<InvM [e' 534,e' 535,e' 536,e' 537]
     rw [r1,r2]
     refine ⟨⟨by clear g1 g3 z;omega,i2,(md_lt (by omega)).2,i4,half_step ho hev i5,fun d x1 x2=>i6 d x1 ?_⟩,?_⟩
     ·rw [show e' 535=e' 535/2*2 by clear g1 g3 z;omega];exact Int.dvd_trans x2 (Int.dvd_mul_right ..)
     ·simp only [InvM];clear g1 g3 z;omega
    ·refine ⟨trivial,fun r1 _ r2 _=>?_⟩
     have q:=cmp_ge r1 r2
     clear g1 g3 z r1 r2
     refine ⟨fun hs4=>?_,fun hs4=>?_⟩
     ·refine ⟨trivial,fun r3 _ _ _=>⟨by rw [m0,m1,m2];exact ⟨hm,hw⟩,fun r4 _=>?_⟩⟩
      rw [m0] at r4
      rw [Int.emod_eq_of_lt (by omega) (by omega)] at r3
      show InvI (e 0) (e 3) [e' 546,e' 535,e' 548,e' 537]/\InvM [e' 546,e' 535,e' 548,e' 537]<InvM [e' 534,e' 535,e' 536,e' 537]
      rw [r3,r4]
      refine ⟨⟨i1,(md_lt (by omega)).2,i3,sub_step i4 i5,i5,fun d x1 x2=>i6 d ?_ x2⟩,?_⟩
      ·rw [show e' 534=e' 534-e' 535+e' 535 by omega];exact Int.dvd_add x1 x2
      ·simp only [InvM];omega
     ·refine ⟨trivial,fun r3 _ _ _=>⟨by rw [m0,m1,m2];exact ⟨hm,hw⟩,fun r4 _=>?_⟩⟩
      rw [m0] at r4
      rw [Int.emod_eq_of_lt (by omega) (by omega)] at r3
      show InvI (e 0) (e 3) [e' 534,e' 546,e' 536,e' 548]/\InvM [e' 534,e' 546,e' 536,e' 548]<InvM [e' 534,e' 535,e' 536,e' 537]
      rw [r3,r4]
      refine ⟨⟨by omega,i2,(md_lt (by omega)).2,i4,sub_step i5 i4,fun d x1 x2=>i6 d x1 ?_⟩,?_⟩
      ·rw [show e' 535=e' 535-e' 534+e' 534 by omega];exact Int.dvd_add x2 x1
      ·simp only [InvM];omega
  ·have hu:e' 534=0:=by omega
   rw [hu] at i6
   refine ⟨trivial,fun r1 _ r2 _ r3 _=>?_⟩
   have t2:=c_num r2 k2 (by rw [r1];unfold N384;decide)
   have t3:=c_not r3
   rw [r1] at t2
   refine ⟨fun hs2=>?_,fun hs2=>?_⟩
   ·have hno:¬ ∃ y,0<=y/\y<e 0/\e 3*y%e 0=1:=by
     rintro ⟨y,_,_,hy⟩
     obtain ⟨q1,q2⟩:=i6 (e' 535) (Int.dvd_zero _) (Int.dvd_refl _)
     obtain ⟨t,ht⟩:=md1 hy
     have:e' 535∣1:=by
      have h1:(1:Int)=e 3*y-e 0*t:=by omega
      rw [h1]
      exact Int.dvd_sub (Int.dvd_trans q1 (Int.dvd_mul_right ..)) (Int.dvd_trans q2 (Int.dvd_mul_right ..))
     have:=Int.le_of_dvd (by decide) this
     omega
    rw [invM_none hno,if_neg hno]
   ·have hv:e' 535=1:=by omega
    obtain ⟨t,ht⟩:=i5
    obtain ⟨q1,q2⟩:=invM_eq (n:=e 0) (a:=e 3) (y:=e' 537) ⟨k4.1,i3⟩ (md_eq t (by rw [Int.mul_comm,ht,hv]) (by decide) (by omega))
    rw [q1,if_pos q2]
set_option maxRecDepth 100000
def decT (lvl n m:Nat) (k:Nat->A->Tree):Tree :=
 (.lett m (.int .u64) (.bin .sub .u64 (.var n) (.lit 1))
 (.lett (m+1) (.int .u64) (.bin .add .u64 (.var (n+1)) (.var 10))
 (.lett (m+2) .bit (.cmp .geq (.var (m+1)) (.lit 4294967296))
 (.split (m+2) (k (m+3) (.var m)) (.back lvl [.var m,.var (m+1)])))))
def digT (lvl n w:Nat) (q0 r0:A) (k:Nat->A->Tree):Tree :=
 (.loop [q0,r0] [(.int .u64),(.int .u64)] n
 (.lett (n+2) .bit (.cmp .geq (.var n) (.lit 4294967296))
 (.split (n+2) (decT lvl n (n+3) k)
 (.lett (n+3) (.int .u64) (.bin .mul .u64 (.var n) (.var 11))
 (.lett (n+4) (.int .u64) (.bin .mul .u64 (.lit 4294967296) (.var (n+1)))
 (.lett (n+5) (.int .u64) (.bin .add .u64 (.var (n+4)) (.var w))
 (.lett (n+6) .bit (.cmp .gtr (.var (n+3)) (.var (n+5)))
 (.split (n+6) (decT lvl n (n+7) k) (k (n+7) (.var n))))))))))
def k2T (c:Nat) (q1:A) (b:Nat) (q0:A):Tree :=
 (.lett b (.int .u64) (.bin .mul .u64 q1 (.lit 4294967296))
 (.lett (b+1) (.int .u64) (.bin .add .u64 (.var b) q0)
 (.lett (b+2) (.int .u64) (.bin .mul .u64 (.var (c+3)) (.lit 4294967296))
 (.lett (b+3) (.int .u64) (.bin .add .u64 (.var (b+2)) (.var 18))
 (.lett (b+4) (.int .u64) (.bin .mul .u64 q0 (.var 9))
 (.lett (b+5) (.int .u64) (.bin .sub .u64 (.var (b+3)) (.var (b+4)))
 (.lett (b+6) (.int .u64) (.bin .shr .u64 (.var (b+5)) (.var 8))
 (.ret [.var (b+1),.var (b+6)]))))))))
def k1T (b:Nat) (q1:A):Tree :=
 (.lett b (.int .u64) (.bin .mul .u64 (.var 15) (.lit 4294967296))
 (.lett (b+1) (.int .u64) (.bin .add .u64 (.var b) (.var 17))
 (.lett (b+2) (.int .u64) (.bin .mul .u64 q1 (.var 9))
 (.lett (b+3) (.int .u64) (.bin .sub .u64 (.var (b+1)) (.var (b+2)))
 (.lett (b+4) (.int .u64) (.bin .quo .u64 (.var (b+3)) (.var 10))
 (.nz (.var 10)
 (.lett (b+5) (.int .u64) (.bin .mul .u64 (.var (b+4)) (.var 10))
 (.lett (b+6) (.int .u64) (.bin .sub .u64 (.var (b+3)) (.var (b+5)))
 (digT 1 (b+7) 18 (.var (b+4)) (.var (b+6)) (k2T b q1))))))))))
def tDiv64:Tree :=
(.lett 3 .bit (.cmp .eql (.var 2) (.lit 0))
(.split 3
 (.bad 41 "bits.go:520")
 (.lett 4 .bit (.cmp .leq (.var 2) (.var 0))
 (.split 4
  (.bad 41 "bits.go:523")
  (.lett 5 .bit (.cmp .eql (.var 0) (.lit 0))
  (.split 5
  (.lett 102 (.int .u64) (.bin .quo .u64 (.var 1) (.var 2))
  (.nz (.var 2)
  (.lett 246 (.int .u64) (.bin .rem .u64 (.var 1) (.var 2))
  (.nz (.var 2)
  (.ret [.var 102,.var 246])))))
  (.req 0 [.var 2]
  (.lett 6 (.int .i64) (.app 0 0 [.var 2])
  (.lett 7 (.int .i64) (.bin .sub .i64 (.lit 64) (.var 6))
  (.lett 8 (.int .u64) (.conv .u64 (.var 7))
  (.lett 9 (.int .u64) (.bin .shl .u64 (.var 2) (.var 8))
  (.lett 10 (.int .u64) (.bin .shr .u64 (.var 9) (.lit 32))
  (.lett 11 (.int .u64) (.bin .and .u64 (.var 9) (.lit 4294967295))
  (.lett 12 (.int .u64) (.bin .shl .u64 (.var 0) (.var 8))
  (.lett 13 (.int .u64) (.bin .sub .u64 (.lit 64) (.var 8))
  (.lett 14 (.int .u64) (.bin .shr .u64 (.var 1) (.var 13))
  (.lett 15 (.int .u64) (.bin .or .u64 (.var 12) (.var 14))
  (.lett 16 (.int .u64) (.bin .shl .u64 (.var 1) (.var 8))
  (.lett 17 (.int .u64) (.bin .shr .u64 (.var 16) (.lit 32))
  (.lett 18 (.int .u64) (.bin .and .u64 (.var 16) (.lit 4294967295))
  (.lett 19 (.int .u64) (.bin .quo .u64 (.var 15) (.var 10))
  (.nz (.var 10)
  (.lett 20 (.int .u64) (.bin .mul .u64 (.var 19) (.var 10))
  (.lett 21 (.int .u64) (.bin .sub .u64 (.var 15) (.var 20))
   (digT 0 22 17 (.var 19) (.var 21) k1T)))))))))))))))))))))))))
def DigI (X0 Y y1 u:Int):List Int->Prop
 | [q,r]=>q*y1+r=X0/\0<=r/\r<4294967296/\X0*4294967296+u<(q+1)*Y/\0<=q/\q<=4294967297
 | _=>False
theorem dig_div {X Y q:Int} (hY:0<Y) (h1:q*Y<=X) (h2:X<(q+1)*Y):q=X/Y:=by
 have a1:=Int.le_ediv_of_mul_le hY h1
 have a2:=Int.ediv_lt_of_lt_mul hY h2
 omega
theorem digT_says {T:List K} {G:Gl} {e:Nat->Int} {lvl n w:Nat} {q0 r0:A} {k:Nat->A->Tree} {X0 Y:Int} (hn:19<=n) (hwn:w<n) (h10:e 10=Y/4294967296) (h11:e 11=Y%4294967296) (hY:9223372036854775808<=Y/\Y<18446744073709551616)
  (hD:0<=X0/\X0<Y) (hu:0<=e w/\e w<4294967296) (hq:q0.ev e=X0/(Y/4294967296)) (hr:r0.ev e=X0%(Y/4294967296)) (hl:G.stk.length=lvl)
  (hk:∀ (e':Nat->Int) (b q:Nat) (G':Gl),(∀ i,i<n->e' i=e i)->e' q=(X0*4294967296+e w)/Y->G'.goal=G.goal->G'.stk.length=lvl+1->n<=q->q<b->(k b (.var q)).says T G' e'):(digT lvl n w q0 r0 k).says T G e:=by
 refine ⟨DigI X0 Y (Y/4294967296) (e w),fun | [q,_]=>q.toNat | _=>0,?_,fun e' he hkk hI=>?_⟩
 ·show DigI X0 Y (Y/4294967296) (e w) [q0.ev e,r0.ev e]
  rw [hq,hr]
  have hy1:2147483648<=Y/4294967296/\Y/4294967296<4294967296:=by omega
  have hm:=Int.emod_add_mul_ediv X0 (Y/4294967296)
  have hlt:=Int.emod_lt_of_pos X0 (show 0<Y/4294967296 by omega)
  have hnn:=Int.emod_nonneg X0 (show Y/4294967296≠0 by omega)
  have hq0:0<=X0/(Y/4294967296):=Int.ediv_nonneg hD.1 (by omega)
  rw [Int.mul_comm (Y/4294967296)] at hm
  generalize X0/(Y/4294967296)=q at *
  generalize X0%(Y/4294967296)=r at *
  have hYe:Y=Y/4294967296*4294967296+Y%4294967296:=by omega
  have hy0:0<=Y%4294967296/\Y%4294967296<4294967296:=by omega
  generalize Y/4294967296=y1 at *
  generalize Y%4294967296=y0 at *
  have e1:(q+1)*Y=4294967296*(q*y1)+4294967296*y1+(q+1)*y0:=by rw [hYe];grind
  have e2:0<=(q+1)*y0:=Int.mul_nonneg (by omega) hy0.1
  refine ⟨by omega,hnn,by omega,by omega,hq0,?_⟩
  by_cases hc:q<=4294967297
  ·exact hc
  ·exfalso
   have h1:4294967298*y1<=q*y1:=Int.mul_le_mul_of_nonneg_right (by omega) (by omega)
   omega
 ·obtain ⟨i1,i2,i3,i4,i5,i6⟩:DigI X0 Y (Y/4294967296) (e w) [e' n,e' (n+1)]:=hI
  have m10:e' 10=Y/4294967296:=(he 10 (by omega)).trans h10
  have m11:e' 11=Y%4294967296:=(he 11 (by omega)).trans h11
  have mw:e' w=e w:=he w hwn
  have hy1:2147483648<=Y/4294967296/\Y/4294967296<4294967296:=by omega
  have hYe:Y=Y/4294967296*4294967296+Y%4294967296:=by omega
  have hy0:0<=Y%4294967296/\Y%4294967296<4294967296:=by omega
  have dec:∀ m,n+3<=m->X0*4294967296+e w<e' n*Y->1<=e' n ->
    (decT lvl n m k).says T {G with stk:=G.stk++[fun us=>DigI X0 Y (Y/4294967296) (e w) us/\(match us with | [q,_]=>q.toNat | _=>0)<(match seqE e' n 2 with | [q,_]=>q.toNat | _=>0)] } e':=by
   intro m hm hX hq1 a1 _ a2 _ a3 _
   simp only [D.ev,ev_var,ev_lit,binE,wr] at a1 a2
   have b3:=c_ge a3
   simp only [ev_var,ev_lit] at b3
   rw [m10] at a2
   have hq':e' m=e' n-1:=by rw [a1];omega
   have hr':e' (m+1)=e' (n+1)+Y/4294967296:=by rw [a2];omega
   generalize Y/4294967296=y1 at *
   generalize Y%4294967296=y0 at *
   have e1:(e' n-1)*Y=4294967296*(e' n*y1)-4294967296*y1+(e' n-1)*y0:=by rw [hYe];grind
   have e2:(e' n-1)*y1=e' n*y1-y1:=by grind
   refine ⟨fun hs=>?_,fun hs=>?_⟩
   ·refine hk e' (m+3) m _ (fun i hi=>he i hi) ?_ rfl (by simp [hl]) (by omega) (by omega)
    show e' m=_
    rw [hq']
    have e3:(e' n-1)*y0<=4294967296*4294967295:=Int.mul_le_mul (by omega) (by omega) hy0.1 (by omega)
    exact dig_div (by omega) (by omega) (by rw [Int.sub_add_cancel];exact hX)
   ·show match (G.stk++[_])[lvl]? with | some R=>R ([A.var m,A.var (m+1)].map (·.ev e')) | none=>False
    rw [<- hl,List.getElem?_append_right (Nat.le_refl _)]
    simp only [Nat.sub_self,List.getElem?_cons_zero,List.map,ev_var]
    show DigI X0 Y y1 (e w) [e' m,e' (m+1)]/\(e' m).toNat<(e' n).toNat
    rw [hq',hr']
    refine ⟨⟨?_,by omega,by omega,by rw [Int.sub_add_cancel];exact hX,by omega,by omega⟩,by omega⟩
    omega
  intro a2 _
  have b2:=c_ge a2
  simp only [ev_var,ev_lit] at b2
  have eY:e' n*Y=4294967296*(e' n*(Y/4294967296))+e' n*(Y%4294967296):=by
   generalize Y/4294967296=y1 at *
   generalize Y%4294967296=y0 at *
   rw [hYe];grind
  refine ⟨fun hs=>?_,fun hs=>?_⟩
  ·refine dec (n+3) (by omega) ?_ (by omega)
   have:4294967296*Y<=e' n*Y:=Int.mul_le_mul_of_nonneg_right (by omega) (by omega)
   omega
  ·intro a3 _ a4 _ a5 _ a6 _
   simp only [D.ev,ev_var,ev_lit,binE,wr] at a3 a4 a5
   have b6:=c_gt a6
   simp only [ev_var,ev_lit] at b6
   rw [m11] at a3
   rw [mw] at a5
   have p0:0<=e' n*(Y%4294967296)/\e' n*(Y%4294967296)<=4294967295*4294967295:=⟨Int.mul_nonneg i5 hy0.1,Int.mul_le_mul (by omega) (by omega) hy0.1 (by omega)⟩
   have c3:e' (n+3)=e' n*(Y%4294967296):=by rw [a3];exact Int.emod_eq_of_lt p0.1 (by omega)
   have c5:e' (n+5)=4294967296*e' (n+1)+e w:=by rw [a5,a4];omega
   refine ⟨fun hs2=>?_,fun hs2=>?_⟩
   ·refine dec (n+7) (by omega) (by omega) ?_
    by_cases hc:1<=e' n
    ·exact hc
    ·exfalso
     have:e' n=0:=by omega
     rw [this] at c3
     omega
   ·refine hk e' (n+7) n _ (fun i hi=>he i hi) ?_ rfl (by simp [hl]) (by omega) (by omega)
    show e' n=_
    exact dig_div (by omega) (by omega) i4
theorem pow_split {s:Nat} (hs:s<=64):(2:Int)^s*2^(64-s)=18446744073709551616:=by
 rw [<- Int.pow_add,show s+(64-s)=64 by omega];decide +kernel
set_option maxHeartbeats 4000000 in
theorem law_div64 (f1 f:FuncId) (e:Nat->Int) (hk:kkHas [.int .u64,.int .u64,.int .u64] [e 0,e 1,e 2]) (hp:(kDiv64 f).pre [e 0,e 1,e 2]):tDiv64.says [kLen64 f1] ⟨fun ys=>ys=(kDiv64 f).sem [e 0,e 1,e 2],[]⟩ e:=by
 obtain ⟨h0,h1,h2,_⟩:=hk
 have u0:=has_u64 h0
 have u1:=has_u64 h1
 have u2:=has_u64 h2
 have hlt:e 0<e 2:=hp
 unfold tDiv64
 intro a3 _
 have b3:=c_eq a3
 simp only [ev_var,ev_lit] at b3
 refine ⟨fun n=>by omega,fun n=>?_⟩
 intro a4 _
 have b4:=c_le a4
 simp only [ev_var,ev_lit] at b4
 refine ⟨fun n=>by omega,fun n=>?_⟩
 intro a5 _
 have b5:=c_eq a5
 simp only [ev_var,ev_lit] at b5
 refine ⟨fun n=>?_,fun n=>?_⟩
 ·intro a6 _
  refine ⟨by show e 2≠0;omega,?_⟩
  intro a7 _
  refine ⟨by show e 2≠0;omega,?_⟩
  simp only [D.ev,ev_var,binE,wr] at a6 a7
  rw [Int.tdiv_eq_ediv_of_nonneg u1.1] at a6
  rw [Int.tmod_eq_emod_of_nonneg u1.1] at a7
  have hle:=Int.ediv_le_self (e 2) u1.1
  have hnn:=Int.ediv_nonneg u1.1 u2.1
  show [e 102,e 246]=[(e 0*18446744073709551616+e 1)/e 2,(e 0*18446744073709551616+e 1)%e 2]
  rw [show e 0=0 by omega,Int.zero_mul,Int.zero_add,a6,a7,Int.emod_eq_of_lt hnn (by omega)]
 ·have hy:1<=e 2:=by omega
  refine ⟨trivial,?_⟩
  intro a6 _ a7 _ a8 _ a9 _ a10 _ a11 _ a12 _ a13 _ a14 _ a15 _ a16 _ a17 _ a18 _ a19 _
  have c6:e 6=blen (e 2):=a6
  have hb0:1<=blen (e 2):=by rw [blen_1 hy];have:=blen_nn (e 2/2);omega
  have hb1:blen (e 2)<=64:=blen_le 64 _ u2.1 (by rw [p64'];exact u2.2)
  have c7:e 7=64-blen (e 2):=by rw [a7];simp only [D.ev,ev_var,ev_lit,binE,wr];omega
  have c8:e 8=64-blen (e 2):=by rw [a8];simp only [D.ev,ev_var,wr];omega
  obtain ⟨s,hs⟩:=Int.eq_ofNat_of_zero_le (show 0<=e 8 by omega)
  have hs64:s<=63:=by omega
  have hP:=pow_split (s:=s) (by omega)
  have hp1:(0:Int)<2^s:=Int.pow_pos (by decide)
  have hp2:(0:Int)<2^(64-s):=Int.pow_pos (by decide)
  have hyu:e 2<2^(64-s):=by
   by_cases hc:e 2<2^(64-s)
   ·exact hc
   ·have:=blen_gt (64-s) (e 2) (by omega);omega
  have hyl:(2:Int)^(63-s)<=e 2:=by
   by_cases hc:(2:Int)^(63-s)<=e 2
   ·exact hc
   ·have:=blen_le (63-s) (e 2) u2.1 (by omega);omega
  have hP2:(2:Int)^s*2^(63-s)=9223372036854775808:=by
   rw [<- Int.pow_add,show s+(63-s)=63 by omega];decide +kernel
  have hYu:e 2*2^s<18446744073709551616:=by
   rw [<- hP,Int.mul_comm];exact Int.mul_lt_mul_of_pos_left hyu hp1
  have hYl:9223372036854775808<=e 2*2^s:=by
   rw [<- hP2,Int.mul_comm (e 2)];exact Int.mul_le_mul_of_nonneg_left hyl (by omega)
  have hshl:∀ {v x:Int},v=binE .shl .u64 x (e 8)->v=x*2^s%18446744073709551616:=by
   intro v x h
   rw [h,hs];simp only [binE]
   rw [show min ((s:Int).toNat) IntKind.u64.bits=s by show min s 64=s;omega,Int.natCast_pow];rfl
  have c9:e 9=e 2*2^s:=by
   have h:=hshl a9
   simp only [ev_var] at h
   rw [h];exact Int.emod_eq_of_lt (by omega) hYu
  have c10:e 10=e 9/4294967296:=shr_e a10
  have c11:e 11=e 9%4294967296:=and_32 a11 (by constructor <;> omega)
  have hhi:e 0*2^s<=e 2*2^s-2^s:=by
   have:=Int.mul_le_mul_of_nonneg_right (show e 0<=e 2-1 by omega) (show (0:Int)<=2^s by omega)
   rw [Int.sub_mul,Int.one_mul] at this;exact this
  have hhi0:0<=e 0*2^s:=Int.mul_nonneg u0.1 (by omega)
  have c12:e 12=e 0*2^s:=by
   have h:=hshl a12
   simp only [ev_var] at h
   rw [h];exact Int.emod_eq_of_lt hhi0 (by omega)
  have c13:e 13=((64-s:Nat):Int):=by rw [a13];simp only [D.ev,ev_var,ev_lit,binE,wr];rw [hs];omega
  have c14:e 14=e 1/2^(64-s):=by
   rw [a14];simp only [D.ev,ev_var,binE]
   rw [c13,show min (((64-s:Nat):Int).toNat) IntKind.u64.bits=64-s by show min (64-s) 64=_;omega,Int.natCast_pow]
   exact Int.fdiv_eq_ediv_of_nonneg _ (by exact Int.le_of_lt hp2)
  have hlo:e 1/2^(64-s)<2^s:=Int.ediv_lt_of_lt_mul hp2 (by rw [hP];exact u1.2)
  have hlo0:0<=e 1/2^(64-s):=Int.ediv_nonneg u1.1 (by omega)
  have c15:e 15=e 0*2^s+e 1/2^(64-s):=by
   rw [<- c12,<- c14]
   exact or_dis (k:=s) (q:=e 0) a15 (by rw [c12,Int.natCast_pow];rfl) u0.1 (by rw [c14,Int.natCast_pow];exact ⟨hlo0,hlo⟩) (by rw [c12,c14];omega)
  have c16:e 16=e 1*2^s%18446744073709551616:=hshl a16
  have c17:e 17=e 16/4294967296:=shr_e a17
  have c18:e 18=e 16%4294967296:=and_32 a18 (by constructor <;> omega)
  have htot:(e 0*18446744073709551616+e 1)*2^s=e 15*18446744073709551616+e 16:=by
   have h1:e 1*2^s=e 1/2^(64-s)*18446744073709551616+e 1%2^(64-s)*2^s:=by
    have hm:=Int.emod_add_mul_ediv (e 1) (2^(64-s))
    conv=>lhs;rw [<- hm]
    rw [<- hP];grind
   have h2:0<=e 1%2^(64-s)*2^s:=Int.mul_nonneg (Int.emod_nonneg _ (by omega)) (by omega)
   have h3:e 1%2^(64-s)*2^s<18446744073709551616:=by
    rw [<- hP,Int.mul_comm];exact Int.mul_lt_mul_of_pos_left (Int.emod_lt_of_pos _ hp2) hp1
   have h4:e 16=e 1%2^(64-s)*2^s:=by
    rw [c16];exact md_eq (e 1/2^(64-s)) (by rw [h1];omega) h2 h3
   rw [c15,h4,Int.add_mul,h1,Int.add_mul]
   rw [Int.mul_right_comm];omega
  have hD:0<=e 15/\e 15<e 9:=by omega
  have hy1:2147483648<=e 10:=by omega
  simp only [D.ev,ev_var,binE,wr] at a19
  rw [Int.tdiv_eq_ediv_of_nonneg hD.1] at a19
  have hqn:0<=e 15/e 10:=Int.ediv_nonneg hD.1 (by omega)
  have hql:e 15/e 10<=e 15:=Int.ediv_le_self _ hD.1
  have c19:e 19=e 15/e 10:=by rw [a19];exact Int.emod_eq_of_lt hqn (by omega)
  have hmm:=Int.emod_add_mul_ediv (e 15) (e 10)
  have hml:=Int.emod_lt_of_pos (e 15) (show 0<e 10 by omega)
  have hmn:=Int.emod_nonneg (e 15) (show e 10≠0 by omega)
  have hpn:0<=e 10*(e 15/e 10):=Int.mul_nonneg (by omega) hqn
  refine ⟨by show e 10≠0;omega,?_⟩
  intro a20 _ a21 _
  simp only [D.ev,ev_var,binE,wr] at a20 a21
  have c20:e 20=e 10*(e 15/e 10):=by rw [a20,c19,Int.mul_comm];exact Int.emod_eq_of_lt (by omega) (by omega)
  have c21:e 21=e 15%e 10:=by rw [a21,c20];rw [show e 15-e 10*(e 15/e 10)=e 15%e 10 by omega];exact Int.emod_eq_of_lt hmn (by omega)
  clear a6 a7 a8 a9 a10 a11 a12 a13 a14 a15 a16 a17 a18 a19 a20 a21 hshl
  rw [<- c9] at hYu hYl
  rw [c10] at c19 c21
  refine digT_says (T:=[kLen64 f1]) (X0:=e 15) (Y:=e 9) (by decide) (by decide) c10 c11 ⟨hYl,hYu⟩ hD (by omega) c19 c21 rfl fun e1 b qa G1 he1 hqa hG1 hS1 hqa0 hb=>?_
  have g:∀ i,i<22->e1 i=e i:=he1
  have hX0:0<=e 15*4294967296+e 17:=by omega
  have hQ1:0<=e1 qa:=by rw [hqa];exact Int.ediv_nonneg hX0 (by omega)
  have hQ1l:e1 qa<4294967296:=by rw [hqa];exact Int.ediv_lt_of_lt_mul (by omega) (by omega)
  have hR1:=Int.emod_add_mul_ediv (e 15*4294967296+e 17) (e 9)
  have hR1l:=Int.emod_lt_of_pos (e 15*4294967296+e 17) (show 0<e 9 by omega)
  have hR1n:=Int.emod_nonneg (e 15*4294967296+e 17) (show e 9≠0 by omega)
  rw [<- hqa] at hR1
  generalize (e 15*4294967296+e 17)%e 9=R1 at *
  unfold k1T
  intro a1 _ a2 _ a3 _ a4 _ a5 _
  simp only [D.ev,ev_var,ev_lit,binE,wr] at a1 a2 a3 a4 a5
  rw [g 15 (by decide)] at a1
  rw [g 17 (by decide)] at a2
  rw [g 9 (by decide)] at a3
  rw [Int.mul_comm (e 9)] at hR1
  generalize hQY:e1 qa*e 9=QY at *
  have d4:e1 (b+3)=R1:=by rw [a4,a3,a2,a1];omega
  rw [d4,Int.tdiv_eq_ediv_of_nonneg hR1n,g 10 (by decide)] at a5
  have hy1':0<e 10:=by omega
  have hrn:0<=R1/e 10:=Int.ediv_nonneg hR1n (by omega)
  have hrl:R1/e 10<=R1:=Int.ediv_le_self _ hR1n
  have d5:e1 (b+4)=R1/e 10:=by rw [a5];exact Int.emod_eq_of_lt hrn (by omega)
  refine ⟨by show e1 10≠0;rw [g 10 (by decide)];omega,?_⟩
  intro a6 _ a7 _
  simp only [D.ev,ev_var,ev_lit,binE,wr] at a6 a7
  rw [g 10 (by decide),d5] at a6
  have nmm:=Int.emod_add_mul_ediv R1 (e 10)
  have nml:=Int.emod_lt_of_pos R1 hy1'
  have nmn:=Int.emod_nonneg R1 (show e 10≠0 by omega)
  have npn:0<=e 10*(R1/e 10):=Int.mul_nonneg (by omega) hrn
  have d6:e1 (b+5)=e 10*(R1/e 10):=by rw [a6,Int.mul_comm];exact Int.emod_eq_of_lt (by omega) (by omega)
  have d7:e1 (b+6)=R1%e 10:=by rw [a7,d4,d6];rw [show R1-e 10*(R1/e 10)=R1%e 10 by omega];exact Int.emod_eq_of_lt nmn (by omega)
  refine digT_says (X0:=R1) (Y:=e 9) (by omega) (by omega) (by rw [g 10 (by decide)];exact c10) (by rw [g 11 (by decide)];exact c11) ⟨hYl,hYu⟩ ⟨hR1n,hR1l⟩ (by rw [g 18 (by decide)];omega) (by rw [<- c10];exact d5) (by rw [<- c10];exact d7) hS1 fun e2 b2 qb G2 he2 hqb hG2 hS2 hqb0 hb2=>?_
  have gg:∀ i,i<22->e2 i=e i:=fun i hi=>(he2 i (by omega)).trans (g i hi)
  rw [g 18 (by decide)] at hqb
  have hX1:0<=R1*4294967296+e 18:=by omega
  have hQ2:0<=e2 qb:=by rw [hqb];exact Int.ediv_nonneg hX1 (by omega)
  have hQ2l:e2 qb<4294967296:=by rw [hqb];exact Int.ediv_lt_of_lt_mul (by omega) (by omega)
  have hR2:=Int.emod_add_mul_ediv (R1*4294967296+e 18) (e 9)
  have hR2l:=Int.emod_lt_of_pos (R1*4294967296+e 18) (show 0<e 9 by omega)
  have hR2n:=Int.emod_nonneg (R1*4294967296+e 18) (show e 9≠0 by omega)
  rw [<- hqb] at hR2
  generalize (R1*4294967296+e 18)%e 9=R2 at *
  have hqe:e2 qa=e1 qa:=he2 qa (by omega)
  unfold k2T
  intro f1 _ f2 _ f3 _ f4 _ f5 _ f6 _ f7 _
  simp only [D.ev,ev_var,ev_lit,binE,wr] at f1 f2 f3 f4 f5 f6 f7
  rw [hqe] at f1
  rw [he2 (b+3) (by omega),d4] at f3
  rw [gg 18 (by decide)] at f4
  rw [gg 9 (by decide),Int.mul_comm] at f5
  have hXt:(e 0*18446744073709551616+e 1)*2^s=(e1 qa*4294967296+e2 qb)*e 9+R2:=by
   rw [htot]
   have h16:e 16=e 17*4294967296+e 18:=by omega
   rw [Int.add_mul,Int.mul_right_comm,hQY,Int.mul_comm (e2 qb)]
   omega
  generalize e 9*e2 qb=QZ at *
  have d6':e2 (b2+5)=R2:=by rw [f6,f5,f4,f3];omega
  have d2':e2 (b2+1)=e1 qa*4294967296+e2 qb:=by rw [f2,f1];omega
  rw [d6',gg 8 (by decide),hs,show min ((s:Int).toNat) IntKind.u64.bits=s by show min s 64=s;omega,Int.natCast_pow] at f7
  rw [Int.fdiv_eq_ediv_of_nonneg _ (by exact Int.le_of_lt hp1)] at f7
  show G2.goal [e2 (b2+1),e2 (b2+6)]
  rw [hG2,hG1]
  show [e2 (b2+1),e2 (b2+6)]=[(e 0*18446744073709551616+e 1)/e 2,(e 0*18446744073709551616+e 1)%e 2]
  rw [d2',f7]
  rw [c9] at hXt
  generalize e 0*18446744073709551616+e 1=X at *
  generalize e1 qa*4294967296+e2 qb=q at *
  have hr:R2=2^s*(X-q*e 2):=by rw [Int.mul_sub,Int.mul_comm _ X,hXt];grind
  have hr0:0<=X-q*e 2:=by
   by_cases hc:0<=X-q*e 2
   ·exact hc
   ·have:=Int.mul_neg_of_pos_of_neg hp1 (show X-q*e 2<0 by omega);omega
  have hr1:X-q*e 2<e 2:=by
   have:2^s*(X-q*e 2)<2^s*e 2:=by rw [<- hr,Int.mul_comm _ (e 2),<- c9];exact hR2l
   exact Int.lt_of_mul_lt_mul_left this (Int.le_of_lt hp1)
  have hq:X/e 2=q:=(dig_div (by omega) (by omega) (by rw [Int.add_mul];omega)).symm
  have hm:X%e 2=X-q*e 2:=md_eq q (by rw [Int.mul_comm q];omega) hr0 hr1
  rw [hq,hm]
  congr 2
  rw [hr]
  exact Int.mul_ediv_cancel_left _ (by exact Int.ne_of_gt hp1)
def tRem64:Tree:=(.lett 3 (.int .u64) (.bin .rem .u64 (.var 0) (.var 2))
(.nz (.var 2)
(.req 0 [.var 3,.var 1,.var 2]
(.lett 4 (.int .u64) (.app 0 0 [.var 3,.var 1,.var 2])
(.lett 5 (.int .u64) (.app 0 1 [.var 3,.var 1,.var 2])
(.ret [.var 5]))))))
theorem law_rem64 (f1 f:FuncId) (e:Nat->Int) (hk:kkHas [.int .u64,.int .u64,.int .u64] [e 0,e 1,e 2]) (hp:(kRem64 f).pre [e 0,e 1,e 2]):tRem64.says [kDiv64 f1] ⟨fun ys=>ys=(kRem64 f).sem [e 0,e 1,e 2],[]⟩ e:=by
 obtain ⟨h0,h1,h2,_⟩:=hk
 have u0:=has_u64 h0
 have hy:0<e 2:=hp
 simp only [tRem64,kDiv64,kRem64,Tree.says,List.getElem?_cons_zero,List.getElem?_cons_succ,List.map,ev_lit,ev_var,ev_limb,D.ev,List.getD_cons_zero,List.getD_cons_succ]
 intro a3 _
 have c3:e 3=e 0%e 2:=by rw [a3];simp only [binE];exact Int.tmod_eq_emod_of_nonneg u0.1
 refine ⟨by omega,by rw [c3];exact Int.emod_lt_of_pos _ hy,fun a4 _ a5 _=>?_⟩
 rw [a5,c3]
 congr 1
 obtain ⟨z,hz⟩:=md_of (x:=e 0) (n:=e 2)
 exact md (z*18446744073709551616) (by rw [hz];grind)
set_option maxRecDepth 100000
section
variable {T:List K} {f g:FuncId} {im ia b:Nat} {G:Gl} {e:Nat->Int}
end
set_option maxRecDepth 100000
theorem q0:p64 0=1:=by decide +kernel
theorem q1:p64 1=18446744073709551616:=by decide +kernel
theorem q2:p64 2=340282366920938463463374607431768211456:=by decide +kernel
theorem q3:p64 3=6277101735386680763835789423207666416102355444464034512896:=by decide +kernel
theorem q4:p64 4=115792089237316195423570985008687907853269984665640564039457584007913129639936:=by decide +kernel
theorem q5:p64 5=2135987035920910082395021706169552114602704522356652769947041607822219725780640550022962086936576:=by decide +kernel
theorem q6:p64 6=N384:=by decide +kernel
set_option maxRecDepth 100000
theorem pow_bit (a:Int) (x:Int) (hx:0<=x) (i:Nat):a^(x/2^i).toNat=a^(x/2^(i+1)).toNat*a^(x/2^(i+1)).toNat*(if x/2^i%2=1 then a else 1):=by
 have hp:(0:Int)<2^i:=Int.pow_pos (by decide)
 have h1:x/2^(i+1)=x/2^i/2:=by rw [Int.pow_succ,Int.ediv_ediv_of_nonneg (by omega)]
 have h0:=Int.ediv_nonneg hx (show (0:Int)<=2^i by omega)
 rw [h1,<- Int.pow_add]
 generalize x/2^i=y at *
 split
 ·rw [show y.toNat=((y/2).toNat+(y/2).toNat)+1 by omega,Int.pow_succ]
 ·rw [Int.mul_one];congr 1;omega
theorem md_mul {a b n:Int}:a%n*(b%n)%n=a*b%n:=by rw [<- Int.mul_emod]
def PowI (n a x:Int):List Int->Prop
 | [i,o]=>-1<=i/\i<=383/\o=a^(x/2^(i+1).toNat).toNat%n
 | _=>False
theorem pow_step0 {n a x o o1:Int} {i:Nat} (hx:0<=x) (ho:o=a^(x/2^(i+1)).toNat%n) (h1:o1=o*o%n) (hb:x/2^i%2=0):o1=a^(x/2^i).toNat%n:=by
 rw [pow_bit a x hx i,if_neg (by omega),Int.mul_one,h1,ho,md_mul]
theorem pow_step1 {n a x o o1 o2:Int} {i:Nat} (hx:0<=x) (ho:o=a^(x/2^(i+1)).toNat%n) (h1:o1=o*o%n) (h2:o2=o1*a%n) (hb:x/2^i%2=1):o2=a^(x/2^i).toNat%n:=by
 rw [pow_bit a x hx i,if_pos hb,h2,h1,ho,md_mul]
 obtain ⟨z,hz⟩:=md_of (x:=a^(x/2^(i+1)).toNat*a^(x/2^(i+1)).toNat) (n:=n)
 rw [hz]
 exact md (z*a) (by grind)
end Go.Sx
