/- Part Hi of the proof. -/
import Derived.Test.YtlloonffibabfaaGreatDoorHh
import Derived.Laws.Externs
import Derived.Shelf.Spec.BitsCarry
set_option linter.unusedVariables false
set_option linter.unusedSimpArgs false
namespace Go.Sx
open Go Go.RowKit
abbrev iU:Sh:=.one (.int .u64)
abbrev oU:Oh:=.one (.int .u64)
abbrev iN:Sh:=.agg [.num]
abbrev oN:Oh:=.agg [.num]
abbrev oB:Oh:=.one .bool
abbrev iI:Sh:=.one (.int .i64)
abbrev oI:Oh:=.one (.int .i64)
def Xu(f:FuncId):K:={fn:=f,ext:=true,ins:=[iU,iU,iU],outs:=[oU,oU],pre:=fun|[_,_,c]=>0<=c/\c<=1|_=>False,sem:=fun|[x,y,c]=>[(x+y+c)%18446744073709551616,(x+y+c)/18446744073709551616]|_=>[] }
def Qam(f:FuncId):K:={fn:=f,ext:=true,ins:=[iU,iU,iU],outs:=[oU,oU],pre:=fun|[_,_,c]=>0<=c/\c<=1|_=>False,sem:=fun|[x,y,c]=>[(x-y-c)%18446744073709551616,if x<y+c then 1 else 0]|_=>[] }
section
variable {P:Program}{f:FuncId}{fn:Func}
theorem Qc2{w:World}{k:IntKind}{ss:List Sh}{xs:List Int}{args:List Value}(h:J4 w (.one (.int k)::ss) xs args):∃x xs' args',xs=x::xs'/\args=.int k x::args'/\has k x/\J4 w ss xs' args':=by
 cases args with
 |nil=>exact h.elim
 |cons v args =>
  obtain⟨h1,h2,h3⟩:=h;cases xs with
  |nil=>exact h1.elim
  |cons x xs =>
   have h2':[v]=[Value.int k x]:=h2;simp only[List.cons.injEq,and_true]at h2';exact⟨x,xs,args,rfl,by rw[h2'],h1.1,h3⟩
theorem Qvc{w:World}{xs:List Int}{args:List Value}(h:J4 w [] xs args):xs=[]/\args=[]:=h
theorem Zjp(hf:P.funcs[f]?=some fn)(h1:(fn.name == "runtime.NumGoroutine")=false)(h2:fn.body.isNone=true)(h3:Extern.findNext fn=none)(h4:Extern.find fn=some add64Entry):(Xu f).ok P:=by
 intro w _ args xs hin hpre;obtain⟨x,xs,args,rfl,rfl,hx,hin⟩:=Qc2 hin;obtain⟨y,xs,args,rfl,rfl,hy,hin⟩:=Qc2 hin;obtain⟨c,xs,args,rfl,rfl,hc,hin⟩:=Qc2 hin;obtain⟨rfl,rfl⟩:=Qvc hin;obtain⟨c0,c1⟩:0<=c/\c<=1:=hpre;have hx':=Zb hx;have hy':=Zb hy;simp only[Xu,if_true];refine⟨[.int .u64 ((x+y+c)%18446744073709551616),.int .u64 ((x+y+c)/18446744073709551616)],?_,?_⟩
 ·rw[run_callFunc_extern hf h1 h2 h3 h4];rw[show([Value.int .u64 x,.int .u64 y,.int .u64 c]:List Value).toArray=#[.int .u64 x,.int .u64 y,.int .u64 c]from rfl,run_add64 x y c hx'.1 hy'.1 c0 c1];rfl
 ·refine⟨⟨?_,trivial⟩,rfl,⟨?_,trivial⟩,rfl,rfl,rfl⟩ <;> simp only[has,lo,hi] <;> omega
theorem Zh5(hf:P.funcs[f]?=some fn)(h1:(fn.name == "runtime.NumGoroutine")=false)(h2:fn.body.isNone=true)(h3:Extern.findNext fn=none)(h4:Extern.find fn=some Proofs.sub64Entry):(Qam f).ok P:=by
 intro w _ args xs hin hpre;obtain⟨x,xs,args,rfl,rfl,hx,hin⟩:=Qc2 hin;obtain⟨y,xs,args,rfl,rfl,hy,hin⟩:=Qc2 hin;obtain⟨c,xs,args,rfl,rfl,hc,hin⟩:=Qc2 hin;obtain⟨rfl,rfl⟩:=Qvc hin;obtain⟨c0,c1⟩:0<=c/\c<=1:=hpre;have hx':=Zb hx;have hy':=Zb hy;simp only[Qam,if_true];refine⟨[.int .u64 ((x-y-c)%18446744073709551616),.int .u64 (if x<y+c then 1 else 0)],?_,?_⟩
 ·rw[run_callFunc_extern hf h1 h2 h3 h4];obtain⟨X,rfl⟩:=Oz hx'.1;obtain⟨Y,rfl⟩:=Oz hy'.1;obtain⟨k,rfl⟩:=Oz c0;rw[show([Value.int .u64 X,.int .u64 Y,.int .u64 k]:List Value).toArray=#[.int .u64 X,.int .u64 Y,.int .u64 k]from rfl,Proofs.run_sub64 X Y k (by omega)];simp only[Result.andThen,Qho];have e1:(((X+18446744073709551616-Y-k)%18446744073709551616:Nat):Int)=((X:Int)-Y-k)%18446744073709551616:=by omega
  have e2:((if X<Y+k then 1 else 0:Nat):Int)=if(X:Int)<Y+k then 1 else 0:=by split <;> split <;> omega
  rw[e1,e2]
 ·refine⟨⟨?_,trivial⟩,rfl,⟨?_,trivial⟩,rfl,rfl,rfl⟩
  ·simp only[has,lo,hi];omega
  ·simp only[has,lo,hi];split <;> omega
end
def bi(p:Prop)[Decidable p]:Int:=if p then 1 else 0
def Qcq(f:FuncId):K:={fn:=f,ext:=false,ins:=[iN,iN],outs:=[oN,oB],pre:=fun _=>True,sem:=fun|[a,b]=>[(a+b)%Qw,(a+b)/Qw]|_=>[] }
def Qe0(f:FuncId):K:={fn:=f,ext:=false,ins:=[iN,iN],outs:=[oN,oB],pre:=fun _=>True,sem:=fun|[a,b]=>[(a-b)%Qw,bi (a<b)]|_=>[] }
def Vt(f:FuncId):K:={fn:=f,ext:=false,ins:=[iN,iN],outs:=[oI],pre:=fun _=>True,sem:=fun|[a,b]=>[if a<b then -1 else if a=b then 0 else 1]|_=>[] }
def Wi(f:FuncId):K:={fn:=f,ext:=false,ins:=[iU,iU],outs:=[oU,oU],pre:=fun _=>True,sem:=fun|[a,b]=>[a*b/18446744073709551616,a*b%18446744073709551616]|_=>[] }
abbrev iM:Sh:=.ptr [.num,.int .u64,.num]
def Yp(n a b:Int):Int:=a*b*((n+1)/2)^384%n
def mOk(n low:Int):Prop:=n*low%18446744073709551616=18446744073709551615/\3<=n/\n<2^382
def Qg2(f:FuncId):K:={fn:=f,ext:=false,ins:=[iM,iN],outs:=[oN],pre:=fun _=>True,sem:=fun|[n,_,_,a]=>[if n<=a then a-n else a]|_=>[] }
def Qms(f:FuncId):K:={fn:=f,ext:=false,ins:=[iM,iN,iN],outs:=[oN],pre:=fun|[n,low,_,a,b]=>mOk n low/\(a<n∨b<n)|_=>False,sem:=fun|[n,_,_,a,b]=>[Yp n a b]|_=>[] }
def Q1(x:Int)(j:Nat):Int:=x/p64 j%18446744073709551616
theorem Qn(e:Nat->Int)(n:Int):A.ev e (.lit n)=n:=rfl
theorem Ql(e:Nat->Int)(n:Nat):A.ev e (.v n)=e n:=rfl
theorem Qp(e:Nat->Int)(n j:Nat):A.ev e (.m n j)=Q1 (e n) j:=rfl
theorem Qt(x:Int)(j:Nat):0<=Q1 x j/\Q1 x j<18446744073709551616:=by unfold Q1;omega
theorem Qsg(x:Int):Q1 x 0=x%18446744073709551616:=by
 unfold Q1;rw[show p64 0=1 by kernel_rfl,Oan]
theorem Zxw(j:Nat):p64 (j+1)=18446744073709551616*p64 j:=by
 have:2^(64*(j+1))=18446744073709551616*2^(64*j):=by rw[Nat.mul_add,Nat.pow_add,Nat.mul_comm]
 simp only[p64,this,Int.natCast_mul];rfl
theorem Zwa(x:Int)(j:Nat):Q1 x (j+1)=Q1 (x/18446744073709551616) j:=by
 unfold Q1;rw[Zxw,Kt (by omega)]
theorem Z4{x:Int}(h:0<=x/\x<Qw):x=Q1 x 0+18446744073709551616*(Q1 x 1+18446744073709551616*(Q1 x 2+18446744073709551616*(Q1 x 3+18446744073709551616*(Q1 x 4+18446744073709551616*Q1 x 5)))):=by
 simp only[Zwa,Qsg];unfold Qw at h;omega
theorem Ul(a b c d f g:Int):Y6 [a,b,c,d,f,g]=a+18446744073709551616*(b+18446744073709551616*(c+18446744073709551616*(d+18446744073709551616*(f+18446744073709551616*g)))):=by
 simp[Y6]
theorem Qfa(b:Bool):Xo b=if b=true then 1 else 0:=rfl
theorem Zj{v a b:Int}(h:v=Xo (Js .lss a b)):(v=1/\a<b)∨(v=0/\¬a<b):=by
 by_cases hc:a<b <;> simp[Js,hc,Xo]at h <;> omega
theorem Yv{v a b:Int}(h:v=Xo (Js .leq a b)):(v=1/\a<=b)∨(v=0/\¬a<=b):=by
 by_cases hc:a<=b <;> simp[Js,hc,Xo]at h <;> omega
theorem Qeq{v a b:Int}(h:v=Xo (Js .gtr a b)):(v=1/\b<a)∨(v=0/\¬b<a):=by
 by_cases hc:b<a <;> simp[Js,hc,Xo]at h <;> omega
theorem Qdf{v a b:Int}(h:v=Xo (Js .geq a b)):(v=1/\b<=a)∨(v=0/\¬b<=a):=by
 by_cases hc:b<=a <;> simp[Js,hc,Xo]at h <;> omega
theorem Zy{v a b:Int}(h:v=Xo (Js .eql a b)):(v=1/\a=b)∨(v=0/\¬a=b):=by
 by_cases hc:a=b <;> simp[Js,hc,Xo]at h <;> omega
theorem Qfl{v a b:Int}(h:v=Xo (Js .neq a b)):(v=1/\¬a=b)∨(v=0/\a=b):=by
 by_cases hc:a=b <;> simp[Js,hc,Xo]at h <;> omega
set_option maxRecDepth 100000
def Zrp:Qq:=(xw 0 [.m 0 0,.m 1 0,.lit 0] 386 qca
(xw 0 [.m 0 1,.m 1 1,.v 387] 1106 qca
(xw 0 [.m 0 2,.m 1 2,.v 1107] 1826 qca
(xw 0 [.m 0 3,.m 1 3,.v 1827] 2546 qca
(xw 0 [.m 0 4,.m 1 4,.v 2547] 3266 qca
(xw 0 [.m 0 5,.m 1 5,.v 3267] 3986 qca
(.l 4322 .bit (.cmp .eql (.v 3987) (.lit 1))
(.l 4323 .num (.join [.v 386,.v 1106,.v 1826,.v 2546,.v 3266,.v 3986])
(.ret [.v 4323,.v 4322])))))))))
def Zqz:Qq:=(xw 0 [.m 0 0,.m 1 0,.lit 0] 386 qca
(xw 0 [.m 0 1,.m 1 1,.v 387] 1106 qca
(xw 0 [.m 0 2,.m 1 2,.v 1107] 1826 qca
(xw 0 [.m 0 3,.m 1 3,.v 1827] 2546 qca
(xw 0 [.m 0 4,.m 1 4,.v 2547] 3266 qca
(xw 0 [.m 0 5,.m 1 5,.v 3267] 3986 qca
(.l 4322 .bit (.cmp .eql (.v 3987) (.lit 1))
(.l 4323 .num (.join [.v 386,.v 1106,.v 1826,.v 2546,.v 3266,.v 3986])
(.ret [.v 4323,.v 4322])))))))))
def Zrw:Qq:=(.l 290 .bit (.cmp .lss (.m 0 5) (.m 1 5))
(.split 290
(.ret [.lit (-1)])
(.l 674 .bit (.cmp .gtr (.m 0 5) (.m 1 5))
(.split 674
(.ret [.lit 1])
(.l 1058 .bit (.cmp .lss (.m 0 4) (.m 1 4))
(.split 1058
(.ret [.lit (-1)])
(.l 1442 .bit (.cmp .gtr (.m 0 4) (.m 1 4))
(.split 1442
(.ret [.lit 1])
(.l 1826 .bit (.cmp .lss (.m 0 3) (.m 1 3))
(.split 1826
(.ret [.lit (-1)])
(.l 2210 .bit (.cmp .gtr (.m 0 3) (.m 1 3))
(.split 2210
(.ret [.lit 1])
(.l 2594 .bit (.cmp .lss (.m 0 2) (.m 1 2))
(.split 2594
(.ret [.lit (-1)])
(.l 2978 .bit (.cmp .gtr (.m 0 2) (.m 1 2))
(.split 2978
(.ret [.lit 1])
(.l 3362 .bit (.cmp .lss (.m 0 1) (.m 1 1))
(.split 3362
(.ret [.lit (-1)])
(.l 3746 .bit (.cmp .gtr (.m 0 1) (.m 1 1))
(.split 3746
(.ret [.lit 1])
(.l 4130 .bit (.cmp .lss (.m 0 0) (.m 1 0))
(.split 4130
(.ret [.lit (-1)])
(.l 4514 .bit (.cmp .gtr (.m 0 0) (.m 1 0))
(.split 4514
(.ret [.lit 1])
(.ret [.lit 0])))))))))))))))))))))))))
theorem Zc9{s c x y i:Int}(hs:s=(x+y+i)%18446744073709551616)(hc:c=(x+y+i)/18446744073709551616)(hx:0<=x/\x<18446744073709551616)(hy:0<=y/\y<18446744073709551616)(hi:0<=i/\i<=1) :
  s+18446744073709551616*c=x+y+i/\(0<=c/\c<=1):=by omega
theorem Zde{s c x y i:Int}(hs:s=(x-y-i)%18446744073709551616)(hc:c=if x<y+i then 1 else 0)(hx:0<=x/\x<18446744073709551616)(hy:0<=y/\y<18446744073709551616)(hi:0<=i/\i<=1) :
  s=x-y-i+18446744073709551616*c/\(0<=c/\c<=1):=by split at hc <;> omega
theorem Zjs{x q r m:Int}(h:x=r+m*q)(h0:0<=r)(h1:r<m):x%m=r/\x/m=q:=by
 subst h;constructor
 ·rw[Ho,Oy h0 h1]
 ·rw[Int.add_mul_ediv_left _ _ (by omega),Hl h0 h1,Int.zero_add]
theorem Zha(f1 f2:FuncId)(e:Nat->Int)(hk:Q0 [.num,.num] [e 0,e 1]):Zrp.Xat [Xu f1] ⟨fun ys=>ys=(Qcq f2).sem [e 0,e 1],[]⟩ e:=by
 obtain⟨ha,hb,_⟩:=hk;have ea:=Z4 ha;have eb:=Z4 hb;have a0:=Qt (e 0) 0;have a1:=Qt (e 0) 1;have a2:=Qt (e 0) 2;have a3:=Qt (e 0) 3;have a4:=Qt (e 0) 4;have a5:=Qt (e 0) 5;have b0:=Qt (e 1) 0;have b1:=Qt (e 1) 1;have b2:=Qt (e 1) 2;have b3:=Qt (e 1) 3;have b4:=Qt (e 1) 4;have b5:=Qt (e 1) 5;simp only[Zrp,Xu,Qcq,Qq.Xat,xw,xws,Nat.reduceAdd,O0,List.map,Qn,Ql,Qp,D.ev,O4,O9,KK.has,Ul];generalize Q1 (e 0) 0=x0 at *
 generalize Q1 (e 0) 1=x1 at *
 generalize Q1 (e 0) 2=x2 at *
 generalize Q1 (e 0) 3=x3 at *
 generalize Q1 (e 0) 4=x4 at *
 generalize Q1 (e 0) 5=x5 at *
 generalize Q1 (e 1) 0=y0 at *
 generalize Q1 (e 1) 1=y1 at *
 generalize Q1 (e 1) 2=y2 at *
 generalize Q1 (e 1) 3=y3 at *
 generalize Q1 (e 1) 4=y4 at *
 generalize Q1 (e 1) 5=y5 at *
 refine⟨by omega,fun s0 _ t0 _=>?_⟩;obtain⟨p0,q0⟩:=Zc9 s0 t0 a0 b0 (by omega);refine⟨by omega,fun s1 _ t1 _=>?_⟩;obtain⟨p1,q1⟩:=Zc9 s1 t1 a1 b1 (by omega);refine⟨by omega,fun s2 _ t2 _=>?_⟩;obtain⟨p2,q2⟩:=Zc9 s2 t2 a2 b2 (by omega);refine⟨by omega,fun s3 _ t3 _=>?_⟩;obtain⟨p3,q3⟩:=Zc9 s3 t3 a3 b3 (by omega);refine⟨by omega,fun s4 _ t4 _=>?_⟩;obtain⟨p4,q4⟩:=Zc9 s4 t4 a4 b4 (by omega);refine⟨by omega,fun s5 _ t5 _=>?_⟩;obtain⟨p5,q5⟩:=Zc9 s5 t5 a5 b5 (by omega);intro h1 _ h2 h3;obtain⟨r1,r2⟩:=Zjs (x:=e 0+e 1) (q:=e 3987) (r:=e 4323) (m:=Qw) (by unfold Qw;omega) h3.1 h3.2;rw[r1,r2,h1];congr 2;simp only[Xo,Js,beq_iff_eq];split <;> omega
theorem Zi4(f1 f2:FuncId)(e:Nat->Int)(hk:Q0 [.num,.num] [e 0,e 1]):Zqz.Xat [Qam f1] ⟨fun ys=>ys=(Qe0 f2).sem [e 0,e 1],[]⟩ e:=by
 obtain⟨ha,hb,_⟩:=hk;have ea:=Z4 ha;have eb:=Z4 hb;have a0:=Qt (e 0) 0;have a1:=Qt (e 0) 1;have a2:=Qt (e 0) 2;have a3:=Qt (e 0) 3;have a4:=Qt (e 0) 4;have a5:=Qt (e 0) 5;have b0:=Qt (e 1) 0;have b1:=Qt (e 1) 1;have b2:=Qt (e 1) 2;have b3:=Qt (e 1) 3;have b4:=Qt (e 1) 4;have b5:=Qt (e 1) 5;simp only[Zqz,Qam,Qe0,Qq.Xat,xw,xws,Nat.reduceAdd,O0,List.map,Qn,Ql,Qp,D.ev,O4,O9,KK.has,Ul];generalize Q1 (e 0) 0=x0 at *
 generalize Q1 (e 0) 1=x1 at *
 generalize Q1 (e 0) 2=x2 at *
 generalize Q1 (e 0) 3=x3 at *
 generalize Q1 (e 0) 4=x4 at *
 generalize Q1 (e 0) 5=x5 at *
 generalize Q1 (e 1) 0=y0 at *
 generalize Q1 (e 1) 1=y1 at *
 generalize Q1 (e 1) 2=y2 at *
 generalize Q1 (e 1) 3=y3 at *
 generalize Q1 (e 1) 4=y4 at *
 generalize Q1 (e 1) 5=y5 at *
 refine⟨by omega,fun s0 _ t0 _=>?_⟩;obtain⟨p0,q0⟩:=Zde s0 t0 a0 b0 (by omega);refine⟨by omega,fun s1 _ t1 _=>?_⟩;obtain⟨p1,q1⟩:=Zde s1 t1 a1 b1 (by omega);refine⟨by omega,fun s2 _ t2 _=>?_⟩;obtain⟨p2,q2⟩:=Zde s2 t2 a2 b2 (by omega);refine⟨by omega,fun s3 _ t3 _=>?_⟩;obtain⟨p3,q3⟩:=Zde s3 t3 a3 b3 (by omega);refine⟨by omega,fun s4 _ t4 _=>?_⟩;obtain⟨p4,q4⟩:=Zde s4 t4 a4 b4 (by omega);refine⟨by omega,fun s5 _ t5 _=>?_⟩;obtain⟨p5,q5⟩:=Zde s5 t5 a5 b5 (by omega);intro h1 _ h2 h3;obtain⟨r1,r2⟩:=Zjs (x:=e 0-e 1) (q:=- e 3987) (r:=e 4323) (m:=Qw) (by unfold Qw;omega) h3.1 h3.2;rw[r1,h1];congr 2;simp only[Xo,Js,beq_iff_eq,bi];unfold Qw at h3;split <;> split <;> omega
theorem Zio(f2:FuncId)(e:Nat->Int)(hk:Q0 [.num,.num] [e 0,e 1]):Zrw.Xat [] ⟨fun ys=>ys=(Vt f2).sem [e 0,e 1],[]⟩ e:=by
 obtain⟨ha,hb,_⟩:=hk;have ea:=Z4 ha;have eb:=Z4 hb;have a0:=Qt (e 0) 0;have a1:=Qt (e 0) 1;have a2:=Qt (e 0) 2;have a3:=Qt (e 0) 3;have a4:=Qt (e 0) 4;have a5:=Qt (e 0) 5;have b0:=Qt (e 1) 0;have b1:=Qt (e 1) 1;have b2:=Qt (e 1) 2;have b3:=Qt (e 1) 3;have b4:=Qt (e 1) 4;have b5:=Qt (e 1) 5;simp only[Zrw,Vt,Qq.Xat,xw,xws,Nat.reduceAdd,O0,List.map,Qn,Ql,Qp,D.ev,O4,O9,KK.has,Ul];generalize Q1 (e 0) 0=x0 at *
 generalize Q1 (e 0) 1=x1 at *
 generalize Q1 (e 0) 2=x2 at *
 generalize Q1 (e 0) 3=x3 at *
 generalize Q1 (e 0) 4=x4 at *
 generalize Q1 (e 0) 5=x5 at *
 generalize Q1 (e 1) 0=y0 at *
 generalize Q1 (e 1) 1=y1 at *
 generalize Q1 (e 1) 2=y2 at *
 generalize Q1 (e 1) 3=y3 at *
 generalize Q1 (e 1) 4=y4 at *
 generalize Q1 (e 1) 5=y5 at *
 intro h _;have k0a:=Zj h;refine⟨fun n=>by rw[if_pos (by omega)],fun n=>?_⟩;clear h;intro h _;have k0b:=Qeq h;refine⟨fun m=>by rw[if_neg (by omega),if_neg (by omega)],fun m=>?_⟩;have z0:x5=y5:=by omega
 clear h k0a k0b n m;intro h _;have k1a:=Zj h;refine⟨fun n=>by rw[if_pos (by omega)],fun n=>?_⟩;clear h;intro h _;have k1b:=Qeq h;refine⟨fun m=>by rw[if_neg (by omega),if_neg (by omega)],fun m=>?_⟩;have z1:x4=y4:=by omega
 clear h k1a k1b n m;intro h _;have k2a:=Zj h;refine⟨fun n=>by rw[if_pos (by omega)],fun n=>?_⟩;clear h;intro h _;have k2b:=Qeq h;refine⟨fun m=>by rw[if_neg (by omega),if_neg (by omega)],fun m=>?_⟩;have z2:x3=y3:=by omega
 clear h k2a k2b n m;intro h _;have k3a:=Zj h;refine⟨fun n=>by rw[if_pos (by omega)],fun n=>?_⟩;clear h;intro h _;have k3b:=Qeq h;refine⟨fun m=>by rw[if_neg (by omega),if_neg (by omega)],fun m=>?_⟩;have z3:x2=y2:=by omega
 clear h k3a k3b n m;intro h _;have k4a:=Zj h;refine⟨fun n=>by rw[if_pos (by omega)],fun n=>?_⟩;clear h;intro h _;have k4b:=Qeq h;refine⟨fun m=>by rw[if_neg (by omega),if_neg (by omega)],fun m=>?_⟩;have z4:x1=y1:=by omega
 clear h k4a k4b n m;intro h _;have k5a:=Zj h;refine⟨fun n=>by rw[if_pos (by omega)],fun n=>?_⟩;clear h;intro h _;have k5b:=Qeq h;refine⟨fun m=>by rw[if_neg (by omega),if_neg (by omega)],fun m=>?_⟩;have z5:x0=y0:=by omega
 clear h k5a k5b n m;rw[if_neg (by omega),if_pos (by omega)]
set_option maxRecDepth 100000
def U(v:Int):Prop:=0<=v/\v<18446744073709551616
theorem Quy{x y:Int}(hx:U x)(hy:U y):0<=x*y/\x*y<=18446744073709551615*18446744073709551615:=by
 unfold U at hx hy;exact⟨Kx hx.1 hy.1,Oak (by omega) (by omega) hy.1 (by omega)⟩
theorem Zcc{p t c h l l1 c1 h1 l2 c2 h2:Int}(hp:0<=p/\p<=18446744073709551615*18446744073709551615)(ht:U t)(hc:U c)
  (e1:h=p/18446744073709551616) (e2:l=p%18446744073709551616) (e3:l1=(l+t+0)%18446744073709551616) (e4:c1=(l+t+0)/18446744073709551616) (e5:h1=wr .u64 (h+c1))
  (e6:l2=(l1+c+0)%18446744073709551616) (e7:c2=(l1+c+0)/18446744073709551616) (e8:h2=wr .u64 (h1+c2)):U l2/\U h2/\l2+18446744073709551616*h2=p+t+c:=by
 unfold U at *
 simp only[wr]at e5 e8;omega
def u6:KK:=.int .u64
def mac(im ia n1 n2 n3:Nat)(x y t c:A)(k:Qq):Qq :=
 .req im [x,y] (.l n1 (.int .u64) (.app im 0 [x,y]) (.l (n1+1) (.int .u64) (.app im 1 [x,y])
 (.req ia [.v (n1+1),t,.lit 0] (.l n2 (.int .u64) (.app ia 0 [.v (n1+1),t,.lit 0]) (.l (n2+1) (.int .u64) (.app ia 1 [.v (n1+1),t,.lit 0])
 (.l (n2+2) (.int .u64) (.bin .add .u64 (.v n1) (.v (n2+1)))
 (.req ia [.v n2,c,.lit 0] (.l n3 (.int .u64) (.app ia 0 [.v n2,c,.lit 0]) (.l (n3+1) (.int .u64) (.app ia 1 [.v n2,c,.lit 0])
 (.l (n3+2) (.int .u64) (.bin .add .u64 (.v (n2+2)) (.v (n3+1))) k))))))))))
section
variable {T:List K}{f g:FuncId}{im ia:Nat}{G:Gl}{e:Nat->Int}
theorem Zhq{n1 n2 n3:Nat}{x y t c:A}{k:Qq}(hm:T[im]?=some (Wi f))(ha:T[ia]?=some (Xu g))(bx:U (x.ev e))(by_:U (y.ev e))(bt:U (t.ev e))(bc:U (c.ev e))
  (hk:U (e n3)->U (e (n3+2))->e n3+18446744073709551616*e (n3+2)=x.ev e*y.ev e+t.ev e+c.ev e->k.Xat T G e):(mac im ia n1 n2 n3 x y t c k).Xat T G e:=by
 simp only[mac,Qq.Xat,xw,xws,Nat.reduceAdd,hm,ha,D.ev,Wi,Xu,List.map,O4,O9,Ql,Qn,Qm];refine⟨trivial,fun e1 _ e2 _=>⟨by omega,fun e3 _ e4 _ e5 _=>⟨by omega,fun e6 _ e7 _ e8 _=>?_⟩⟩⟩;obtain⟨r1,r2,r3⟩:=Zcc (Quy bx by_) bt bc e1 e2 e3 e4 e5 e6 e7 e8;exact hk r1 r2 r3
def Qnp(im ia:Nat)(x:A):List (A×A×Nat×Nat×Nat)->A->(A->Qq)->Qq
 |[],c,k=>k c
 |(y,t,n1,n2,n3)::r,c,k=>mac im ia n1 n2 n3 x y t c (Qnp im ia x r (.v (n3+2)) k)
def Qev:List (A×A×Nat×Nat×Nat)->A->A
 |[],c=>c
 |(_,_,_,_,n3)::r,_=>Qev r (.v (n3+2))
noncomputable def jo(e:Nat->Int):List A->Int
 |[]=>0
 |a::r=>a.ev e+18446744073709551616*jo e r
def Bv(e:Nat->Int):List A->Prop
 |[]=>True
 |a::r=>U (a.ev e)/\Bv e r
def Qr4:Nat->Int
 |0=>1
 |n+1=>18446744073709551616*Qr4 n
theorem Ur(hm:T[im]?=some (Wi f))(ha:T[ia]?=some (Xu g)){x:A}(bx:U (x.ev e)):∀(l:List (A×A×Nat×Nat×Nat)) (c:A) (k:A->Qq),
  Bv e (l.map (·.1))->Bv e (l.map (·.2.1))->U (c.ev e) ->
  (Bv e (l.map fun q=>A.v q.2.2.2.2)->U ((Qev l c).ev e)->jo e (l.map fun q=>A.v q.2.2.2.2)+Qr4 l.length*(Qev l c).ev e=x.ev e*jo e (l.map (·.1))+jo e (l.map (·.2.1))+c.ev e->(k (Qev l c)).Xat T G e) ->
  (Qnp im ia x l c k).Xat T G e
 |[],c,k,_,_,hc,hk=>by
  refine hk trivial hc ?_;show(0:Int)+1*c.ev e=x.ev e*0+0+c.ev e;omega
 |(y,t,n1,n2,n3)::r,c,k,hy,ht,hc,hk=>by
  refine Zhq hm ha bx hy.1 ht.1 hc fun h1 h2 h3=>?_
  refine Ur hm ha bx r (.v (n3+2)) k hy.2 ht.2 h2 fun g1 g2 g3=>?_
  refine hk ⟨h1,g1⟩ g2 ?_;simp only[Qev,Mn,jo,Ov,Qr4,Ql]at *
  generalize jo e (r.map (·.1))=Y at *
  generalize jo e (r.map (·.2.1))=S at *
  generalize (Qev r (A.v (n3+2))).ev e=o at *
  generalize Qr4 r.length=q at *
  rw[K9,Int.mul_add (A.ev e x),show A.ev e x*(18446744073709551616*Y)=18446744073709551616*(A.ev e x*Y) by rw[Int.mul_left_comm]];generalize A.ev e x*Y=z at *
  generalize A.ev e x*A.ev e y=z' at *
  generalize q*o=z'' at *
  omega
end
def Zk3:Qq:=(.l 2 kU (.bin .and .u64 (.v 0) (.lit 4294967295))
(.l 3 kU (.bin .shr .u64 (.v 0) (.lit 32))
(.l 4 kU (.bin .and .u64 (.v 1) (.lit 4294967295))
(.l 5 kU (.bin .shr .u64 (.v 1) (.lit 32))
(.l 6 kU (.bin .mul .u64 (.v 2) (.v 4))
(.l 7 kU (.bin .mul .u64 (.v 3) (.v 4))
(.l 8 kU (.bin .shr .u64 (.v 6) (.lit 32))
(.l 9 kU (.bin .add .u64 (.v 7) (.v 8))
(.l 10 kU (.bin .and .u64 (.v 9) (.lit 4294967295))
(.l 11 kU (.bin .shr .u64 (.v 9) (.lit 32))
(.l 12 kU (.bin .mul .u64 (.v 2) (.v 5))
(.l 13 kU (.bin .add .u64 (.v 10) (.v 12))
(.l 14 kU (.bin .mul .u64 (.v 3) (.v 5))
(.l 15 kU (.bin .add .u64 (.v 14) (.v 11))
(.l 16 kU (.bin .shr .u64 (.v 13) (.lit 32))
(.l 17 kU (.bin .add .u64 (.v 15) (.v 16))
(.l 18 kU (.bin .mul .u64 (.v 0) (.v 1))
(.ret [.v 17,.v 18]))))))))))))))))))
theorem Qi6(x:Int)(k:Nat)(hk:k<=64)(h:U x):Qm .and .u64 x ((2^k:Nat)-1:Int)=x%(2^k:Nat):=by
 obtain⟨n,hn⟩:=Oz h.1;unfold U at h;have hp:(2^k:Nat)<=2^64:=Nat.pow_le_pow_right (by omega) hk;have hp0:0<2^k:=Nat.two_pow_pos k;have h2:((2^k:Nat)-1:Int)=((2^k-1:Nat):Int):=by omega
 have hlt:n<2^64:=by omega
 show wr .u64 ((BitVec.ofInt 64 x &&& BitVec.ofInt 64 ((2^k:Nat)-1:Int)).toNat:Int)=_;rw[hn,h2,BitVec.ofInt_natCast,BitVec.ofInt_natCast,BitVec.toNat_and,BitVec.toNat_ofNat,BitVec.toNat_ofNat,He hlt,He (by omega),Nat.and_two_pow_sub_one_eq_mod];simp only[wr];have:n%2^k<2^k:=Oau _ hp0;rw[Oy (by omega) (by omega)];simp
theorem Qj0{v x:Int}(h:v=Qm .and .u64 x 4294967295)(hx:U x):v=x%4294967296:=by
 rw[h];exact Qi6 x 32 (by omega) hx
theorem Qj9{v x:Int}{k:IntKind}(h:v=Qm .shr k x 32)(hk:32<=k.bits:=by decide):v=x/4294967296:=by
 rw[h];simp only[Qm];have:min (32:Int).toNat k.bits=32:=by show min 32 k.bits=32;omega
 rw[this];exact Kl _ (by decide)
theorem mul64_arith{x y x0 x1 y0 y1 w0 v7 t8 t w1 w2 v12 w1' v14 v15 v16 hi:Int}(hx:U x)(hy:U y)
  (a0:x0=x%4294967296) (a1:x1=x/4294967296) (b0:y0=y%4294967296) (b1:y1=y/4294967296)
  (c0:w0=wr .u64 (x0*y0)) (c1:v7=wr .u64 (x1*y0)) (c2:t8=w0/4294967296) (c3:t=wr .u64 (v7+t8)) (c4:w1=t%4294967296) (c5:w2=t/4294967296)
  (c6:v12=wr .u64 (x0*y1)) (c7:w1'=wr .u64 (w1+v12)) (c8:v14=wr .u64 (x1*y1)) (c9:v15=wr .u64 (v14+w2)) (c10:v16=w1'/4294967296) (c11:hi=wr .u64 (v15+v16)) :
  hi=x*y/18446744073709551616:=by
 unfold U at hx hy;have hx2:x=x0+4294967296*x1:=by omega
 have hy2:y=y0+4294967296*y1:=by omega
 have ex:x*y=x0*y0+4294967296*(x1*y0)+4294967296*(x0*y1)+18446744073709551616*(x1*y1):=by
  rw[hx2,hy2];grind
 have bd:∀ {a b:Int},0<=a/\a<=4294967295->0<=b/\b<=4294967295->0<=a*b/\a*b<=4294967295*4294967295:=fun ha hb =>
  ⟨Kx ha.1 hb.1,Oak ha.2 hb.2 hb.1 (by omega)⟩
 have p00:=bd (a:=x0) (b:=y0) (by omega) (by omega);have p10:=bd (a:=x1) (b:=y0) (by omega) (by omega);have p01:=bd (a:=x0) (b:=y1) (by omega) (by omega);have p11:=bd (a:=x1) (b:=y1) (by omega) (by omega);rw[ex];clear ex bd hx2 hy2;simp only[wr]at *
 generalize x0*y0=A at *
 generalize x1*y0=B at *
 generalize x0*y1=C at *
 generalize x1*y1=E at *
 clear a0 a1 b0 b1 hx hy;omega
theorem Zcz(f:FuncId)(e:Nat->Int)(hk:Q0 [.int .u64,.int .u64] [e 0,e 1]):Zk3.Xat [] ⟨fun ys=>ys=(Wi f).sem [e 0,e 1],[]⟩ e:=by
 obtain⟨h0,h1,_⟩:=hk;have hx:U (e 0):=Zb h0;have hy:U (e 1):=Zb h1;simp only[Zk3,Wi,Qq.Xat,xw,xws,Nat.reduceAdd,List.map,Qn,Ql,D.ev,KK.has];intro e2 _ e3 _ e4 _ e5 _ e6 _ e7 _ e8 k8 e9 k9 e10 _ e11 _ e12 _ e13 k13 e14 _ e15 _ e16 _ e17 _ e18 _;have k6:U (e 6):=by rw[e6];exact Zb (W7 _ _)
 have r:=mul64_arith hx hy (Qj0 e2 hx) (Qj9 e3) (Qj0 e4 hy) (Qj9 e5) e6 e7 (Qj9 e8) e9 (Qj0 e10 (Zb k9)) (Qj9 e11) e12 e13 e14 e15 (Qj9 e16) e17;rw[r,e18];rfl
set_option maxRecDepth 100000
def Qva(im ia b:Nat)(x low n0 y0 y1 y2 y3 y4 y5 n1 n2 n3 n4 n5 t0 t1 t2 t3 t4 t5 t6:A)(k:A->A->A->A->A->A->A->Qq):Qq :=
 Qnp im ia x [(y0,t0,b,b+288,b+291),(y1,t1,b+582,b+870,b+873),(y2,t2,b+1164,b+1452,b+1455),(y3,t3,b+1746,b+2034,b+2037),(y4,t4,b+2328,b+2616,b+2619),(y5,t5,b+2910,b+3198,b+3201)] (.lit 0) fun c =>
 .req ia [t6,c,.lit 0] (.l (b+3204) (.int .u64) (.app ia 0 [t6,c,.lit 0]) (.l (b+3205) (.int .u64) (.app ia 1 [t6,c,.lit 0])
 (.l (b+3494) (.int .u64) (.bin .mul .u64 (.v (b+291)) low)
 (.req im [.v (b+3494),n0] (.l (b+3590) (.int .u64) (.app im 0 [.v (b+3494),n0]) (.l (b+3591) (.int .u64) (.app im 1 [.v (b+3494),n0])
 (.req ia [.v (b+3591),.v (b+291),.lit 0] (.l (b+3592) (.int .u64) (.app ia 0 [.v (b+3591),.v (b+291),.lit 0]) (.l (b+3593) (.int .u64) (.app ia 1 [.v (b+3591),.v (b+291),.lit 0])
 (.l (b+3594) (.int .u64) (.bin .add .u64 (.v (b+3590)) (.v (b+3593)))
 (Qnp im ia (.v (b+3494)) [(n1,.v (b+873),b+3595,b+3597,b+3600),(n2,.v (b+1455),b+3603,b+3605,b+3608),(n3,.v (b+2037),b+3611,b+3613,b+3616),(n4,.v (b+2619),b+3619,b+3621,b+3624),(n5,.v (b+3201),b+3627,b+3629,b+3632)] (.v (b+3594)) fun c' =>
 .req ia [.v (b+3204),c',.lit 0] (.l (b+3635) (.int .u64) (.app ia 0 [.v (b+3204),c',.lit 0]) (.l (b+3636) (.int .u64) (.app ia 1 [.v (b+3204),c',.lit 0])
 (.l (b+3637) (.int .u64) (.bin .add .u64 (.v (b+3205)) (.v (b+3636)))
 (k (.v (b+3600)) (.v (b+3608)) (.v (b+3616)) (.v (b+3624)) (.v (b+3632)) (.v (b+3635)) (.v (b+3637)))))))))))))))))
theorem Ze7{q l0 low n0:Int}(hq:q=wr .u64 (l0*low))(hl:n0*low%18446744073709551616=18446744073709551615):(q*n0+l0)%18446744073709551616=0:=by
 simp only[wr]at hq;have h1:∃z,l0*low=q+18446744073709551616*z:=⟨l0*low/18446744073709551616,by omega⟩
 have h2:∃z,n0*low=18446744073709551615+18446744073709551616*z:=⟨n0*low/18446744073709551616,by omega⟩
 obtain⟨z,h1⟩:=h1;obtain⟨y,h2⟩:=h2;have:q*n0+l0=18446744073709551616*(l0*(y+1)-z*n0):=by grind
 rw[this];exact Int.mul_emod_right _ _
theorem Qsn{xB qn0 qJ V jl l0 j5 t6 c s6 c7 h l' cc ca j2 c' t5' c'' t6' jt:Int}
  (hqz:(qn0+l0)%18446744073709551616=0) (hqn:0<=qn0/\qn0<=18446744073709551615*18446744073709551615)
  (hV:V=jt+Qw*t6) (u6:U t6) (hjl:jl=l0+18446744073709551616*j5) (ul:U l0) (uc:U c) (uc':U c')
  (S1:jl+Qw*c=xB+jt+0) (a1:s6=(t6+c+0)%18446744073709551616) (a2:c7=(t6+c+0)/18446744073709551616)
  (m1:h=qn0/18446744073709551616) (m2:l'=qn0%18446744073709551616) (m4:cc=(l'+l0+0)/18446744073709551616) (m5:ca=wr .u64 (h+cc))
  (S2:j2+2135987035920910082395021706169552114602704522356652769947041607822219725780640550022962086936576*c'=qJ+j5+ca)
  (b1:t5'=(s6+c'+0)%18446744073709551616) (b2:c''=(s6+c'+0)/18446744073709551616) (b3:t6'=wr .u64 (c7+c'')) :
  18446744073709551616*(j2+2135987035920910082395021706169552114602704522356652769947041607822219725780640550022962086936576*t5'+Qw*t6')=V+xB+(qn0+18446744073709551616*qJ)/\U t5'/\0<=t6'/\t6'<=2:=by
 unfold U Qw at *
 simp only[wr]at *
 omega
section
variable {T:List K}{f g:FuncId}{im ia b:Nat}{G:Gl}{e:Nat->Int}
def wd(a b c d f g:Int):Int:=a+18446744073709551616*(b+18446744073709551616*(c+18446744073709551616*(d+18446744073709551616*(f+18446744073709551616*g))))
theorem V7{x low n0 y0 y1 y2 y3 y4 y5 n1 n2 n3 n4 n5 t0 t1 t2 t3 t4 t5 t6:A}{k:A->A->A->A->A->A->A->Qq}{B N V:Int}(hm:T[im]?=some (Wi f))(ha:T[ia]?=some (Xu g))(bx:U (x.ev e))
  (hy:Bv e [y0,y1,y2,y3,y4,y5]) (hn:Bv e [n0,n1,n2,n3,n4,n5]) (ht:Bv e [t0,t1,t2,t3,t4,t5,t6])
  (hB:B=jo e [y0,y1,y2,y3,y4,y5]) (hN:N=jo e [n0,n1,n2,n3,n4,n5]) (hV:V=jo e [t0,t1,t2,t3,t4,t5]+Qw*t6.ev e) (hVB:V<B+N)
  (hl:n0.ev e*low.ev e%18446744073709551616=18446744073709551615)
  (hk:∀ V' q,Bv e [.v (b+3600),.v (b+3608),.v (b+3616),.v (b+3624),.v (b+3632),.v (b+3635),.v (b+3637)] ->
   V'=jo e [.v (b+3600),.v (b+3608),.v (b+3616),.v (b+3624),.v (b+3632),.v (b+3635)]+Qw*e (b+3637)->V'<B+N->0<=V'->0<=q/\q<18446744073709551616->18446744073709551616*V'=V+x.ev e*B+q*N ->
   (k (.v (b+3600)) (.v (b+3608)) (.v (b+3616)) (.v (b+3624)) (.v (b+3632)) (.v (b+3635)) (.v (b+3637))).Xat T G e) :
  (Qva im ia b x low n0 y0 y1 y2 y3 y4 y5 n1 n2 n3 n4 n5 t0 t1 t2 t3 t4 t5 t6 k).Xat T G e:=by
 unfold Qva;obtain⟨ht0,ht1,ht2,ht3,ht4,ht5,ht6,_⟩:=ht;obtain⟨hn0,hn1,hn2,hn3,hn4,hn5,_⟩:=hn;refine Ur hm ha bx _ _ _ hy ⟨ht0,ht1,ht2,ht3,ht4,ht5,trivial⟩ (by show U 0;unfold U;omega) fun g1 g2 g3=>?_
 simp only[List.map,Qev,Ov,O5,Bv,Ql]at g1 g2 g3;obtain⟨l0,l1,l2,l3,l4,l5,_⟩:=g1;simp only[Qev];have ht6':=ht6;refine⟨by simp only[ha,Xu,List.map,Qn];omega,fun a1 _ a2 _ a3 k3=>⟨by simp only[hm,Wi],fun a4 _ a5 _=>⟨by simp only[ha,Xu,List.map,Qn];omega,fun _ _ a7 _ a8 k8=>?_⟩⟩⟩;have k3':U (e (b+3494)):=Zb k3;have k8':U (e (b+3594)):=Zb k8;refine Ur hm ha (by exact k3') _ _ _ ⟨hn1,hn2,hn3,hn4,hn5,trivial⟩ ⟨l1,l2,l3,l4,l5,trivial⟩ (by exact k8') fun p1 p2 p3=>?_
 simp only[List.map,Qev,Ov,O5,Bv,Ql]at p1 p2 p3;obtain⟨r1,r2,r3,r4,r5,_⟩:=p1;simp only[Qev];refine⟨by simp only[ha,Xu,List.map,Qn];omega,fun b1 _ b2 _ b3 _=>?_⟩;simp only[D.ev,ha,hm,Xu,Wi,List.map,O4,O9,Ql,Qn,Qm]at a1 a2 a3 a4 a5 a7 a8 b1 b2 b3;have hz:=Ze7 a3 hl;have e6:Qr4 (0+1+1+1+1+1+1)=Qw:=by decide +kernel
 have e5:Qr4 (0+1+1+1+1+1)=2135987035920910082395021706169552114602704522356652769947041607822219725780640550022962086936576:=by decide +kernel
 rw[e6,show(A.lit 0).ev e=0 from rfl]at g3;rw[e5]at p3;have hqn:=Quy k3' hn0;obtain⟨s1,s2,s3,s4⟩:=Qsn hz hqn hV ht6 (by simp only[jo];rfl) l0 g2 p2 g3 a1 a2 a4 a5 a7 a8 p3 b1 b2 b3;have hB0:0<=B:=by
  obtain⟨z0,z1,z2,z3,z4,z5,_⟩:=hy;unfold U at z0 z1 z2 z3 z4 z5;rw[hB];simp only[jo];omega
 have hN0:0<=N:=by
  unfold U at hn0 hn1 hn2 hn3 hn4 hn5;rw[hN];simp only[jo];omega
 have hqN:e (b+3494)*N=e (b+3494)*n0.ev e+18446744073709551616*(e (b+3494)*jo e [n1,n2,n3,n4,n5]):=by
  rw[hN,show jo e [n0,n1,n2,n3,n4,n5]=n0.ev e+18446744073709551616*jo e [n1,n2,n3,n4,n5]from rfl,Int.mul_add,Int.mul_left_comm]
 rw[<- hqN]at s1;have hxB:A.ev e x*jo e [y0,y1,y2,y3,y4,y5]=A.ev e x*B:=by rw[hB]
 simp only[jo]at hxB;have s1':18446744073709551616*(jo e [.v (b+3600),.v (b+3608),.v (b+3616),.v (b+3624),.v (b+3632),.v (b+3635)]+Qw*e (b+3637))=V+A.ev e x*B+e (b+3494)*N:=by
  rw[<- hB]at s1;rw[<- s1];simp only[jo,Ql];omega
 have m1:A.ev e x*B<=18446744073709551615*B:=M4 (by have:=bx.2;omega) hB0;have m2:e (b+3494)*N<=18446744073709551615*N:=M4 (by have:=k3'.2;omega) hN0;refine hk _ _ ⟨r1,r2,r3,r4,r5,s2,by exact⟨s3,by show e (b+3637)<_;omega⟩,trivial⟩ rfl ?_ ?_ k3' s1'
 ·generalize jo e [.v (b+3600),.v (b+3608),.v (b+3616),.v (b+3624),.v (b+3632),.v (b+3635)]+Qw*e (b+3637)=V' at *
  omega
 ·unfold U at r1 r2 r3 r4 r5 s2;have s3':0<=e (b+3637):=s3;unfold Qw;simp only[jo,Ql];omega
end
set_option maxRecDepth 100000
theorem md{x y n:Int}(z:Int)(h:x=y+n*z):x%n=y%n:=by rw[h];exact Ho ..
theorem dm{x y n:Int}(h:x%n=y%n):∃z,x=y+n*z:=⟨x/n-y/n,by
 have h1:=L2 x n;have h2:=L2 y n;rw[Int.mul_sub];omega⟩
theorem Y1{x n:Int}:∃z,x%n=x+n*z:=⟨-(x/n),by have h1:=L2 x n;rw[Int.mul_neg];omega⟩
theorem Zo{x n:Int}(h:0<n):0<=x%n/\x%n<n:=⟨Mw _ (by omega),Mv _ h⟩
theorem J1{x n r:Int}(z:Int)(h:x=r+n*z)(h0:0<=r)(h1:r<n):x%n=r:=by
 rw[md z h];exact Oy h0 h1
theorem Qlt(n u:Int):∀k:Nat,∃z,(1+n*u)^k=1+n*z
 |0=>⟨0,by simp⟩
 |k+1=>by
  obtain⟨z,hz⟩:=Qlt n u k;exact⟨z+u+n*z*u,by rw[L3,hz];grind⟩
def Zm(n:Int):Int:=(n+1)/2
theorem Qk4{n:Int}(h:n%2=1):∃z,Qw*Zm n^384=1+n*z:=by
 obtain⟨z,hz⟩:=Qlt n 1 384;have h2:1+n*1=2*Zm n:=by unfold Zm;omega
 rw[h2,Int.mul_pow,show(2:Int)^384=Qw by decide +kernel]at hz;exact⟨z,hz⟩
theorem Qtb{n a b v q:Int}(h:n%2=1)(hv:Qw*v=a*b+q*n):v%n=Yp n a b:=by
 obtain⟨z,hz⟩:=Qk4 h;have e:v=a*b*Zm n^384+n*(q*Zm n^384-v*z):=by
  have h1:Qw*v*Zm n^384=v*(Qw*Zm n^384):=by rw[M0 Qw v,K9]
  rw[hz,hv]at h1;generalize Zm n^384=I at *
  grind
 exact md _ e
theorem Zez{n low:Int}(h:n*low%18446744073709551616=18446744073709551615):n%2=1:=by
 rcases Int.emod_two_eq n with h2|h2
 ·exfalso;have:n=2*(n/2):=by omega
  rw[this,K9]at h;generalize n/2*low=z at h;omega
 ·exact h2
theorem Zy1{n low:Int}(h:n*low%18446744073709551616=18446744073709551615):Q1 n 0*low%18446744073709551616=18446744073709551615:=by
 rw[Qsg,<- h];have:n=n%18446744073709551616+18446744073709551616*(n/18446744073709551616):=by omega
 refine md (-(n/18446744073709551616*low)) ?_
 conv=>rhs;rw[this]
 grind
theorem Ju{v x:Int}(h:v=if x=0 then 1 else 0):(v=1/\x=0)∨(v=0/\x≠0):=by
 by_cases hx:x=0 <;> simp[hx]at h <;> omega
def Zp4:Qq:=(xw 0 [.v 3,.v 0] 244 qha
(.l 580 .bit (.not (.v 245))
(.split 580
(.ret [.v 244])
(.ret [.v 3]))))
theorem Zku(f1 f:FuncId)(e:Nat->Int)(hk:Q0 [.num,.int .u64,.num,.num] [e 0,e 1,e 2,e 3]):Zp4.Xat [Qe0 f1] ⟨fun ys=>ys=(Qg2 f).sem [e 0,e 1,e 2,e 3],[]⟩ e:=by
 obtain⟨h0,h1,h2,h3,_⟩:=hk;simp only[KK.has]at h0 h3;simp only[Zp4,Qg2,Qe0,Qq.Xat,xw,xws,Nat.reduceAdd,O0,List.map,Ql,D.ev,O4,O9,bi];refine⟨trivial,fun a1 _ a2 _ a3 _=>⟨fun hs=>?_,fun hs=>?_⟩⟩
 ·have a3':=Ju a3;have:¬e 3<e 0:=fun hc=>by rw[if_pos hc]at a2;omega
  rw[if_pos (by omega),a1,Oy (by omega) (by omega)]
 ·have a3':=Ju a3;have:e 3<e 0:=by
   by_cases hc:e 3<e 0
   ·exact hc
   ·rw[if_neg hc]at a2;omega
  rw[if_neg (by omega)]
def z0:A:=.lit 0
def Qdm(i b:Nat)(t0 t1 t2 t3 t4 t5 t6:A)(k:A->A->A->A->A->A->A->Qq):Qq :=
 Qva 1 0 b (.m 3 i) (.v 1) (.m 0 0) (.m 4 0) (.m 4 1) (.m 4 2) (.m 4 3) (.m 4 4) (.m 4 5) (.m 0 1) (.m 0 2) (.m 0 3) (.m 0 4) (.m 0 5) t0 t1 t2 t3 t4 t5 t6 k
def Zpc:Qq :=
 Qdm 0 293 (.lit 0) (.lit 0) (.lit 0) (.lit 0) (.lit 0) (.lit 0) (.lit 0) fun t0 t1 t2 t3 t4 t5 t6 =>
 Qdm 1 4219 t0 t1 t2 t3 t4 t5 t6 fun t0 t1 t2 t3 t4 t5 t6 =>
 Qdm 2 8145 t0 t1 t2 t3 t4 t5 t6 fun t0 t1 t2 t3 t4 t5 t6 =>
 Qdm 3 12071 t0 t1 t2 t3 t4 t5 t6 fun t0 t1 t2 t3 t4 t5 t6 =>
 Qdm 4 15997 t0 t1 t2 t3 t4 t5 t6 fun t0 t1 t2 t3 t4 t5 t6 =>
 Qdm 5 19923 t0 t1 t2 t3 t4 t5 t6 fun t0 t1 t2 t3 t4 t5 _ =>
 (.l 23561 .num (.join [t0,t1,t2,t3,t4,t5])
 (.req 2 [.v 0,.v 1,.v 2,.v 23561]
 (.l 23562 .num (.app 2 0 [.v 0,.v 1,.v 2,.v 23561])
 (.ret [.v 23562]))))
theorem jo6{x:Int}(h:0<=x/\x<Qw)(e:Nat->Int)(i:Nat)(hi:e i=x):jo e [.m i 0,.m i 1,.m i 2,.m i 3,.m i 4,.m i 5]=x:=by
 have:=Z4 h;simp only[jo,Qp,hi];omega
theorem Qdx(e:Nat->Int)(i j:Nat):U ((A.m i j).ev e):=Qt (e i) j
theorem Qpz(e:Nat->Int):∀l:List A,Y6 (l.map (·.ev e))=jo e l
 |[]=>rfl
 |a::l=>by simp only[List.map,Y6,jo,Qpz e l]
theorem Qtz{n a b V1 V2 V3 V4 V5 V6 a0 a1 a2 a3 a4 a5 q0 q1 q2 q3 q4 q5:Int}(e1:18446744073709551616*V1=0+a0*b+q0*n)(e2:18446744073709551616*V2=V1+a1*b+q1*n)(e3:18446744073709551616*V3=V2+a2*b+q2*n)(e4:18446744073709551616*V4=V3+a3*b+q3*n)
  (e5:18446744073709551616*V5=V4+a4*b+q4*n) (e6:18446744073709551616*V6=V5+a5*b+q5*n) (ha:a=wd a0 a1 a2 a3 a4 a5):Qw*V6=a*b+wd q0 q1 q2 q3 q4 q5*n:=by
 rw[ha];unfold wd Qw
 grind
theorem Zqr{q0 q1 q2 q3 q4 q5:Int}(h0:U q0)(h1:U q1)(h2:U q2)(h3:U q3)(h4:U q4)(h5:U q5):0<=wd q0 q1 q2 q3 q4 q5/\wd q0 q1 q2 q3 q4 q5<Qw:=by
 unfold U at *
 unfold wd Qw;omega
theorem Za0{n a b q v:Int}(ha:0<=a/\a<Qw)(hb:0<=b/\b<Qw)(hq:0<=q/\q<Qw)(hn:3<=n)(hp:a<n∨b<n)(h:Qw*v=a*b+q*n):v<2*n:=by
 have h1:a*b<=Qw*n:=by
  rcases hp with hp|hp
  ·rw[M0 Qw];exact Oak (by omega) (by omega) hb.1 (by omega)
  ·exact Oak (by omega) (by omega) hb.1 (by unfold Qw;omega)
 have h2:q*n<=(Qw-1)*n:=M4 (by omega) (by omega);rw[Int.sub_mul]at h2;have h3:Qw*v<Qw*(2*n):=by
  rw[show Qw*(2*n)=Qw*n+Qw*n by rw[Int.mul_left_comm];omega];omega
 exact Int.lt_of_mul_lt_mul_left h3 (by unfold Qw;omega)
theorem Zip(f1 f2 f3 f:FuncId)(e:Nat->Int)(hk:Q0 [.num,.int .u64,.num,.num,.num] [e 0,e 1,e 2,e 3,e 4])(hp:(Qms f).pre [e 0,e 1,e 2,e 3,e 4]) :
  Zpc.Xat [Xu f1,Wi f2,Qg2 f3] ⟨fun ys=>ys=(Qms f).sem [e 0,e 1,e 2,e 3,e 4],[]⟩ e:=by
 obtain⟨h0,h1,h2,h3,h4,_⟩:=hk;obtain⟨⟨hl,hn3,hn2⟩,hab⟩:=hp;have hx:∀i j,U ((A.m i j).ev e):=Qdx e;have hb6:=jo6 h4 e 4 rfl;have hn6:=jo6 h0 e 0 rfl;have hB:Bv e [.m 4 0,.m 4 1,.m 4 2,.m 4 3,.m 4 4,.m 4 5]:=⟨hx _ _,hx _ _,hx _ _,hx _ _,hx _ _,hx _ _,trivial⟩
 have hN:Bv e [.m 0 0,.m 0 1,.m 0 2,.m 0 3,.m 0 4,.m 0 5]:=⟨hx _ _,hx _ _,hx _ _,hx _ _,hx _ _,hx _ _,trivial⟩
 have hl0:(A.m 0 0).ev e*(A.v 1).ev e%18446744073709551616=18446744073709551615:=Zy1 hl;have hz:U ((A.lit 0).ev e):=by show U 0;unfold U;omega
 unfold Zpc Qdm;refine V7 (V:=0) rfl rfl (hx _ _) hB hN ⟨hz,hz,hz,hz,hz,hz,hz,trivial⟩ hb6.symm hn6.symm (by simp only[jo,Qn];omega) (by have:=h4.1;omega) hl0 fun V1 q0 t1 v1 b1 _ k1 E1=>?_
 refine V7 rfl rfl (hx _ _) hB hN t1 hb6.symm hn6.symm v1 b1 hl0 fun V2 q1 t2 v2 b2 _ k2 E2=>?_
 refine V7 rfl rfl (hx _ _) hB hN t2 hb6.symm hn6.symm v2 b2 hl0 fun V3 q2 t3 v3 b3 _ k3 E3=>?_
 refine V7 rfl rfl (hx _ _) hB hN t3 hb6.symm hn6.symm v3 b3 hl0 fun V4 q3 t4 v4 b4 _ k4 E4=>?_
 refine V7 rfl rfl (hx _ _) hB hN t4 hb6.symm hn6.symm v4 b4 hl0 fun V5 q4 t5 v5 b5 _ k5 E5=>?_
 refine V7 rfl rfl (hx _ _) hB hN t5 hb6.symm hn6.symm v5 b5 hl0 fun V6 q5 t6 v6 b6 p6 k6 E6=>?_
 have ha:e 3=wd (Q1 (e 3) 0) (Q1 (e 3) 1) (Q1 (e 3) 2) (Q1 (e 3) 3) (Q1 (e 3) 4) (Q1 (e 3) 5):=Z4 h3;have Jd:=Qtz E1 E2 E3 E4 E5 E6 ha;have hq:=Zqr k1 k2 k3 k4 k5 k6;have hlt:=Za0 h3 h4 hq hn3 hab Jd;have hmv:=Qtb (Zez hl) Jd;have h22:(2:Int)^382=9850501549098619803069760025035903451269934817616361666987073351061430442874302652853566563721228910201656997576704:=by decide +kernel
 obtain⟨u0,u1,u2,u3,u4,u5,u6,_⟩:=t6;have hv6:e 23560=0/\V6=jo e [.v 23523,.v 23531,.v 23539,.v 23547,.v 23555,.v 23558]:=by
  have hj:0<=jo e [.v 23523,.v 23531,.v 23539,.v 23547,.v 23555,.v 23558]:=by
   have w0:U (e 23523):=u0;have w1:U (e 23531):=u1;have w2:U (e 23539):=u2;have w3:U (e 23547):=u3;have w4:U (e 23555):=u4;have w5:U (e 23558):=u5;unfold U at w0 w1 w2 w3 w4 w5;simp only[jo,Ql];omega
  have hu:0<=e 23560:=u6.1;rw[h22]at hn2;have hv6':V6=jo e [.v 23523,.v 23531,.v 23539,.v 23547,.v 23555,.v 23558]+Qw*e 23560:=v6;generalize jo e [.v 23523,.v 23531,.v 23539,.v 23547,.v 23555,.v 23558]=J at *
  unfold Qw at hv6';omega
 refine fun c1 _=>⟨trivial,fun c2 _=>?_⟩
 have c1':e 23561=V6:=by
  rw[c1,hv6.2];exact Qpz e [.v 23523,.v 23531,.v 23539,.v 23547,.v 23555,.v 23558]
 have c2':e 23562=if e 0<=e 23561 then e 23561-e 0 else e 23561:=c2
 show[e 23562]=[Yp (e 0) (e 3) (e 4)]
 rw[c2',c1',<- hmv];congr 1;split
 ·exact(J1 1 (by omega) (by omega) (by omega)).symm
 ·exact(Oy p6 (by omega)).symm
def X5(x:Int):Int:=if x<=0 then 0 else(x.toNat.log2:Int)+1
def Uv(f:FuncId):K:={fn:=f,ext:=false,ins:=[iU],outs:=[oI],pre:=fun _=>True,sem:=fun|[a]=>[X5 a]|_=>[] }
def Qml(f:FuncId):K:={fn:=f,ext:=false,ins:=[iN],outs:=[oI],pre:=fun _=>True,sem:=fun|[a]=>[X5 a]|_=>[] }
def Zms(f:FuncId):K:={fn:=f,ext:=false,ins:=[iN,iI],outs:=[oI],pre:=fun _=>True,sem:=fun|[a,i]=>[if 0<=i/\i<384 then a/2^i.toNat%2 else 0]|_=>[] }
def Xc(n:Int):Int:=2^768%n
def Qa0(n low w:Int):Prop:=mOk n low/\w=Xc n
def Qfg(n:Int):Nat->Int->Int
 |0,x=>x
 |k+1,x=>Qfg n k (x*((2-n*x%18446744073709551616)%18446744073709551616)%18446744073709551616)
def Qgv(n:Int):Int:=(-(Qfg (n%18446744073709551616) 6 (n%18446744073709551616)))%18446744073709551616
abbrev cOK:L:=.cst (.int .i64 (.lit 0))
def Qhk(f:FuncId)(te:TypeId):K:={fn:=f,ext:=false,ins:=[iN],outs:=[.box te [.num,.int .u64,.num],.one cOK],pre:=fun|[n]=>n%2=1/\3<=n/\n<2^382|_=>False,sem:=fun|[n]=>[n,Qgv n,Xc n]|_=>[] }
def Jn(f:FuncId):K:={fn:=f,ext:=false,ins:=[iM,iN],outs:=[oN],pre:=fun|[n,low,w,_]=>Qa0 n low w|_=>False,sem:=fun|[n,_,_,a]=>[a%n]|_=>[] }
def Qnl(f:FuncId):K:={fn:=f,ext:=false,ins:=[iM,iN,iN],outs:=[oN],pre:=fun|[n,low,w,_,_]=>Qa0 n low w|_=>False,sem:=fun|[n,_,_,a,b]=>[(a+b)%n]|_=>[] }
def Qnj(f:FuncId):K:={fn:=f,ext:=false,ins:=[iM,iN,iN],outs:=[oN],pre:=fun|[n,low,w,_,_]=>Qa0 n low w|_=>False,sem:=fun|[n,_,_,a,b]=>[(a-b)%n]|_=>[] }
def Qmp(f:FuncId):K:={fn:=f,ext:=false,ins:=[iM,iN],outs:=[oN],pre:=fun|[n,low,w,a]=>Qa0 n low w/\a<n|_=>False,sem:=fun|[n,_,_,a]=>[a*Zm n%n]|_=>[] }
open Classical in
noncomputable def Zd8(n a:Int):Int:=if h:∃y,0<=y/\y<n/\a*y%n=1 then h.choose else 0
open Classical in
noncomputable def Qkg(f:FuncId):K:={fn:=f,ext:=false,ins:=[iM,iN],outs:=[oN,oI],pre:=fun|[n,low,w,_]=>Qa0 n low w|_=>False,sem:=fun|[n,_,_,a]=>[Zd8 n a,if ∃y,0<=y/\y<n/\a*y%n=1 then 0 else 6]|_=>[] }
def Xs:Int:=52435875175126190479447740508185965837690552500527637822603658699938581184513
def Wk(s:Int):Int:=if s=0 then Xs else if s=1 then 65521 else 72057594037927889
def Vf(s:Int):Prop:=0<=s/\s<=2
instance  (s:Int):Decidable (Vf s):=inferInstanceAs (Decidable (_/\_))
def Vr(f:FuncId):K:={fn:=f,ext:=false,ins:=[iI],outs:=[oN],pre:=fun|[s]=>Vf s|_=>False,sem:=fun|[s]=>[Wk s]|_=>[] }
def Qci(f:FuncId):K:={fn:=f,ext:=false,ins:=[iI],outs:=[oN,oI],pre:=fun _=>True,sem:=fun|[s]=>if Vf s then[Wk s,0]else[0,2]|_=>[] }
def Qq9(op:Int->Int->Int):List Int->List Int:=fun|[s,a,b]=>if Vf s/\a<Wk s/\b<Wk s then[op a b%Wk s,0]else[0,2]|_=>[]
def kS2(f:FuncId)(op:Int->Int->Int):K:={fn:=f,ext:=false,ins:=[iI,iN,iN],outs:=[oN,oI],pre:=fun _=>True,sem:=Qq9 op }
open Classical in
noncomputable def Qbt(f:FuncId):K:={fn:=f,ext:=false,ins:=[iI,iN],outs:=[oN,oI],pre:=fun _=>True,sem:=fun|[s,a]=>if Vf s/\a<Wk s then[Zd8 (Wk s) a,if ∃y,0<=y/\y<Wk s/\a*y%Wk s=1 then 0 else 6]else[0,2]|_=>[] }
def Qr1(f:FuncId):K:={fn:=f,ext:=false,ins:=[iN,.one (.cst (.int .i64 (.lit (-1))))],outs:=[oN],pre:=fun _=>True,sem:=fun|[a]=>[a/2]|_=>[] }
def kOf(f:FuncId):K:={fn:=f,ext:=false,ins:=[iU],outs:=[oN],pre:=fun _=>True,sem:=fun|[a]=>[a]|_=>[] }
abbrev iC:Sh:=.agg [.int .u64,.int .u64,.int .u64,.int .u64,.int .u64,.bool]
def Qkd(f:FuncId):K:={fn:=f,ext:=false,ins:=[iU,iU,iU],outs:=[oU,oU],pre:=fun|[h,_,y]=>h<y|_=>False,sem:=fun|[h,l,y]=>[(h*18446744073709551616+l)/y,(h*18446744073709551616+l)%y]|_=>[] }
def Qge(f:FuncId):K:={fn:=f,ext:=false,ins:=[iU,iU,iU],outs:=[oU],pre:=fun|[_,_,y]=>0<y|_=>False,sem:=fun|[h,l,y]=>[(h*18446744073709551616+l)%y]|_=>[] }
def kIs(f:FuncId):K:={fn:=f,ext:=false,ins:=[iI],outs:=[oB],pre:=fun _=>True,sem:=fun|[s]=>[bi (Vf s)]|_=>[] }
set_option maxRecDepth 100000
def Qiu:List A:=(List.range 256).map fun n=>.lit (if n=0 then 0 else(n.log2:Int)+1)
theorem Zo6:∀n:Nat,n<256->∀e:Nat->Int,(Qiu.map (·.ev e)).getD n 0=X5 n:=by
 intro n hn e;simp only[Qiu,List.map_map,Ou,M2,List.getElem?_range hn,L4,Kh,Function.comp_apply,A.ev,X5];by_cases h:n=0
 ·subst h;rfl
 ·rw[if_neg h,if_neg (by omega)];simp
theorem Vv{v x:Int}{k:IntKind}{c:Int}(d:Int)(h:v=Qm .shr k x c)(hd:((2^(min c.toNat k.bits):Nat):Int)=d)(hd0:0<=d):v=x/d:=by
 rw[h];simp only[Qm];rw[hd];exact Kl _ hd0
theorem Qk7{v x:Int}{k:IntKind}{c:Int}(d:Int)(h:v=Qm .shl k x c)(hd:((2^(min c.toNat k.bits):Nat):Int)=d):v=wr k (x*d):=by
 rw[h];simp only[Qm];rw[hd]
theorem Qqb{x:Int}(h:1<=x):X5 x=1+X5 (x/2):=by
 obtain⟨n,rfl⟩:=Oz (show 0<=x by omega);unfold X5;rw[if_neg (by omega)];simp only[Mi];rw[Nat.log2_def];by_cases h2:2<=n
 ·rw[if_pos h2,if_neg (by omega),show((n:Int)/2).toNat=n/2 by omega];push_cast;omega
 ·rw[if_neg h2,if_pos (by omega)];rfl
theorem Qai:∀(k:Nat) (x:Int),(2:Int)^k<=x->X5 x=k+X5 (x/2^k)
 |0,x,_=>by simp
 |k+1,x,h=>by
  rw[L3]at h;have hp:(0:Int)<2^k:=K2 (by omega);have h1:(2:Int)^k<=x/2:=by omega
  rw[Qqb (by omega),Qai k (x/2) h1,L3,M0,Kt (by omega)]
  push_cast;omega
theorem Qap(x:Int):0<=X5 x:=by unfold X5;split <;> omega
theorem Jh:∀(k:Nat) (x:Int),0<=x->x<2^k->X5 x<=k
 |0,x,h0,h=>by simp at h;unfold X5;rw[if_pos (by omega)];omega
 |k+1,x,h0,h=>by
  by_cases h1:1<=x
  ·rw[Qqb h1];rw[L3]at h;have:=Jh k (x/2) (by omega) (by omega)
   push_cast;omega
  ·unfold X5;rw[if_pos (by omega)];omega
theorem Qil:∀(k:Nat) (x:Int),(2:Int)^k<=x->k<X5 x
 |k,x,h=>by
  have hp:(0:Int)<2^k:=K2 (by omega);rw[Qai k x h];have:1<=x/2^k:=Int.le_ediv_of_mul_le hp (by omega);rw[Qqb this];have:=Qap (x/2^k/2);omega
def Ziq:Qq:=(.l 1 .bit (.cmp .geq (.v 0) (.lit 4294967296))
(.split 1
(.l 2 kU (.bin .shr .u64 (.v 0) (.lit 32))
(.l 3 .bit (.cmp .geq (.v 2) (.lit 65536))
(.split 3
(.l 4 kU (.bin .shr .u64 (.v 2) (.lit 16))
(.l 5 .bit (.cmp .geq (.v 4) (.lit 256))
(.split 5
(.l 6 kU (.bin .shr .u64 (.v 4) (.lit 8))
(.l 7 kB (.conv .u8 (.v 6))
(.l 8 .bit (.cmp .leq (.lit 0) (.v 7))
(.l 9 .bit (.cmp .lss (.v 7) (.lit 256))
(.l 10 kB (.sel (.v 7) Qiu)
(.nz (.v 8)
(.nz (.v 9)
(.l 11 kI (.bin .add .i64 (.lit 56) (.v 10))
(.ret [.v 11])))))))))
(.l 6 kB (.conv .u8 (.v 4))
(.l 7 .bit (.cmp .leq (.lit 0) (.v 6))
(.l 8 .bit (.cmp .lss (.v 6) (.lit 256))
(.l 9 kB (.sel (.v 6) Qiu)
(.nz (.v 7)
(.nz (.v 8)
(.l 10 kI (.bin .add .i64 (.lit 48) (.v 9))
(.ret [.v 10])))))))))))
(.l 4 .bit (.cmp .geq (.v 2) (.lit 256))
(.split 4
(.l 5 kU (.bin .shr .u64 (.v 2) (.lit 8))
(.l 6 kB (.conv .u8 (.v 5))
(.l 7 .bit (.cmp .leq (.lit 0) (.v 6))
(.l 8 .bit (.cmp .lss (.v 6) (.lit 256))
(.l 9 kB (.sel (.v 6) Qiu)
(.nz (.v 7)
(.nz (.v 8)
(.l 10 kI (.bin .add .i64 (.lit 40) (.v 9))
(.ret [.v 10])))))))))
(.l 5 kB (.conv .u8 (.v 2))
(.l 6 .bit (.cmp .leq (.lit 0) (.v 5))
(.l 7 .bit (.cmp .lss (.v 5) (.lit 256))
(.l 8 kB (.sel (.v 5) Qiu)
(.nz (.v 6)
(.nz (.v 7)
(.l 9 kI (.bin .add .i64 (.lit 32) (.v 8))
(.ret [.v 9])))))))))))))
(.l 2 .bit (.cmp .geq (.v 0) (.lit 65536))
(.split 2
(.l 3 kU (.bin .shr .u64 (.v 0) (.lit 16))
(.l 4 .bit (.cmp .geq (.v 3) (.lit 256))
(.split 4
(.l 5 kU (.bin .shr .u64 (.v 3) (.lit 8))
(.l 6 kB (.conv .u8 (.v 5))
(.l 7 .bit (.cmp .leq (.lit 0) (.v 6))
(.l 8 .bit (.cmp .lss (.v 6) (.lit 256))
(.l 9 kB (.sel (.v 6) Qiu)
(.nz (.v 7)
(.nz (.v 8)
(.l 10 kI (.bin .add .i64 (.lit 24) (.v 9))
(.ret [.v 10])))))))))
(.l 5 kB (.conv .u8 (.v 3))
(.l 6 .bit (.cmp .leq (.lit 0) (.v 5))
(.l 7 .bit (.cmp .lss (.v 5) (.lit 256))
(.l 8 kB (.sel (.v 5) Qiu)
(.nz (.v 6)
(.nz (.v 7)
(.l 9 kI (.bin .add .i64 (.lit 16) (.v 8))
(.ret [.v 9])))))))))))
(.l 3 .bit (.cmp .geq (.v 0) (.lit 256))
(.split 3
(.l 4 kU (.bin .shr .u64 (.v 0) (.lit 8))
(.l 5 kB (.conv .u8 (.v 4))
(.l 6 .bit (.cmp .leq (.lit 0) (.v 5))
(.l 7 .bit (.cmp .lss (.v 5) (.lit 256))
(.l 8 kB (.sel (.v 5) Qiu)
(.nz (.v 6)
(.nz (.v 7)
(.l 9 kI (.bin .add .i64 (.lit 8) (.v 8))
(.ret [.v 9])))))))))
(.l 4 kB (.conv .u8 (.v 0))
(.l 5 .bit (.cmp .leq (.lit 0) (.v 4))
(.l 6 .bit (.cmp .lss (.v 4) (.lit 256))
(.l 7 kB (.sel (.v 4) Qiu)
(.nz (.v 5)
(.nz (.v 6)
(.l 8 kI (.bin .add .i64 (.lit 0) (.v 7))
(.ret [.v 8]))))))))))))))
theorem Jy{e:Nat->Int}{x v w t r c:Int}(k:Nat)(hx:0<=x)(hv:v=x/2^k)(h0:0<=v)(h1:v<256)(h2:k=0∨(2:Int)^k<=x)(hw:w=wr .u8 v)(ht:t=(Qiu.map (·.ev e)).getD w.toNat 0)(hk:k<=56)(hc:c=k)(hr:r=Qm .add .i64 c t):r=X5 x:=by
 have hw':w=v:=by simp only[wr]at hw;omega
 obtain⟨n,hn⟩:=Oz h0;rw[hw',hn,Mi,Zo6 n (by omega),<- hn]at ht;have hb:X5 v<=8:=Jh 8 v h0 (by rw[show(2:Int)^8=256 from rfl];exact h1);have hb0:=Qap v;have:X5 x=k+X5 v:=by
  rcases h2 with h2|h2
  ·subst h2;simp at hv;rw[hv];simp
  ·rw[hv];exact Qai k x h2
 rw[hr,this,<- ht,hc];simp only[Qm,wr];omega
theorem Xf{v w:Int}(h:v=Xo (Js .leq 0 w))(hw:0<=w):v≠0:=by have:=Yv h;omega
theorem Xi{v w b:Int}(h:v=Xo (Js .lss w b))(hw:w<b):v≠0:=by have:=Zj h;omega
theorem Zdb(f:FuncId)(e:Nat->Int)(hk:Q0 [.int .u64] [e 0]):Ziq.Xat [] ⟨fun ys=>ys=(Uv f).sem [e 0],[]⟩ e:=by
 have hx:=Zb hk.1;have p8:(2:Int)^8=256:=rfl;have p16:(2:Int)^16=65536:=rfl;have p24:(2:Int)^24=16777216:=rfl;have p32:(2:Int)^32=4294967296:=rfl;have p40:(2:Int)^40=1099511627776:=rfl;have p48:(2:Int)^48=281474976710656:=rfl;have p56:(2:Int)^56=72057594037927936:=rfl;simp only[Ziq,Uv,Qq.Xat,xw,xws,Nat.reduceAdd,O0,O3,List.map,Qn,Ql,Qp,D.ev,O4,O9];intro a1 _;have b1:=Qdf a1;refine⟨fun n1=>?_,fun n1=>?_⟩
 ·intro a2 _ a3 _;have d2:=Vv 4294967296 a2 rfl (by decide);have b3:=Qdf a3;refine⟨fun n3=>?_,fun n3=>?_⟩
  ·intro a4 _ a5 _;have d4:=Vv 65536 a4 rfl (by decide);have b5:=Qdf a5;refine⟨fun n5=>?_,fun n5=>?_⟩
   ·intro a6 _ a7 _ a8 _ a9 _ a10 _;have d6:=Vv 256 a6 rfl (by decide);have h7:e 7=e 6:=by simp only[wr]at a7;omega
    refine⟨Xf a8 (by omega),Xi a9 (by omega),fun a11 _=>?_⟩;rw[Jy (x:=e 0) 56 hx.1 (by omega) (by omega) (by omega) (.inr (by omega)) a7 a10 (by omega) rfl a11]
   ·intro a6 _ a8 _ a9 _ a10 _;have h7:e 6=e 4:=by simp only[wr]at a6;omega
    refine⟨Xf a8 (by omega),Xi a9 (by omega),fun a11 _=>?_⟩;rw[Jy (x:=e 0) 48 hx.1 (by omega) (by omega) (by omega) (.inr (by omega)) a6 a10 (by omega) rfl a11]
  ·intro a5 _;have b5:=Qdf a5;refine⟨fun n5=>?_,fun n5=>?_⟩
   ·intro a6 _ a7 _ a8 _ a9 _ a10 _;have d6:=Vv 256 a6 rfl (by decide);have h7:e 6=e 5:=by simp only[wr]at a7;omega
    refine⟨Xf a8 (by omega),Xi a9 (by omega),fun a11 _=>?_⟩;rw[Jy (x:=e 0) 40 hx.1 (by omega) (by omega) (by omega) (.inr (by omega)) a7 a10 (by omega) rfl a11]
   ·intro a6 _ a8 _ a9 _ a10 _;have h7:e 5=e 2:=by simp only[wr]at a6;omega
    refine⟨Xf a8 (by omega),Xi a9 (by omega),fun a11 _=>?_⟩;rw[Jy (x:=e 0) 32 hx.1 (by omega) (by omega) (by omega) (.inr (by omega)) a6 a10 (by omega) rfl a11]
 ·intro a3 _;have b3:=Qdf a3;refine⟨fun n3=>?_,fun n3=>?_⟩
  ·intro a4 _ a5 _;have d4:=Vv 65536 a4 rfl (by decide);have b5:=Qdf a5;refine⟨fun n5=>?_,fun n5=>?_⟩
   ·intro a6 _ a7 _ a8 _ a9 _ a10 _;have d6:=Vv 256 a6 rfl (by decide);have h7:e 6=e 5:=by simp only[wr]at a7;omega
    refine⟨Xf a8 (by omega),Xi a9 (by omega),fun a11 _=>?_⟩;rw[Jy (x:=e 0) 24 hx.1 (by omega) (by omega) (by omega) (.inr (by omega)) a7 a10 (by omega) rfl a11]
   ·intro a6 _ a8 _ a9 _ a10 _;have h7:e 5=e 3:=by simp only[wr]at a6;omega
    refine⟨Xf a8 (by omega),Xi a9 (by omega),fun a11 _=>?_⟩;rw[Jy (x:=e 0) 16 hx.1 (by omega) (by omega) (by omega) (.inr (by omega)) a6 a10 (by omega) rfl a11]
  ·intro a5 _;have b5:=Qdf a5;refine⟨fun n5=>?_,fun n5=>?_⟩
   ·intro a6 _ a7 _ a8 _ a9 _ a10 _;have d6:=Vv 256 a6 rfl (by decide);have h7:e 5=e 4:=by simp only[wr]at a7;omega
    refine⟨Xf a8 (by omega),Xi a9 (by omega),fun a11 _=>?_⟩;rw[Jy (x:=e 0) 8 hx.1 (by omega) (by omega) (by omega) (.inr (by omega)) a7 a10 (by omega) rfl a11]
   ·intro a6 _ a8 _ a9 _ a10 _;have h7:e 4=e 0:=by simp only[wr]at a6;omega
    refine⟨Xf a8 (by omega),Xi a9 (by omega),fun a11 _=>?_⟩;rw[Jy (x:=e 0) 0 hx.1 (by simp) (by omega) (by omega) (.inl rfl) a6 a10 (by omega) rfl a11]
set_option maxRecDepth 100000
theorem Zzg:(2:Int)^320=2135987035920910082395021706169552114602704522356652769947041607822219725780640550022962086936576:=by decide +kernel
theorem Zzi:(2:Int)^256=115792089237316195423570985008687907853269984665640564039457584007913129639936:=by decide +kernel
theorem Zyu:(2:Int)^192=6277101735386680763835789423207666416102355444464034512896:=by decide +kernel
theorem Zvx:(2:Int)^128=340282366920938463463374607431768211456:=by decide +kernel
theorem Qsc:(2:Int)^64=18446744073709551616:=by decide +kernel
theorem Ztv:(2:Int)^382=9850501549098619803069760025035903451269934817616361666987073351061430442874302652853566563721228910201656997576704:=by decide +kernel
theorem Bq{x l r c t:Int}(k:Nat)(h1:x/2^k=l)(h2:1<=l)(hl:U l)(hc:c=k)(hk:k<=320)(ht:t=X5 l)(hr:r=Qm .add .i64 c t):r=X5 x:=by
 have hp:(0:Int)<2^k:=K2 (by omega);have:(2:Int)^k<=x:=by
  have:=Int.mul_le_of_le_ediv (a:=1) hp (show(1:Int)<=x/2^k by omega);omega
 rw[Qai k x this,h1];have b0:=Qap l;have b1:=Jh 64 l hl.1 (by rw[Qsc];exact hl.2);rw[hr,hc,ht];simp only[Qm,wr];omega
def Zpt:Qq:=(.l 1 .bit (.cmp .neq (.m 0 5) (.lit 0))
(.split 1
(xw 0 [.m 0 5] 2 [kI]
(.l 3 kI (.bin .add .i64 (.lit 320) (.v 2))
(.ret [.v 3])))
(.l 2 .bit (.cmp .neq (.m 0 4) (.lit 0))
(.split 2
(xw 0 [.m 0 4] 3 [kI]
(.l 4 kI (.bin .add .i64 (.lit 256) (.v 3))
(.ret [.v 4])))
(.l 3 .bit (.cmp .neq (.m 0 3) (.lit 0))
(.split 3
(xw 0 [.m 0 3] 4 [kI]
(.l 5 kI (.bin .add .i64 (.lit 192) (.v 4))
(.ret [.v 5])))
(.l 4 .bit (.cmp .neq (.m 0 2) (.lit 0))
(.split 4
(xw 0 [.m 0 2] 5 [kI]
(.l 6 kI (.bin .add .i64 (.lit 128) (.v 5))
(.ret [.v 6])))
(.l 5 .bit (.cmp .neq (.m 0 1) (.lit 0))
(.split 5
(xw 0 [.m 0 1] 6 [kI]
(.l 7 kI (.bin .add .i64 (.lit 64) (.v 6))
(.ret [.v 7])))
(.l 6 .bit (.cmp .neq (.m 0 0) (.lit 0))
(.split 6
(xw 0 [.m 0 0] 7 [kI]
(.l 8 kI (.bin .add .i64 (.lit 0) (.v 7))
(.ret [.v 8])))
(.ret [.lit 0])))))))))))))
theorem Zia(f1 f:FuncId)(e:Nat->Int)(hk:Q0 [.num] [e 0]):Zpt.Xat [Uv f1] ⟨fun ys=>ys=(Qml f).sem [e 0],[]⟩ e:=by
 have hx:=hk.1;have ex:=Z4 hx;have l0:=Qt (e 0) 0;have l1:=Qt (e 0) 1;have l2:=Qt (e 0) 2;have l3:=Qt (e 0) 3;have l4:=Qt (e 0) 4;have l5:=Qt (e 0) 5;simp only[Zpt,Uv,Qml,Qq.Xat,xw,xws,Nat.reduceAdd,O0,O3,List.map,Qn,Ql,Qp,D.ev,O4,O9];generalize Q1 (e 0) 0=x0 at *
 generalize Q1 (e 0) 1=x1 at *
 generalize Q1 (e 0) 2=x2 at *
 generalize Q1 (e 0) 3=x3 at *
 generalize Q1 (e 0) 4=x4 at *
 generalize Q1 (e 0) 5=x5 at *
 have q5:e 0/2^320=x5:=by rw[Zzg];omega
 intro a _;have b:=Qfl a;refine⟨fun n=>⟨trivial,fun a2 _ a3 _=>by rw[Bq 320 q5 (by omega) l5 rfl (by omega) a2 a3]⟩,fun n=>?_⟩;have z5:x5=0:=by omega
 have q4:e 0/2^256=x4:=by rw[Zzi];omega
 clear q5 a b n;intro a _;have b:=Qfl a;refine⟨fun n=>⟨trivial,fun a2 _ a3 _=>by rw[Bq 256 q4 (by omega) l4 rfl (by omega) a2 a3]⟩,fun n=>?_⟩;have z4:x4=0:=by omega
 have q3:e 0/2^192=x3:=by rw[Zyu];omega
 clear q4 a b n;intro a _;have b:=Qfl a;refine⟨fun n=>⟨trivial,fun a2 _ a3 _=>by rw[Bq 192 q3 (by omega) l3 rfl (by omega) a2 a3]⟩,fun n=>?_⟩;have z3:x3=0:=by omega
 have q2:e 0/2^128=x2:=by rw[Zvx];omega
 clear q3 a b n;intro a _;have b:=Qfl a;refine⟨fun n=>⟨trivial,fun a2 _ a3 _=>by rw[Bq 128 q2 (by omega) l2 rfl (by omega) a2 a3]⟩,fun n=>?_⟩;have z2:x2=0:=by omega
 have q1:e 0/2^64=x1:=by rw[Qsc];omega
 clear q2 a b n;intro a _;have b:=Qfl a;refine⟨fun n=>⟨trivial,fun a2 _ a3 _=>by rw[Bq 64 q1 (by omega) l1 rfl (by omega) a2 a3]⟩,fun n=>?_⟩;have z1:x1=0:=by omega
 clear q1 a b n;intro a _;have b:=Qfl a;refine⟨fun n=>⟨trivial,fun a2 _ a3 _=>by rw[Bq 0 (x:=e 0) (by simp;omega) (by omega) l0 rfl (by omega) a2 a3]⟩,fun n=>?_⟩;have z0:e 0=0:=by omega
 rw[z0];rfl
theorem Qyr{x:Int}(j:Nat):Q1 x j=x/2^(64*j)%18446744073709551616:=by
 unfold Q1 p64;rw[Kj];rfl
theorem Zs2{x l:Int}{q r:Nat}(hr:r<64)(hl:l=x/2^(64*q)%18446744073709551616):l/2^r%2=x/2^(64*q+r)%2:=by
 rw[Kz,<- Kt (Int.pow_nonneg (by omega))];generalize x/2^(64*q)=X at *
 have h1:X=l+18446744073709551616*(X/18446744073709551616):=by omega
 have hp:(0:Int)<2^r:=K2 (by omega);have h2:(18446744073709551616:Int)=2^r*(2*2^(63-r)):=by
  rw[<- Qsc,show(2:Int)*2^(63-r)=2^(64-r) by rw[<- Int.pow_succ'];congr 1;omega,<- Kz];congr 1;omega
 have h3:X/2^r=l/2^r+2*(2^(63-r)*(X/18446744073709551616)):=by
  conv=>lhs;rw[h1,h2,show 2^r*(2*2^(63-r))*(X/(2^r*(2*2^(63-r))))=2^r*(2*(2^(63-r)*(X/(2^r*(2*2^(63-r)))))) by simp only[K9]]
  rw[Int.add_mul_ediv_left _ _ (by omega),<- h2]
 rw[h3];omega
theorem Qz3{e:Nat->Int}{a i q s r v w z:Int}(hi:0<=i/\i<384)(ha:0<=a/\a<Qw)(q':q=i/64)(hs:s=([(Q1 a 0),(Q1 a 1),(Q1 a 2),(Q1 a 3),(Q1 a 4),(Q1 a 5)]:List Int).getD q.toNat 0)
  (hr':r=i%64) (hv:v=Qm .shr .u64 s r) (hw:w=Qm .and .u64 v 1) (hz:z=wr .i64 w):z=a/2^i.toNat%2:=by
 have hsl:s=Q1 a q.toNat:=by
  have:q=0∨q=1∨q=2∨q=3∨q=4∨q=5:=by omega
  rw[hs];rcases this with h|h|h|h|h|h <;> rw[h] <;> rfl
 have hU:=Qt a q.toNat;rw[<- hsl]at hU;have hrn:r=((r.toNat:Nat):Int):=by omega
 have hv':v=s/2^r.toNat:=by
  rw[hv];simp only[Qm];rw[show min r.toNat IntKind.u64.bits=r.toNat by show min r.toNat 64=_;omega,Kj];exact Kl _ (Int.pow_nonneg (by decide))
 have hp:(0:Int)<2^r.toNat:=K2 (by omega);have hvU:U v:=by
  rw[hv'];exact⟨M9 hU.1 (by omega),Int.lt_of_le_of_lt (K7 _ hU.1) hU.2⟩
 have hw':w=v%2:=by rw[hw];exact Qi6 v 1 (by omega) hvU
 have hz':z=w:=by simp only[wr]at hz;omega
 rw[hz',hw',hv',Zs2 (q:=q.toNat) (by omega) (by rw[hsl];exact Qyr _)];congr 3;omega
def Zwu:Qq:=(.l 2 .bit (.cmp .lss (.v 1) (.lit 0))
(.split 2
(.ret [.lit 0])
(.l 3 .bit (.cmp .geq (.v 1) (.lit 384))
(.split 3
(.ret [.lit 0])
(.l 4 kI (.bin .shr .i64 (.v 1) (.lit 6))
(.l 5 .bit (.cmp .leq (.lit 0) (.v 4))
(.l 6 .bit (.cmp .lss (.v 4) (.lit 6))
(.nz (.v 5)
(.nz (.v 6)
(.l 7 kU (.sel (.v 4) [.m 0 0,.m 0 1,.m 0 2,.m 0 3,.m 0 4,.m 0 5])
(.l 8 kI (.bin .and .i64 (.v 1) (.lit 63))
(.l 9 .bit (.cmp .leq (.lit 0) (.v 8))
(.l 10 kU (.bin .shr .u64 (.v 7) (.v 8))
(.nz (.v 9)
(.l 11 kU (.bin .and .u64 (.v 10) (.lit 1))
(.l 12 kI (.conv .i64 (.v 11))
(.ret [.v 12])))))))))))))))))
theorem Zvr{i q r v9 v5 v6:Int}(hi:0<=i/\i<384)(hq:q=Qm .shr .i64 i 6)(h5:v5=Xo (Js .leq 0 q))(h6:v6=Xo (Js .lss q 6)):v5≠0/\v6≠0:=by
 have q':=Vv 64 hq rfl (by decide);exact⟨Xf h5 (by omega),Xi h6 (by omega)⟩
theorem Zwe{i r:Int}(hi:0<=i/\i<384)(hr:r=Qm .and .i64 i 63):r=i%64:=by
 obtain⟨n,hn⟩:=Oz hi.1;have hlt:n<2^64:=by omega
 rw[hr];show wr .i64 ((BitVec.ofInt 64 i &&& BitVec.ofInt 64 63).toNat:Int)=_;rw[hn,show(63:Int)=((63:Nat):Int)from rfl,BitVec.ofInt_natCast,BitVec.ofInt_natCast,BitVec.toNat_and,BitVec.toNat_ofNat,BitVec.toNat_ofNat,He hlt,show 63%2^64=2^6-1 from rfl,Nat.and_two_pow_sub_one_eq_mod];simp only[wr];omega
theorem Zmc(f:FuncId)(e:Nat->Int)(hk:Q0 [.num,.int .i64] [e 0,e 1]):Zwu.Xat [] ⟨fun ys=>ys=(Zms f).sem [e 0,e 1],[]⟩ e:=by
 have hx:=hk.1;simp only[Zwu,Zms,Qq.Xat,xw,xws,Nat.reduceAdd,O0,O3,List.map,Qn,Ql,Qp,D.ev,O4,O9];intro a2 _;have b2:=Zj a2;refine⟨fun n=>by rw[if_neg (by omega)],fun n2=>?_⟩;intro a3 _;have b3:=Qdf a3;refine⟨fun n=>by rw[if_neg (by omega)],fun n3=>?_⟩;intro a4 _ a5 _ a6 _;have hi:0<=e 1/\e 1<384:=by omega
 obtain⟨g1,g2⟩:=Zvr (r:=0) (v9:=0) hi a4 a5 a6;have h4:=Vv 64 a4 rfl (by decide);refine⟨g1,g2,fun a7 _ a8 _ a9 _ a10 _=>?_⟩;have h8:=Zwe hi a8;refine⟨Xf a9 (by rw[h8];exact Mw _ (by decide)),fun a11 _ a12 _=>?_⟩;rw[if_pos hi,Qz3 (e:=e) hi hx h4 a7 h8 a10 a11 a12]
theorem Qbl{k:Nat}{v a b q:Int}(h:v=Qm .or .u64 a b)(ha:a=q*(2^k:Nat))(hq:0<=q)(hb:0<=b/\b<(2^k:Nat))(hab:a+b<18446744073709551616):v=a+b:=by
 obtain⟨n,hn⟩:=Oz hq;obtain⟨m,hm⟩:=Oz hb.1;have ha':a=((2^k*n:Nat):Int):=by rw[ha,hn,Nat.mul_comm];simp
 have hlt:2^k*n+m<2^64:=by rw[ha',hm]at hab;omega
 rw[h];show wr .u64 ((BitVec.ofInt 64 a ||| BitVec.ofInt 64 b).toNat:Int)=_;rw[ha',hm,BitVec.ofInt_natCast,BitVec.ofInt_natCast,BitVec.toNat_or,BitVec.toNat_ofNat,BitVec.toNat_ofNat,He (by omega),He (by omega),<- Nat.two_pow_add_eq_or_of_lt (by rw[hm]at hb;omega)];simp only[wr];omega
theorem Zj7{v s r lj lp:Int}(h:v=Qm .or .u64 s r)(hs:s=Qm .shl .u64 lj 1)(hr:r=Qm .shr .u64 lp 63)(uj:U lj)(up:U lp):v=2*lj%18446744073709551616+lp/9223372036854775808:=by
 have h1:=Qk7 2 hs rfl;have h2:=Vv 9223372036854775808 hr (by decide) (by decide);unfold U at *
 simp only[wr]at h1;rw[Qbl (k:=1) (q:=lj%9223372036854775808) h (by omega) (by omega) (by omega) (by omega)];omega
theorem Uz{v s r ln lj:Int}(h:v=Qm .or .u64 s r)(hs:s=Qm .shl .u64 ln 63)(hr:r=Qm .shr .u64 lj 1)(un:U ln)(uj:U lj):v=ln%2*9223372036854775808+lj/2:=by
 have h1:=Qk7 9223372036854775808 hs (by decide);have h2:=Vv 2 hr rfl (by decide);unfold U at *
 simp only[wr]at h1;rw[Qbl (k:=63) (q:=ln%2) h (by omega) (by omega) (by omega) (by omega)];omega
theorem Zsi{v r lj:Int}(h:v=Qm .or .u64 0 r)(hr:r=Qm .shr .u64 lj 1)(uj:U lj):v=lj/2:=by
 have h2:=Vv 2 hr rfl (by decide);unfold U at *
 rw[Qbl (k:=63) (q:=0) h (by omega) (by omega) (by omega) (by omega)];omega
theorem Qkp{v x:Int}(h:v=Qm .and .u64 x 1)(hx:U x):v=x%2:=by rw[h];exact Qi6 x 1 (by omega) hx
set_option maxRecDepth 100000
theorem mOk.odd{n low:Int}(h:mOk n low):n%2=1:=Zez h.1
theorem mOk.Xbl{n low:Int}(h:mOk n low):low≠0:=fun h0=>by have:=h.1;rw[h0]at this;simp at this
theorem mOk.lt{n low:Int}(h:mOk n low):2*n<Qw:=by have:=h.2.2;rw[Ztv]at this;unfold Qw;omega
theorem RR{n:Int}(h:n%2=1):∃z,Xc n*Zm n^384*Zm n^384=1+n*z:=by
 obtain⟨z,hz⟩:=Qk4 h;obtain⟨y,hy⟩:=Y1 (x:=(2:Int)^768) (n:=n);refine⟨?_,?_⟩
 ·exact 2*z+n*z*z+y*(Zm n^384*Zm n^384)
 ·unfold Xc;rw[hy,show(2:Int)^768=Qw*Qw by decide +kernel];generalize Zm n^384=I at *
  generalize Qw=R at *
  have:(R*I)*(R*I)=(1+n*z)*(1+n*z):=by rw[hz]
  grind
theorem RR1{n:Int}(h:n%2=1):∃z,Xc n*Zm n^384=Qw+n*z:=by
 obtain⟨z,hz⟩:=Qk4 h;obtain⟨y,hy⟩:=Y1 (x:=(2:Int)^768) (n:=n);refine⟨?_,?_⟩
 ·exact Qw*z+y*Zm n^384
 ·unfold Xc;rw[hy,show(2:Int)^768=Qw*Qw by decide +kernel];generalize Zm n^384=I at *
  generalize Qw=R at *
  have:R*(R*I)=R*(1+n*z):=by rw[hz]
  grind
theorem Zi5{n a b:Int}(h:n%2=1):Yp n (Yp n a (Xc n)) b=a*b%n:=by
 obtain⟨z,hz⟩:=RR h;obtain⟨y,hy⟩:=Y1 (x:=a*Xc n*Zm n^384) (n:=n);show(a*Xc n*Zm n^384%n)*b*Zm n^384%n=_;rw[hy];refine md (a*b*z+y*b*Zm n^384) ?_;generalize Zm n^384=I at *
 generalize Xc n=w at *
 have:a*b*(w*I*I)=a*b*(1+n*z):=by rw[hz]
 grind
theorem Zjw{n a:Int}(h:n%2=1):Yp n (Yp n a (Xc n)) 1=a%n:=by rw[Zi5 h,Hg]
theorem Ze3{n a b:Int}(h:0<n):0<=Yp n a b/\Yp n a b<n:=Zo h
theorem Qo5{n:Int}(h:0<n):0<=Xc n/\Xc n<n:=Zo h
def tOf:Qq:=(.l 1 .num (.join [.v 0,.lit 0,.lit 0,.lit 0,.lit 0,.lit 0])
(.ret [.v 1]))
theorem Zue(f:FuncId)(e:Nat->Int)(hk:Q0 [.int .u64] [e 0]):tOf.Xat [] ⟨fun ys=>ys=(kOf f).sem [e 0],[]⟩ e:=by
 simp only[tOf,kOf,Qq.Xat,xw,xws,Nat.reduceAdd,O0,O3,List.map,Qn,Ql,Qp,D.ev,O4,O9];intro a _;rw[a];simp[Y6]
def Qxn:Qq:=(.l 4 .bit (.cmp .eql (.v 1) (.lit 0))
(.split 4
(.ret [.lit 0])
(xw 0 [.v 3,.v 0] 245 [kI]
(.l 293 .bit (.cmp .lss (.v 245) (.lit 0))
(.split 293
(.ret [.v 3])
(xw 1 [.v 0,.v 1,.v 2,.v 3,.v 2] 677 Z7
(xw 2 [.lit 1] 725 Z7
(xw 1 [.v 0,.v 1,.v 2,.v 677,.v 725] 773 Z7
(.ret [.v 773])))))))))
theorem Qv7(f1 f2 f3 f:FuncId)(e:Nat->Int)(hk:Q0 [.num,.int .u64,.num,.num] [e 0,e 1,e 2,e 3])(hp:(Jn f).pre [e 0,e 1,e 2,e 3]):Qxn.Xat [Vt f1,Qms f2,kOf f3] ⟨fun ys=>ys=(Jn f).sem [e 0,e 1,e 2,e 3],[]⟩ e:=by
 obtain⟨h0,h1,h2,h3,_⟩:=hk;obtain⟨hm,hw⟩:=hp;have hn:=hm.2.1;simp only[KK.has]at h3;simp only[Qxn,Jn,Vt,Qms,kOf,Qq.Xat,xw,xws,Nat.reduceAdd,O0,O3,List.map,Qn,Ql,Qp,D.ev,O4,O9];intro a _;have b:=Zy a;have:=hm.Xbl;refine⟨fun n=>by omega,fun n=>⟨trivial,fun a1 _ a2 _=>?_⟩⟩;have b2:=Zj a2;refine⟨fun n=>?_,fun n=>?_⟩
 ·have:e 3<e 0:=by
   by_cases hc:e 3<e 0
   ·exact hc
   ·rw[if_neg hc]at a1;split at a1 <;> omega
  rw[Oy h3.1 this]
 ·have hwl:=Qo5 (n:=e 0) (by omega);refine⟨⟨hm,.inr (by rw[hw];exact hwl.2)⟩,fun a3 _=>⟨trivial,fun a4 _=>⟨⟨hm,.inl (by rw[a3];exact(Ze3 (by omega)).2)⟩,fun a5 _=>?_⟩⟩⟩;rw[a5,a4,a3,hw,Zjw hm.odd]
theorem Zv6{n a b:Int}:(a%n+b%n)%n=(a+b)%n:=by rw[Int.add_emod_emod,Hj]
theorem Zqs{n a b:Int}:(a%n-b%n)%n=(a-b)%n:=by rw[Int.sub_emod_emod,Int.emod_sub_emod]
def Zqi:Qq:=(.l 5 .bit (.cmp .eql (.v 1) (.lit 0))
(.split 5
(.ret [.lit 0])
(xw 0 [.v 0,.v 1,.v 2,.v 3] 102 Z7
(xw 0 [.v 0,.v 1,.v 2,.v 4] 246 Z7
(xw 1 [.v 102,.v 246] 294 qha
(xw 2 [.v 0,.v 1,.v 2,.v 294] 630 Z7
(.ret [.v 630])))))))
theorem Zf1(f1 f2 f3 f:FuncId)(e:Nat->Int)(hk:Q0 [.num,.int .u64,.num,.num,.num] [e 0,e 1,e 2,e 3,e 4])(hp:(Qnl f).pre [e 0,e 1,e 2,e 3,e 4]):Zqi.Xat [Jn f1,Qcq f2,Qg2 f3] ⟨fun ys=>ys=(Qnl f).sem [e 0,e 1,e 2,e 3,e 4],[]⟩ e:=by
 obtain⟨hm,hw⟩:=hp;have hn:=hm.2.1;have hl:=hm.lt;simp only[Zqi,Jn,Qcq,Qg2,Qnl,Qq.Xat,xw,xws,Nat.reduceAdd,O0,O3,List.map,Qn,Ql,Qp,D.ev,O4,O9];intro a _;have b:=Zy a;have:=hm.Xbl;refine⟨fun n=>by omega,fun n=>⟨⟨hm,hw⟩,fun a1 _=>⟨⟨hm,hw⟩,fun a2 _=>⟨trivial,fun a3 _ a4 _=>⟨trivial,fun a5 _=>?_⟩⟩⟩⟩⟩;have m1:=Zo (x:=e 3) (n:=e 0) (by omega);have m2:=Zo (x:=e 4) (n:=e 0) (by omega);rw[<- a1]at m1;rw[<- a2]at m2;rw[Oy (by omega) (by omega)]at a3;rw[a5,<- Zv6,<- a1,<- a2,<- a3];congr 1;split
 ·exact(J1 1 (by omega) (by omega) (by omega)).symm
 ·exact(Oy (by omega) (by omega)).symm
def Zpw:Qq:=(.l 5 .bit (.cmp .eql (.v 1) (.lit 0))
(.split 5
(.ret [.lit 0])
(xw 0 [.v 0,.v 1,.v 2,.v 3] 102 Z7
(xw 0 [.v 0,.v 1,.v 2,.v 4] 246 Z7
(xw 1 [.v 102,.v 246] 294 qha
(.split 295
(xw 2 [.v 294,.v 0] 870 qha
(.ret [.v 870]))
(.ret [.v 294])))))))
theorem Zfp(f1 f2 f3 f:FuncId)(e:Nat->Int)(hk:Q0 [.num,.int .u64,.num,.num,.num] [e 0,e 1,e 2,e 3,e 4])(hp:(Qnj f).pre [e 0,e 1,e 2,e 3,e 4]):Zpw.Xat [Jn f1,Qe0 f2,Qcq f3] ⟨fun ys=>ys=(Qnj f).sem [e 0,e 1,e 2,e 3,e 4],[]⟩ e:=by
 obtain⟨hm,hw⟩:=hp;have hn:=hm.2.1;have hl:=hm.lt;simp only[Zpw,Jn,Qe0,Qcq,Qnj,Qq.Xat,xw,xws,Nat.reduceAdd,O0,O3,List.map,Qn,Ql,Qp,D.ev,O4,O9];intro a _;have b:=Zy a;have:=hm.Xbl;refine⟨fun n=>by omega,fun n=>⟨⟨hm,hw⟩,fun a1 _=>⟨⟨hm,hw⟩,fun a2 _=>⟨trivial,fun a3 _ a4 _=>?_⟩⟩⟩⟩;have m1:=Zo (x:=e 3) (n:=e 0) (by omega);have m2:=Zo (x:=e 4) (n:=e 0) (by omega);rw[<- a1]at m1;rw[<- a2]at m2;simp only[bi]at a4;have hN:(0:Int)<Qw:=by unfold Qw;omega
 refine⟨fun hs=>⟨trivial,fun a5 _ a6 _=>?_⟩,fun hs=>?_⟩
 ·have hc:e 102<e 246:=by
   by_cases hc:e 102<e 246
   ·exact hc
   ·rw[if_neg hc]at a4;omega
  have h3:e 294=e 102-e 246+Qw:=by
   rw[a3];exact J1 (-1) (by omega) (by omega) (by omega)
  rw[a5,<- Zqs,<- a1,<- a2];congr 1;rw[h3,show e 102-e 246+Qw+e 0=e 102-e 246+e 0+Qw*1 by omega,Ho,Oy (by omega) (by omega)];exact(J1 (-1) (by omega) (by omega) (by omega)).symm
 ·have hc:¬e 102<e 246:=fun hc=>by rw[if_pos hc]at a4;omega
  have h3:e 294=e 102-e 246:=by rw[a3];exact Oy (by omega) (by omega)
  rw[h3,<- Zqs,<- a1,<- a2];congr 1;exact(Oy (by omega) (by omega)).symm
def Zp5:Qq:=(.l 4 kU (.bin .and .u64 (.m 3 0) (.lit 1))
(.l 5 .bit (.cmp .eql (.v 4) (.lit 1))
(.split 5
(xw 0 [.v 3,.v 0] 246 qha
(.l 486 kU (.bin .shl .u64 (.m 246 1) (.lit 63))
(.l 871 kU (.bin .shr .u64 (.m 246 0) (.lit 1))
(.l 919 kU (.bin .or .u64 (.v 486) (.v 871))
(.l 1063 kU (.bin .shl .u64 (.m 246 2) (.lit 63))
(.l 1448 kU (.bin .shr .u64 (.m 246 1) (.lit 1))
(.l 1496 kU (.bin .or .u64 (.v 1063) (.v 1448))
(.l 1640 kU (.bin .shl .u64 (.m 246 3) (.lit 63))
(.l 2025 kU (.bin .shr .u64 (.m 246 2) (.lit 1))
(.l 2073 kU (.bin .or .u64 (.v 1640) (.v 2025))
(.l 2217 kU (.bin .shl .u64 (.m 246 4) (.lit 63))
(.l 2602 kU (.bin .shr .u64 (.m 246 3) (.lit 1))
(.l 2650 kU (.bin .or .u64 (.v 2217) (.v 2602))
(.l 2794 kU (.bin .shl .u64 (.m 246 5) (.lit 63))
(.l 3179 kU (.bin .shr .u64 (.m 246 4) (.lit 1))
(.l 3227 kU (.bin .or .u64 (.v 2794) (.v 3179))
(.l 3755 kU (.bin .shr .u64 (.m 246 5) (.lit 1))
(.l 3803 kU (.bin .or .u64 (.lit 0) (.v 3755))
(.l 3947 .num (.join [.v 919,.v 1496,.v 2073,.v 2650,.v 3227,.v 3803])
(.ret [.v 3947]))))))))))))))))))))
(.l 6 kU (.bin .shl .u64 (.m 3 1) (.lit 63))
(.l 391 kU (.bin .shr .u64 (.m 3 0) (.lit 1))
(.l 439 kU (.bin .or .u64 (.v 6) (.v 391))
(.l 583 kU (.bin .shl .u64 (.m 3 2) (.lit 63))
(.l 968 kU (.bin .shr .u64 (.m 3 1) (.lit 1))
(.l 1016 kU (.bin .or .u64 (.v 583) (.v 968))
(.l 1160 kU (.bin .shl .u64 (.m 3 3) (.lit 63))
(.l 1545 kU (.bin .shr .u64 (.m 3 2) (.lit 1))
(.l 1593 kU (.bin .or .u64 (.v 1160) (.v 1545))
(.l 1737 kU (.bin .shl .u64 (.m 3 4) (.lit 63))
(.l 2122 kU (.bin .shr .u64 (.m 3 3) (.lit 1))
(.l 2170 kU (.bin .or .u64 (.v 1737) (.v 2122))
(.l 2314 kU (.bin .shl .u64 (.m 3 5) (.lit 63))
(.l 2699 kU (.bin .shr .u64 (.m 3 4) (.lit 1))
(.l 2747 kU (.bin .or .u64 (.v 2314) (.v 2699))
(.l 3275 kU (.bin .shr .u64 (.m 3 5) (.lit 1))
(.l 3323 kU (.bin .or .u64 (.lit 0) (.v 3275))
(.l 3467 .num (.join [.v 439,.v 1016,.v 1593,.v 2170,.v 2747,.v 3323])
(.ret [.v 3467]))))))))))))))))))))))
theorem Qgh{x o0 o1 o2 o3 o4 o5:Int}(hx:0<=x/\x<Qw)(h0:o0=Q1 x 1%2*9223372036854775808+Q1 x 0/2)(h1:o1=Q1 x 2%2*9223372036854775808+Q1 x 1/2)(h2:o2=Q1 x 3%2*9223372036854775808+Q1 x 2/2)
  (h3:o3=Q1 x 4%2*9223372036854775808+Q1 x 3/2) (h4:o4=Q1 x 5%2*9223372036854775808+Q1 x 4/2) (h5:o5=Q1 x 5/2):Y6 [o0,o1,o2,o3,o4,o5]=x/2:=by
 have ex:=Z4 hx;have l0:=Qt x 0;have l1:=Qt x 1;have l2:=Qt x 2;have l3:=Qt x 3;have l4:=Qt x 4;have l5:=Qt x 5;rw[Ul];generalize Q1 x 0=x0 at *
 generalize Q1 x 1=x1 at *
 generalize Q1 x 2=x2 at *
 generalize Q1 x 3=x3 at *
 generalize Q1 x 4=x4 at *
 generalize Q1 x 5=x5 at *
 omega
theorem Qy1{n a h:Int}(hn:n%2=1)(h0:0<=h/\h<n)(hh:2*h=a∨2*h=a+n):h=a*Zm n%n:=by
 have e2:2*Zm n=n+1:=by unfold Zm;omega
 symm
 generalize Zm n=i at *
 rcases hh with hh|hh
 ·have e3:2*i*h=(n+1)*h:=by rw[e2]
  have e4:a*i=h+n*h:=by rw[<- hh];grind
  exact J1 h e4 h0.1 h0.2
 ·have e3:2*i*h=(n+1)*h:=by rw[e2]
  have e4:a*i=h+n*(h-i):=by
   have h1:a=2*h-n:=by omega
   rw[h1];grind
  exact J1 (h-i) e4 h0.1 h0.2
theorem Zjr(f1 f:FuncId)(e:Nat->Int)(hk:Q0 [.num,.int .u64,.num,.num] [e 0,e 1,e 2,e 3])(hp:(Qmp f).pre [e 0,e 1,e 2,e 3]):Zp5.Xat [Qcq f1] ⟨fun ys=>ys=(Qmp f).sem [e 0,e 1,e 2,e 3],[]⟩ e:=by
 obtain⟨⟨hm,hw⟩,ha⟩:=hp;have hn:=hm.2.1;have hl:=hm.lt;have h3:=hk.2.2.2.1;have ho:=hm.odd;have e30:Q1 (e 3) 0=e 3%18446744073709551616:=Qsg _;have z:=Qdx e;simp only[KK.has]at h3;simp only[Zp5,Qcq,Qmp,Qq.Xat,xw,xws,Nat.reduceAdd,O0,O3,List.map,Qn,Ql,Qp,D.ev,O4,O9];intro a4 _ a5 _;have b4:=Qkp a4 (z 3 0);have b5:=Zy a5;refine⟨fun hs=>⟨trivial,?_⟩,fun hs=>?_⟩
 ·intro a6 k6 a7 _ s1 _ r1 _ o1 _ s2 _ r2 _ o2 _ s3 _ r3 _ o3 _ s4 _ r4 _ o4 _ s5 _ r5 _ o5 _ r6 _ o6 _ aj _;rw[Oy (by omega) (by omega)]at a6;have hj:=Qgh k6 (Uz o1 s1 r1 (z _ _) (z _ _)) (Uz o2 s2 r2 (z _ _) (z _ _)) (Uz o3 s3 r3 (z _ _) (z _ _)) (Uz o4 s4 r4 (z _ _) (z _ _)) (Uz o5 s5 r5 (z _ _) (z _ _)) (Zsi o6 r6 (z _ _));rw[<- aj]at hj;clear aj s1 r1 o1 s2 r2 o2 s3 r3 o3 s4 r4 o4 s5 r5 o5 r6 o6 a4 a5 z k6;have:e 3947=e 3*Zm (e 0)%e 0:=Qy1 ho (by omega) (.inr (by omega));rw[this]
 ·intro s1 _ r1 _ o1 _ s2 _ r2 _ o2 _ s3 _ r3 _ o3 _ s4 _ r4 _ o4 _ s5 _ r5 _ o5 _ r6 _ o6 _ aj _;have hj:=Qgh h3 (Uz o1 s1 r1 (z _ _) (z _ _)) (Uz o2 s2 r2 (z _ _) (z _ _)) (Uz o3 s3 r3 (z _ _) (z _ _)) (Uz o4 s4 r4 (z _ _) (z _ _)) (Uz o5 s5 r5 (z _ _) (z _ _)) (Zsi o6 r6 (z _ _));rw[<- aj]at hj;clear aj s1 r1 o1 s2 r2 o2 s3 r3 o3 s4 r4 o4 s5 r5 o5 r6 o6 a4 a5 z;have:e 3467=e 3*Zm (e 0)%e 0:=Qy1 ho (by omega) (.inl (by omega));rw[this]
end Go.Sx
namespace Np
def isP(p:Nat):Prop:=2<=p/\∀d,d∣p->d=1∨d=p
theorem cop{p a:Nat}(hp:isP p)(h:¬p∣a):Nat.Coprime p a:=by
 rcases hp.2 _ (Nat.gcd_dvd_left p a)with h1|h1
 ·exact h1
 ·exact absurd (h1▸Nat.gcd_dvd_right p a) h
theorem Zh7{p a b:Nat}(hp:isP p)(h:p∣a*b):p∣a∨p∣b:=by
 by_cases ha:p∣a
 ·exact .inl ha
 ·exact .inr ((cop hp ha).dvd_of_dvd_mul_left h)
def ch:Nat->Nat->Nat
 |_,0=>1
 |0,_+1=>0
 |n+1,k+1=>ch n k+ch n (k+1)
theorem Zj6(n:Nat):ch n 0=1:=by cases n <;> rfl
theorem Qcd:∀n k:Nat,(k+1)*ch (n+1) (k+1)=(n+1)*ch n k
 |0,0=>rfl
 |0,k+1=>by simp[ch]
 |n+1,0=>by
  have:=Qcd n 0;simp only[Zj6]at this;show(0+1)*(ch (n+1) 0+ch (n+1) (0+1))=(n+1+1)*ch (n+1) 0;simp only[Zj6];omega
 |n+1,k+1=>by
  have h1:=Qcd n k;have h2:=Qcd n (k+1);show(k+1+1)*(ch (n+1) (k+1)+ch (n+1) (k+1+1))=(n+1+1)*ch (n+1) (k+1);have h3:ch (n+1) (k+1)=ch n k+ch n (k+1):=rfl;rw[Nat.mul_add,h2,Nat.add_mul (k+1) 1,h1];have h4:(n+1)*ch n k+(n+1)*ch n (k+1)=(n+1)*ch (n+1) (k+1):=by rw[<- Nat.mul_add,h3]
  have h5:(n+1+1)*ch (n+1) (k+1)=(n+1)*ch (n+1) (k+1)+ch (n+1) (k+1):=by rw[Nat.add_mul (n+1) 1,Nat.one_mul]
  omega
theorem Qz7:∀n k:Nat,n<k->ch n k=0
 |0,k+1,_=>rfl
 |n+1,k+1,h=>by
  show ch n k+ch n (k+1)=0;rw[Qz7 n k (by omega),Qz7 n (k+1) (by omega)]
theorem Qx2:∀n:Nat,ch n n=1
 |0=>rfl
 |n+1=>by
  show ch n n+ch n (n+1)=1;rw[Qx2 n,Qz7 n (n+1) (by omega)]
def bs(x n:Nat):Nat->Nat
 |0=>0
 |m+1=>bs x n m+ch n m*x^m
theorem Qxo(x n:Nat):∀m,bs x (n+1) (m+1)=bs x n (m+1)+x*bs x n m
 |0=>by simp[bs,Zj6]
 |m+1=>by
  have h:=Qxo x n m;have h3:ch (n+1) (m+1)=ch n m+ch n (m+1):=rfl;show bs x (n+1) (m+1)+ch (n+1) (m+1)*x^(m+1)=bs x n (m+1)+ch n (m+1)*x^(m+1)+x*(bs x n m+ch n m*x^m)
  rw[h,h3,Nat.add_mul,Nat.mul_add,show x*(ch n m*x^m)=ch n m*x^(m+1) by rw[Nat.pow_succ,Nat.mul_left_comm,Nat.mul_comm x]];omega
theorem Zqc(x:Nat):∀n,(x+1)^n=bs x n (n+1)
 |0=>by simp[bs,Zj6]
 |n+1=>by
  have h:bs x n (n+2)=bs x n (n+1):=by show bs x n (n+1)+ch n (n+1)*x^(n+1)=_;rw[Qz7 n (n+1) (by omega)];simp
  rw[Qxo,h,<- Zqc x n,Nat.pow_succ,Nat.mul_add,Nat.mul_one,Nat.mul_comm x];omega
theorem Ztn{p k:Nat}(hp:isP p)(h0:0<k)(h1:k<p):p∣ch p k:=by
 obtain⟨n,rfl⟩:∃n,p=n+1:=⟨p-1,by have:=hp.1;omega⟩
 obtain⟨j,rfl⟩:∃j,k=j+1:=⟨k-1,by omega⟩
 have h:=Qcd n j;have:n+1∣(j+1)*ch (n+1) (j+1):=⟨ch n j,h⟩
 rcases Zh7 hp this with h2|h2
 ·exact absurd (Nat.le_of_dvd (by omega) h2) (by omega)
 ·exact h2
theorem Zg4{p:Nat}(hp:isP p)(x:Nat):∀m,m+1<=p->bs x p (m+1)%p=1%p
 |0,_=>by simp[bs,Zj6]
 |m+1,h=>by
  show(bs x p (m+1)+ch p (m+1)*x^(m+1))%p=1%p;obtain⟨c,hc⟩:=Ztn hp (show 0<m+1 by omega) (by omega);rw[hc,Nat.mul_assoc,Nat.add_mul_mod_self_left];exact Zg4 hp x m (by omega)
theorem Zxo{p:Nat}(hp:isP p)(x:Nat):(x+1)^p%p=(x^p+1)%p:=by
 rw[Zqc];show(bs x p p+ch p p*x^p)%p=_;rw[Qx2,Nat.one_mul];obtain⟨n,hn⟩:∃n,p=n+1:=⟨p-1,by have:=hp.1;omega⟩
 have h:=Zg4 hp x n (by omega);rw[<- hn]at h;rw[Nat.add_comm,Nat.add_mod,h,<- Nat.add_mod]
theorem Zae{p:Nat}(hp:isP p):∀x,x^p%p=x%p
 |0=>by rw[Nat.zero_pow (by have:=hp.1;omega)]
 |x+1=>by rw[Zxo hp,Nat.add_mod,Zae hp x,<- Nat.add_mod]
theorem fermat{p x:Nat}(hp:isP p)(hx:¬p∣x):x^(p-1)%p=1:=by
 have h2:=hp.1;obtain⟨n,hn⟩:∃n,p=n+1:=⟨p-1,by omega⟩
 have h:=Zae hp x;have h0:0<x:=Nat.pos_of_ne_zero fun h=>hx (h▸Nat.dvd_zero p)
 have hle:1<=x^(p-1):=Nat.pow_pos h0;have hs:p∣x^p-x:=Nat.dvd_of_mod_eq_zero (Nat.sub_mod_eq_zero_of_mod_eq h);have he:x^p-x=x*(x^(p-1)-1):=by
  rw[Nat.mul_sub,Nat.mul_one,show x*x^(p-1)=x^p by rw[<- Nat.pow_succ'];congr 1;omega]
 rw[he]at hs;rcases Zh7 hp hs with h3|h3
 ·exact absurd h3 hx
 ·obtain⟨c,hc⟩:=h3;rw[show x^(p-1)=1+p*c by omega,Nat.add_mul_mod_self_left,Nat.mod_eq_of_lt (by omega)]
theorem small{n k:Nat}(h2:2<=n)(hk:n<k*k)(h:∀d,d<k->2<=d->n%d≠0):isP n:=by
 refine⟨h2,fun d hd=>?_⟩;obtain⟨m,hm⟩:=hd;by_cases h1:d=1
 ·exact .inl h1
 by_cases h3:m=1
 ·right;rw[hm,h3,Nat.mul_one]
 exfalso;have hd0:d≠0:=fun h=>by rw[h,Nat.zero_mul]at hm;omega
 have hm0:m≠0:=fun h=>by rw[h,Nat.mul_zero]at hm;omega
 by_cases hdk:d<k
 ·exact h d hdk (by omega) (by rw[hm];exact Nat.mul_mod_right d m)
 ·have hmk:m<k:=by
   by_cases hc:m<k
   ·exact hc
   ·have:=Nat.mul_le_mul (show k<=d by omega) (show k<=m by omega);omega
  exact h m hmk (by omega) (by rw[hm];exact Nat.mul_mod_left d m)
theorem Zv8:∀N n:Nat,n<=N->2<=n->∃q,isP q/\q∣n:=by
 intro N
 induction N with
 |zero=>intro n h1 h2;omega
 |succ N ih =>
  intro n h1 h2;by_cases hp:isP n
  ·exact⟨n,hp,Nat.dvd_refl n⟩
  ·have:∃d,d∣n/\d≠1/\d≠n:=by
    apply Classical.byContradiction;intro hc;refine hp ⟨h2,fun d hd=>?_⟩;by_cases h1:d=1
    ·exact .inl h1
    ·by_cases h3:d=n
     ·exact .inr h3
     ·exact absurd ⟨d,hd,h1,h3⟩ hc
   obtain⟨d,hd,d1,d2⟩:=this;have hle:=Nat.le_of_dvd (by omega) hd;have hd0:d≠0:=fun h=>by subst h;obtain⟨c,hc⟩:=hd;omega
   obtain⟨q,hq,hqd⟩:=ih d (by omega) (by omega);exact⟨q,hq,Nat.dvd_trans hqd hd⟩
theorem least{n:Nat}(h2:2<=n)(hp:¬isP n):∃q,isP q/\q∣n/\q*q<=n:=by
 have:∃d,d∣n/\d≠1/\d≠n:=by
  apply Classical.byContradiction;intro hc;refine hp ⟨h2,fun d hd=>?_⟩;by_cases h1:d=1
  ·exact .inl h1
  ·by_cases h3:d=n
   ·exact .inr h3
   ·exact absurd ⟨d,hd,h1,h3⟩ hc
 obtain⟨d,⟨m,hm⟩,d1,d2⟩:=this;have hd0:d≠0:=fun h=>by rw[h,Nat.zero_mul]at hm;omega
 have hm0:m≠0:=fun h=>by rw[h,Nat.mul_zero]at hm;omega
 have hm1:m≠1:=fun h=>by rw[h,Nat.mul_one]at hm;exact d2 hm.symm
 have go:∀u v:Nat,u≠0->u≠1->u<=v->n=u*v->∃q,isP q/\q∣n/\q*q<=n:=fun u v h0 h1 huv huvn=>by
  obtain⟨q,hq,hqu⟩:=Zv8 u u (Nat.le_refl u) (by omega);have hle:=Nat.le_of_dvd (by omega) hqu;exact⟨q,hq,huvn▸Nat.dvd_trans hqu (Nat.dvd_mul_right u v),by rw[huvn];exact Nat.mul_le_mul hle (by omega)⟩
 by_cases hc:d<=m
 ·exact go d m hd0 d1 hc hm
 ·exact go m d hm0 hm1 (by omega) (by rw[hm,Nat.mul_comm])
theorem Qbc{b l:Nat}(hl:2<=l)(h:b%l=1)(k:Nat):b^k%l=1:=by
 rw[Nat.pow_mod,h,Nat.one_pow,Nat.mod_eq_of_lt (by omega)]
theorem Zme{a l:Nat}(hl:2<=l)(m n:Nat):a^m%l=1->a^n%l=1->a^(Nat.gcd m n)%l=1:=by
 induction m,n using Nat.gcd.induction with
 |H0 n=>intro _ h;rwa[Nat.gcd_zero_left]
 |H1 m n hm ih =>
  intro h1 h2;rw[Nat.gcd_rec];refine ih ?_ h1;have h3:=Nat.div_add_mod n m;have h4:a^n%l=a^(n%m)%l:=by
   conv=>lhs;rw[<- h3,Nat.pow_add,Nat.pow_mul,Nat.mul_mod,Qbc hl h1,Nat.one_mul,Nat.mod_mod]
  rw[<- h4];exact h2
theorem dpp{q d e:Nat}(hq:isP q)(h:d∣q^(e+1)):d=q^(e+1)∨d∣q^e:=by
 obtain⟨m,hm⟩:=h;have hq0:0<q:=by have:=hq.1;omega
 by_cases hqm:q∣m
 ·right
  obtain⟨c,hc⟩:=hqm;refine⟨c,?_⟩;have:q*q^e=q*(d*c):=by rw[<- Nat.pow_succ',hm,hc,Nat.mul_left_comm]
  exact Nat.eq_of_mul_eq_mul_left hq0 this
 ·left
  have h1:Nat.Coprime (q^(e+1)) m:=Nat.Coprime.pow_left _ (cop hq hqm);have h2:m∣q^(e+1):=⟨d,by rw[hm,Nat.mul_comm]⟩
  have h3:=Nat.Coprime.eq_one_of_dvd h1.symm h2;rw[h3,Nat.mul_one]at hm;exact hm.symm
theorem Zzk{n l q a e c:Nat}(hl:isP l)(hln:l∣n)(hq:isP q)(hn:n-1=q^(e+1)*c)(h1:a^(n-1)%n=1)(hg:Nat.gcd (a^(q^e*c)%n+(n-1)) n=1)(hn2:2<=n):q^(e+1)∣l-1:=by
 have hl2:=hl.1;have m1:a^(n-1)%l=1:=by
  rw[<- Nat.mod_mod_of_dvd _ hln,h1,Nat.mod_eq_of_lt (by omega)]
 have hn0:n-1≠0:=by omega
 have hla:¬l∣a:=fun h=>by
  have:l∣a^(n-1):=Nat.dvd_trans h ⟨a^(n-1-1),by rw[<- Nat.pow_succ'];congr 1;omega⟩;rw[Nat.mod_eq_zero_of_dvd this]at m1;cases m1
 have f1:(a^c)^(l-1)%l=1:=by
  rw[<- Nat.pow_mul,Nat.mul_comm,Nat.pow_mul];exact Qbc hl2 (fermat hl hla) c
 have f2:(a^c)^(q^(e+1))%l=1:=by rw[<- Nat.pow_mul,Nat.mul_comm,<- hn];exact m1
 have f3:=Zme hl2 _ _ f2 f1;rcases dpp hq (Nat.gcd_dvd_left (q^(e+1)) (l-1))with h|h
 ·rw[<- h];exact Nat.gcd_dvd_right _ _
 ·exfalso;obtain⟨k,hk⟩:=h;have f4:(a^c)^(q^e)%l=1:=by rw[hk,Nat.pow_mul];exact Qbc hl2 f3 k
  rw[<- Nat.pow_mul,Nat.mul_comm]at f4;have f5:a^(q^e*c)%n%l=1:=by rw[Nat.mod_mod_of_dvd _ hln];exact f4
  obtain⟨t,ht⟩:=hln;have f6:l∣a^(q^e*c)%n+(n-1):=by
   have h7:=Nat.div_add_mod (a^(q^e*c)%n) l;rw[f5]at h7;have ht0:t≠0:=fun h=>by rw[h,Nat.mul_zero]at ht;omega
   refine⟨a^(q^e*c)%n/l+t,?_⟩;rw[Nat.mul_add,<- ht];omega
  have:l∣1:=by rw[<- hg];exact Nat.dvd_gcd f6 ⟨t,ht⟩
  have:=Nat.le_of_dvd (by decide) this;omega
theorem big{n F:Nat}(hn:2<=n)(hF:n<(F+1)*(F+1))(h:∀l,isP l->l∣n->F∣l-1):isP n:=by
 apply Classical.byContradiction;intro hp;obtain⟨q,hq,hqn,hqq⟩:=least hn hp;have h1:=hq.1;have h2:=Nat.le_of_dvd (by omega) (h q hq hqn);have:=Nat.mul_le_mul (show F+1<=q by omega) (show F+1<=q by omega);omega
def pm(n:Nat):Nat->Nat->Nat->Nat
 |0,_,_=>1%n
 |f+1,a,e=>if e=0 then 1%n else if e%2=1 then a*pm n f (a*a%n) (e/2)%n else pm n f (a*a%n) (e/2)
theorem Zic(n:Nat):∀f a e,e<2^f->pm n f a e=a^e%n
 |0,a,e,h=>by
  have:e=0:=by simpa using h
  subst this;rfl
 |f+1,a,e,h=>by
  unfold pm;by_cases h0:e=0
  ·subst h0;rfl
  ·rw[if_neg h0,Zic n f _ _ (by rw[Nat.pow_succ]at h;omega)];have hd:=Nat.div_add_mod e 2;have h2:(a*a%n)^(e/2)%n=a^(2*(e/2))%n:=by
    rw[<- Nat.pow_mod,Nat.pow_mul,Nat.pow_two]
   by_cases h1:e%2=1
   ·rw[if_pos h1,h2,Nat.mul_mod_mod,Nat.mul_comm,<- Nat.pow_succ];congr 2;omega
   ·rw[if_neg h1,h2];congr 2;omega
theorem Xh{n l q a e c:Nat}(f:Nat)(hf:n<=2^f)(hl:isP l)(hln:l∣n)(hq:isP q)(hn:n-1=q^(e+1)*c)(h1:pm n f a (n-1)=1)(hg:Nat.gcd (pm n f a (q^e*c)+(n-1)) n=1)(hn2:2<=n):q^(e+1)∣l-1:=by
 have hlt:q^e*c<=n-1:=by
  rw[hn,Nat.pow_succ,Nat.mul_right_comm];exact Nat.le_mul_of_pos_right _ (by have:=hq.1;omega)
 rw[Zic n f a (n-1) (by omega)]at h1;rw[Zic n f a _ (by omega)]at hg;exact Zzk hl hln hq hn h1 hg hn2
theorem Xg{n:Nat}(k:Nat)(h2:2<=n)(hk:n<k*k)(h:(List.range k).all (fun d=>decide (d<2) || n%d != 0)=true):isP n :=
 small h2 hk fun d hd hd2=>by
  have:=List.all_eq_true.1 h d (List.mem_range.2 hd);simp only[Bool.or_eq_true,decide_eq_true_eq,bne_iff_ne]at this;omega
theorem p2:isP 2:=Xg 2 (by decide) (by decide) (by decide)
theorem p3:isP 3:=Xg 2 (by decide) (by decide) (by decide)
theorem p11:isP 11:=Xg 4 (by decide) (by decide) (by decide)
theorem p19:isP 19:=Xg 5 (by decide) (by decide) (by decide)
theorem Zie:isP 10177:=Xg 101 (by decide) (by decide) (by decide +kernel)
theorem Zm8:isP 125527:=Xg 355 (by decide) (by decide) (by decide +kernel)
theorem Qz1:isP 859267:=Xg 927 (by decide) (by decide) (by decide +kernel)
theorem Znk:isP 906349:=Xg 953 (by decide) (by decide) (by decide +kernel)
def nG:Nat:=52435875175126190479447740508185965837690552500527637822603658699938581184513
theorem p_great:isP nG:=by
 refine big (F:=2^32*3^1*11^1*19^1*10177^1*125527^1*859267^1*906349^2) (by decide +kernel) (by decide +kernel) fun l hl hln=>?_
 have a1:=Xh (n:=nG) (l:=l) (q:=2) (a:=7) (e:=31) (c:=(nG-1)/2^32) 256 (by decide +kernel) hl hln p2 (by decide +kernel) (by decide +kernel) (by decide +kernel) (by decide +kernel);have a2:=Xh (n:=nG) (l:=l) (q:=3) (a:=7) (e:=0) (c:=(nG-1)/3) 256 (by decide +kernel) hl hln p3 (by decide +kernel) (by decide +kernel) (by decide +kernel) (by decide +kernel);have a3:=Xh (n:=nG) (l:=l) (q:=11) (a:=7) (e:=0) (c:=(nG-1)/11) 256 (by decide +kernel) hl hln p11 (by decide +kernel) (by decide +kernel) (by decide +kernel) (by decide +kernel);have a4:=Xh (n:=nG) (l:=l) (q:=19) (a:=7) (e:=0) (c:=(nG-1)/19) 256 (by decide +kernel) hl hln p19 (by decide +kernel) (by decide +kernel) (by decide +kernel) (by decide +kernel);have a5:=Xh (n:=nG) (l:=l) (q:=10177) (a:=7) (e:=0) (c:=(nG-1)/10177) 256 (by decide +kernel) hl hln Zie (by decide +kernel) (by decide +kernel) (by decide +kernel) (by decide +kernel);have a6:=Xh (n:=nG) (l:=l) (q:=125527) (a:=7) (e:=0) (c:=(nG-1)/125527) 256 (by decide +kernel) hl hln Zm8 (by decide +kernel) (by decide +kernel) (by decide +kernel) (by decide +kernel);have a7:=Xh (n:=nG) (l:=l) (q:=859267) (a:=7) (e:=0) (c:=(nG-1)/859267) 256 (by decide +kernel) hl hln Qz1 (by decide +kernel) (by decide +kernel) (by decide +kernel) (by decide +kernel);have a8:=Xh (n:=nG) (l:=l) (q:=906349) (a:=7) (e:=1) (c:=(nG-1)/906349^2) 256 (by decide +kernel) hl hln Znk (by decide +kernel) (by decide +kernel) (by decide +kernel) (by decide +kernel);have c2:=Nat.Coprime.mul_dvd_of_dvd_of_dvd (by decide +kernel) a1 a2;have c3:=Nat.Coprime.mul_dvd_of_dvd_of_dvd (by decide +kernel) c2 a3;have c4:=Nat.Coprime.mul_dvd_of_dvd_of_dvd (by decide +kernel) c3 a4;have c5:=Nat.Coprime.mul_dvd_of_dvd_of_dvd (by decide +kernel) c4 a5;have c6:=Nat.Coprime.mul_dvd_of_dvd_of_dvd (by decide +kernel) c5 a6;have c7:=Nat.Coprime.mul_dvd_of_dvd_of_dvd (by decide +kernel) c6 a7;exact Nat.Coprime.mul_dvd_of_dvd_of_dvd (by decide +kernel) c7 a8
theorem Zcw{n q F:Nat}(hq:q∣n)(hF:F∣n-1)(hFq:F∣q-1)(hq1:1<=q)(hn:1<=n):∃a b,q=1+a*F/\n=q*(1+b*F)∨n=0:=by
 obtain⟨m,hm⟩:=hq;obtain⟨a,ha⟩:=hFq;obtain⟨R,hR⟩:=hF;have h1:q=1+a*F:=by rw[Nat.mul_comm a F];omega
 have h2:F∣m-1:=by
  rcases Nat.eq_zero_or_pos m with h0|h0
  ·rw[h0];exact⟨0,rfl⟩
  ·have h3:m-1=F*R-F*(a*m):=by
    have h4:n=m+F*(a*m):=by rw[hm,h1,Nat.add_mul,Nat.one_mul,Nat.mul_comm a F,Nat.mul_assoc]
    omega
   rw[h3];exact Nat.dvd_sub (Nat.dvd_mul_right ..) (Nat.dvd_mul_right ..)
 obtain⟨b,hb⟩:=h2;rcases Nat.eq_zero_or_pos m with h0|h0
 ·exact⟨0,0,.inr (by rw[hm,h0,Nat.mul_zero])⟩
 ·refine⟨a,b,.inl ⟨h1,?_⟩⟩;rw[hm];congr 1;rw[Nat.mul_comm b F];omega
theorem Zxc{n F c0 c1 s:Nat}(hn:2<=n)(hF:2<=F)(hdv:F∣n-1)(hR:(n-1)/F=c1*F+c0)(hc:c0<F)(hsz:n/(F*F)+1<F)(hs:s*s+4*c1<c0*c0)(hs2:c0*c0<(s+1)*(s+1)+4*c1)(h:∀l,isP l->l∣n->F∣l-1):isP n:=by
 apply Classical.byContradiction;intro hp;obtain⟨q,hq,hqn,hqq⟩:=least hn hp;have hq2:=hq.1;obtain⟨a,b,hab|h0⟩:=Zcw hqn hdv (h q hq hqn) (by omega) (by omega)
 ·obtain⟨e1,e2⟩:=hab;have ha:1<=a:=by
   rcases Nat.eq_zero_or_pos a with h0|h0
   ·rw[h0]at e1;omega
   ·exact h0
  have hb:1<=b:=by
   rcases Nat.eq_zero_or_pos b with h0|h0
   ·rw[h0,Nat.zero_mul,Nat.add_zero,Nat.mul_one]at e2;have:q*2<=q*q:=Nat.mul_le_mul_left q hq2;omega
   ·exact h0
  have e3:n=1+F*(a+b+a*b*F):=by rw[e2,e1];grind
  have e4:(n-1)/F=a*b*F+(a+b):=by
   rw[show n-1=F*(a+b+a*b*F) by omega,Nat.mul_div_cancel_left _ (by omega)];omega
  have e5:a*b<=n/(F*F):=by
   rw[Nat.le_div_iff_mul_le (Nat.mul_pos (by omega) (by omega))];rw[e3];have:a*b*(F*F)=F*(a*b*F):=by grind
   rw[this,Nat.mul_add];omega
  have e6:a+b<=a*b+1:=by
   obtain⟨a',rfl⟩:∃a',a=a'+1:=⟨a-1,by omega⟩
   obtain⟨b',rfl⟩:∃b',b=b'+1:=⟨b-1,by omega⟩
   have:(a'+1)*(b'+1)=a'*b'+a'+b'+1:=by grind
   rw[this];have:=Nat.zero_le (a'*b');generalize a'*b'=z at *
   omega
  rw[hR]at e4;have e7:c0=a+b/\c1=a*b:=by
   have h1:(c1*F+c0)%F=c0:=by rw[Nat.mul_add_mod_self_right,Nat.mod_eq_of_lt hc]
   have h2:(a*b*F+(a+b))%F=a+b:=by rw[Nat.mul_add_mod_self_right,Nat.mod_eq_of_lt (by omega)]
   have h3:c0=a+b:=by rw[<- h1,e4,h2]
   refine⟨h3,?_⟩;have h4:c1*F=a*b*F:=by omega
   exact Nat.eq_of_mul_eq_mul_right (by omega) h4
  obtain⟨e8,e9⟩:=e7;rw[e8,e9]at hs hs2;rcases Nat.le_total a b with hle|hle
  ·obtain⟨d,rfl⟩:=Nat.exists_eq_add_of_le hle;have h1:(a+(a+d))*(a+(a+d))=d*d+4*(a*(a+d)):=by grind
   rw[h1]at hs hs2;have h2:s<d:=Nat.lt_of_not_le fun hc=>by
    have:=Nat.mul_le_mul hc hc;omega
   have:=Nat.mul_le_mul (show s+1<=d by omega) (show s+1<=d by omega);omega
  ·obtain⟨d,rfl⟩:=Nat.exists_eq_add_of_le hle;have h1:(b+d+b)*(b+d+b)=d*d+4*((b+d)*b):=by grind
   rw[h1]at hs hs2;have h2:s<d:=Nat.lt_of_not_le fun hc=>by
    have:=Nat.mul_le_mul hc hc;omega
   have:=Nat.mul_le_mul (show s+1<=d by omega) (show s+1<=d by omega);omega
 ·omega
theorem p23:isP 23:=Xg 5 (by decide) (by decide) (by decide +kernel)
theorem p47:isP 47:=Xg 7 (by decide) (by decide) (by decide +kernel)
theorem Zbg:isP 52437899:=Xg 7242 (by decide) (by decide) (by decide +kernel)
theorem Zwy:isP 7577:=Xg 88 (by decide) (by decide) (by decide +kernel)
theorem Zld:isP 582767:=Xg 764 (by decide) (by decide) (by decide +kernel)
theorem Qjp:isP 9272813673901:=by
 refine big (F:=7577^1*582767^1) (by decide +kernel) (by decide +kernel) fun l hl hln=>?_
 have a0:=Xh (n:=9272813673901) (l:=l) (q:=7577) (a:=2) (e:=0) (c:=(9272813673901-1)/7577^1) 44 (by decide +kernel) hl hln Zwy (by decide +kernel) (by decide +kernel) (by decide +kernel) (by decide +kernel);have a1:=Xh (n:=9272813673901) (l:=l) (q:=582767) (a:=2) (e:=0) (c:=(9272813673901-1)/582767^1) 44 (by decide +kernel) hl hln Zld (by decide +kernel) (by decide +kernel) (by decide +kernel) (by decide +kernel);exact(Nat.Coprime.mul_dvd_of_dvd_of_dvd (by decide +kernel) a0 a1)
theorem Qek:isP 1928745244171409:=by
 refine big (F:=9272813673901^1) (by decide +kernel) (by decide +kernel) fun l hl hln=>?_
 have a0:=Xh (n:=1928745244171409) (l:=l) (q:=9272813673901) (a:=2) (e:=0) (c:=(1928745244171409-1)/9272813673901^1) 51 (by decide +kernel) hl hln Qjp (by decide +kernel) (by decide +kernel) (by decide +kernel) (by decide +kernel);exact a0
theorem Qbz:isP 7259797099061183477:=by
 refine big (F:=1928745244171409^1) (by decide +kernel) (by decide +kernel) fun l hl hln=>?_
 have a0:=Xh (n:=7259797099061183477) (l:=l) (q:=1928745244171409) (a:=2) (e:=0) (c:=(7259797099061183477-1)/1928745244171409^1) 63 (by decide +kernel) hl hln Qek (by decide +kernel) (by decide +kernel) (by decide +kernel) (by decide +kernel);exact a0
theorem B2:isP 2584487767265781317813:=by
 refine big (F:=7259797099061183477^1) (by decide +kernel) (by decide +kernel) fun l hl hln=>?_
 have a0:=Xh (n:=2584487767265781317813) (l:=l) (q:=7259797099061183477) (a:=2) (e:=0) (c:=(2584487767265781317813-1)/7259797099061183477^1) 72 (by decide +kernel) hl hln Qbz (by decide +kernel) (by decide +kernel) (by decide +kernel) (by decide +kernel);exact a0
theorem p786251:isP 786251:=Xg 887 (by decide) (by decide) (by decide +kernel)
theorem Zmf:isP 376631:=Xg 614 (by decide) (by decide) (by decide +kernel)
theorem Zdr:isP 10056583:=Xg 3172 (by decide) (by decide) (by decide +kernel)
theorem Qcm:isP 192153584101141037:=by
 refine big (F:=376631^1*10056583^1) (by decide +kernel) (by decide +kernel) fun l hl hln=>?_
 have a0:=Xh (n:=192153584101141037) (l:=l) (q:=376631) (a:=2) (e:=0) (c:=(192153584101141037-1)/376631^1) 58 (by decide +kernel) hl hln Zmf (by decide +kernel) (by decide +kernel) (by decide +kernel) (by decide +kernel);have a1:=Xh (n:=192153584101141037) (l:=l) (q:=10056583) (a:=2) (e:=0) (c:=(192153584101141037-1)/10056583^1) 58 (by decide +kernel) hl hln Zdr (by decide +kernel) (by decide +kernel) (by decide +kernel) (by decide +kernel);exact(Nat.Coprime.mul_dvd_of_dvd_of_dvd (by decide +kernel) a0 a1)
theorem p_mid7:isP 1152921504606846223:=by
 refine big (F:=192153584101141037^1) (by decide +kernel) (by decide +kernel) fun l hl hln=>?_
 have a0:=Xh (n:=1152921504606846223) (l:=l) (q:=192153584101141037) (a:=2) (e:=0) (c:=(1152921504606846223-1)/192153584101141037^1) 60 (by decide +kernel) hl hln Qcm (by decide +kernel) (by decide +kernel) (by decide +kernel) (by decide +kernel);exact a0
def nP:Nat:=4002409555221667393417789825735904156556882819939007885332058136124031650490837864442687629129015664037894272559787
theorem p_base:isP nP:=by
 refine Zxc (F:=2^1*3^2*11^1*23^1*47^1*10177^1*859267^1*52437899^1*2584487767265781317813^1) (c0:=41045055325326579460269857981194636858402675) (c1:=62202009562450627810769096) (s:=41045055325326579460269857981194636858402674) (by decide +kernel) (by decide +kernel) (by decide +kernel) (by decide +kernel) (by decide +kernel) (by decide +kernel) (by decide +kernel) (by decide +kernel) fun l hl hln=>?_
 have a0:=Xh (n:=nP) (l:=l) (q:=2) (a:=2) (e:=0) (c:=(nP-1)/2^1) 381 (by decide +kernel) hl hln p2 (by decide +kernel) (by decide +kernel) (by decide +kernel) (by decide +kernel);have a1:=Xh (n:=nP) (l:=l) (q:=3) (a:=2) (e:=1) (c:=(nP-1)/3^2) 381 (by decide +kernel) hl hln p3 (by decide +kernel) (by decide +kernel) (by decide +kernel) (by decide +kernel);have a2:=Xh (n:=nP) (l:=l) (q:=11) (a:=2) (e:=0) (c:=(nP-1)/11^1) 381 (by decide +kernel) hl hln p11 (by decide +kernel) (by decide +kernel) (by decide +kernel) (by decide +kernel);have a3:=Xh (n:=nP) (l:=l) (q:=23) (a:=2) (e:=0) (c:=(nP-1)/23^1) 381 (by decide +kernel) hl hln p23 (by decide +kernel) (by decide +kernel) (by decide +kernel) (by decide +kernel);have a4:=Xh (n:=nP) (l:=l) (q:=47) (a:=2) (e:=0) (c:=(nP-1)/47^1) 381 (by decide +kernel) hl hln p47 (by decide +kernel) (by decide +kernel) (by decide +kernel) (by decide +kernel);have a5:=Xh (n:=nP) (l:=l) (q:=10177) (a:=2) (e:=0) (c:=(nP-1)/10177^1) 381 (by decide +kernel) hl hln Zie (by decide +kernel) (by decide +kernel) (by decide +kernel) (by decide +kernel);have a6:=Xh (n:=nP) (l:=l) (q:=859267) (a:=2) (e:=0) (c:=(nP-1)/859267^1) 381 (by decide +kernel) hl hln Qz1 (by decide +kernel) (by decide +kernel) (by decide +kernel) (by decide +kernel);have a7:=Xh (n:=nP) (l:=l) (q:=52437899) (a:=2) (e:=0) (c:=(nP-1)/52437899^1) 381 (by decide +kernel) hl hln Zbg (by decide +kernel) (by decide +kernel) (by decide +kernel) (by decide +kernel);have a8:=Xh (n:=nP) (l:=l) (q:=2584487767265781317813) (a:=2) (e:=0) (c:=(nP-1)/2584487767265781317813^1) 381 (by decide +kernel) hl hln B2 (by decide +kernel) (by decide +kernel) (by decide +kernel) (by decide +kernel);have b1:=Nat.Coprime.mul_dvd_of_dvd_of_dvd (by decide +kernel) a0 a1;have b2:=Nat.Coprime.mul_dvd_of_dvd_of_dvd (by decide +kernel) b1 a2;have b3:=Nat.Coprime.mul_dvd_of_dvd_of_dvd (by decide +kernel) b2 a3;have b4:=Nat.Coprime.mul_dvd_of_dvd_of_dvd (by decide +kernel) b3 a4;have b5:=Nat.Coprime.mul_dvd_of_dvd_of_dvd (by decide +kernel) b4 a5;have b6:=Nat.Coprime.mul_dvd_of_dvd_of_dvd (by decide +kernel) b5 a6;have b7:=Nat.Coprime.mul_dvd_of_dvd_of_dvd (by decide +kernel) b6 a7;have b8:=Nat.Coprime.mul_dvd_of_dvd_of_dvd (by decide +kernel) b7 a8;exact b8
end Np
namespace Go.Sx
open Go Go.RowKit
def bP:Int:=4002409555221667393417789825735904156556882819939007885332058136124031650490837864442687629129015664037894272559787
theorem Q9:0<bP:=by decide
theorem Qbq:bP%2=1:=by decide
theorem Zay:2*bP<Qw:=by decide
def iR:Int:=Zm bP^384%bP
theorem Zqu:∃z,Qw*iR=1+bP*z:=by
 obtain⟨z,hz⟩:=Qk4 Qbq;obtain⟨y,hy⟩:=Y1 (x:=Zm bP^384) (n:=bP);refine⟨z+Qw*y,?_⟩;unfold iR;rw[hy];generalize Zm bP^384=I at *
 generalize bP=p at *
 generalize Qw=R at *
 grind
def Qr(x:Int):Int:=x*Qw%bP
def Qo(a:Int):Int:=a*iR%bP
theorem Qki(x:Int):0<=Qr x/\Qr x<bP:=Zo Q9
theorem Z3{x y:Int}(h:x%bP=y%bP):Qr x=Qr y:=by
 obtain⟨z,rfl⟩:=dm h;exact md (z*Qw) (by rw[Int.add_mul,K9])
theorem Xv(x:Int):Qo (Qr x)=x%bP:=by
 obtain⟨z,hz⟩:=Zqu;obtain⟨y,hy⟩:=Y1 (x:=x*Qw) (n:=bP);unfold Qo Qr;rw[hy];refine md (y*iR+x*z) ?_;generalize iR=I at *
 generalize bP=p at *
 generalize Qw=R at *
 have:x*(R*I)=x*(1+p*z):=by rw[hz]
 grind
theorem Qe5{a:Int}(h0:0<=a)(h1:a<bP):Qr (Qo a)=a:=by
 obtain⟨z,hz⟩:=Zqu;obtain⟨y,hy⟩:=Y1 (x:=a*iR) (n:=bP);unfold Qo Qr;rw[hy];refine J1 (y*Qw+a*z) ?_ h0 h1;generalize iR=I at *
 generalize bP=p at *
 generalize Qw=R at *
 have:a*(R*I)=a*(1+p*z):=by rw[hz]
 grind
theorem Qh0{x y:Int}(h:Qr x=Qr y):x%bP=y%bP:=by rw[<- Xv,h,Xv]
theorem Qmo:Qr 0=0:=by decide
theorem Qbd{x:Int}:Qr x=0↔x%bP=0:=by
 rw[<- Qmo];exact⟨fun h=>Qh0 h,fun h=>Z3 h⟩
theorem Zv3{v a b A B:Int}(h:v=(a+b)%bP)(ha:a=Qr A)(hb:b=Qr B):v=Qr (A+B):=by
 obtain⟨y,hy⟩:=Y1 (x:=A*Qw) (n:=bP);obtain⟨z,hz⟩:=Y1 (x:=B*Qw) (n:=bP);rw[h,ha,hb];unfold Qr;rw[hy,hz];exact md (y+z) (by grind)
theorem Zv7{v a b A B:Int}(h:v=(a-b)%bP)(ha:a=Qr A)(hb:b=Qr B):v=Qr (A-B):=by
 obtain⟨y,hy⟩:=Y1 (x:=A*Qw) (n:=bP);obtain⟨z,hz⟩:=Y1 (x:=B*Qw) (n:=bP);rw[h,ha,hb];unfold Qr;rw[hy,hz];exact md (y-z) (by grind)
theorem Zwz{v a b A B:Int}(h:v=Yp bP a b)(ha:a=Qr A)(hb:b=Qr B):v=Qr (A*B):=by
 obtain⟨z,hz⟩:=Qk4 Qbq;obtain⟨y,hy⟩:=Y1 (x:=A*Qw) (n:=bP);obtain⟨w,hw⟩:=Y1 (x:=B*Qw) (n:=bP);rw[h,ha,hb];unfold Qr Yp;rw[hy,hw,show(bP+1)/2=Zm bP from rfl];generalize Zm bP^384=I at *
 generalize bP=p at *
 generalize Qw=R at *
 have h1:A*B*R*(R*I)=A*B*R*(1+p*z):=by rw[hz]
 exact md (A*B*R*z+(A*R*w+y*B*R+p*y*w)*I) (by grind)
theorem Vl{a:Int}(h0:0<=a)(h1:a<bP):a=Qr (Qo a):=(Qe5 h0 h1).symm
theorem Zzb{n:Int}:Yp bP (Xc bP) n=Qr n:=by
 obtain⟨z,hz⟩:=RR1 Qbq;unfold Yp Qr;rw[show(bP+1)/2=Zm bP from rfl];generalize Zm bP^384=I at *
 generalize Xc bP=w at *
 generalize bP=p at *
 generalize Qw=R at *
 have:n*(w*I)=n*(R+p*z):=by rw[hz]
 exact md (n*z) (by grind)
theorem Zsv{a:Int}:Yp bP a 1=Qo a:=by
 obtain⟨y,hy⟩:=Y1 (x:=Zm bP^384) (n:=bP);unfold Yp Qo iR;rw[hy,show(bP+1)/2=Zm bP from rfl];generalize Zm bP^384=I at *
 generalize bP=p at *
 exact md (-(a*y)) (by grind)
structure Rg (α:Type) where
 add:α->α->α
 sub:α->α->α
 mul:α->α->α
 one:α
 zero:α
 isz:α->Bool
 md:α->α
def R1:Rg Int:=⟨fun a b=>a+b,fun a b=>a-b,fun a b=>a*b,1,0,fun a=>a%bP==0,fun a=>a%bP⟩
def R2:Rg (Int×Int):=⟨fun a b=>(a.1+b.1,a.2+b.2),fun a b=>(a.1-b.1,a.2-b.2),fun a b=>(a.1*b.1-a.2*b.2,a.1*b.2+a.2*b.1),(1,0),(0,0),fun a=>a.1%bP==0&&a.2%bP==0,fun a=>(a.1%bP,a.2%bP)⟩
structure J (α:Type) where
 x:α
 y:α
 z:α
section
variable {α:Type}
def J.md(R:Rg α)(P:J α):J α:=⟨R.md P.x,R.md P.y,R.md P.z⟩
def oJ(R:Rg α):J α:=⟨R.one,R.one,R.zero⟩
def Yj(R:Rg α)(P:J α):J α :=
 let yy:=R.mul P.y P.y
 let s:=R.mul P.x yy
 let s:=R.add s s
 let s:=R.add s s
 let m:=R.mul P.x P.x
 let m:=R.add (R.add m m) m
 let x:=R.sub (R.mul m m) (R.add s s)
 let e:=R.mul yy yy
 let e:=R.add e e
 let e:=R.add e e
 let e:=R.add e e
 let z:=R.mul P.y P.z
 ⟨x,R.sub (R.mul m (R.sub s x)) e,R.add z z⟩
def Wo(R:Rg α)(P Q:J α):J α :=
 if R.isz P.z=true then Q else if R.isz Q.z=true then P else
 let pp:=R.mul P.z P.z
 let qq:=R.mul Q.z Q.z
 let u:=R.mul P.x qq
 let v:=R.mul Q.x pp
 let s:=R.mul P.y (R.mul qq Q.z)
 let t:=R.mul Q.y (R.mul pp P.z)
 let h:=R.sub v u
 let r:=R.sub t s
 if R.isz h=true then(if R.isz r=true then Yj R P else oJ R)else
 let hh:=R.mul h h
 let hhh:=R.mul hh h
 let w:=R.mul u hh
 let x:=R.sub (R.sub (R.mul r r) hhh) (R.add w w)
 ⟨x,R.sub (R.mul r (R.sub w x)) (R.mul s hhh),R.mul h (R.mul P.z Q.z)⟩
def Qht(R:Rg α)(P Q:J α):J α :=
 let pp:=R.mul P.z P.z
 let qq:=R.mul Q.z Q.z
 let u:=R.mul P.x qq
 let v:=R.mul Q.x pp
 let s:=R.mul P.y (R.mul qq Q.z)
 let t:=R.mul Q.y (R.mul pp P.z)
 let h:=R.sub v u
 let r:=R.sub t s
 let hh:=R.mul h h
 let hhh:=R.mul hh h
 let w:=R.mul u hh
 let x:=R.sub (R.sub (R.mul r r) hhh) (R.add w w)
 ⟨x,R.sub (R.mul r (R.sub w x)) (R.mul s hhh),R.mul h (R.mul P.z Q.z)⟩
def hJ(R:Rg α)(P Q:J α):α:=R.sub (R.mul Q.x (R.mul P.z P.z)) (R.mul P.x (R.mul Q.z Q.z))
def rJ(R:Rg α)(P Q:J α):α:=R.sub (R.mul Q.y (R.mul (R.mul P.z P.z) P.z)) (R.mul P.y (R.mul (R.mul Q.z Q.z) Q.z))
theorem U4(R:Rg α)(P Q:J α):Wo R P Q=if R.isz P.z=true then Q else if R.isz Q.z=true then P else if R.isz (hJ R P Q)=true then(if R.isz (rJ R P Q)=true then Yj R P else oJ R)else Qht R P Q:=rfl
theorem Zav{R:Rg α}{P Q:J α}(h:R.isz P.z=true):Wo R P Q=Q:=by rw[U4,if_pos h]
theorem Zas{R:Rg α}{P Q:J α}(h:¬R.isz P.z=true)(h2:R.isz Q.z=true):Wo R P Q=P:=by rw[U4,if_neg h,if_pos h2]
theorem Qth{R:Rg α}{P Q:J α}(h:¬R.isz P.z=true)(h2:¬R.isz Q.z=true)(h3:R.isz (hJ R P Q)=true)(h4:R.isz (rJ R P Q)=true):Wo R P Q=Yj R P:=by rw[U4,if_neg h,if_neg h2,if_pos h3,if_pos h4]
theorem Qsa{R:Rg α}{P Q:J α}(h:¬R.isz P.z=true)(h2:¬R.isz Q.z=true)(h3:R.isz (hJ R P Q)=true)(h4:¬R.isz (rJ R P Q)=true):Wo R P Q=oJ R:=by rw[U4,if_neg h,if_neg h2,if_pos h3,if_neg h4]
theorem Qqv{R:Rg α}{P Q:J α}(h:¬R.isz P.z=true)(h2:¬R.isz Q.z=true)(h3:¬R.isz (hJ R P Q)=true):Wo R P Q=Qht R P Q:=by rw[U4,if_neg h,if_neg h2,if_neg h3]
def W5(R:Rg α)(P:J α):Nat->Nat->J α
 |0,_=>oJ R
 |k+1,n=>if n=0 then oJ R else
  let d:=J.md R (Yj R (W5 R P k (n/2)))
  if n%2=1 then J.md R (Wo R d P)else d
theorem Qtd{R:Rg α}{P:J α}:∀(k n:Nat),n<2^k->W5 R P (k+1) n=W5 R P k n
 |0,n,h=>by
  have:n=0:=by simpa using h
  subst this;rfl
 |k+1,n,h=>by
  have ih:=Qtd (R:=R) (P:=P) k (n/2) (by rw[Nat.pow_succ]at h;omega);have e1:∀j,W5 R P (j+1) n=if n=0 then oJ R else(if n%2=1 then J.md R (Wo R (J.md R (Yj R (W5 R P j (n/2)))) P)else J.md R (Yj R (W5 R P j (n/2)))):=fun j=>rfl
  rw[e1,e1,ih]
end
end Go.Sx
namespace Go.Sx
theorem Q6{a A:Int}(h:a=Qr A):a<bP:=by rw[h];exact(Qki A).2
theorem Xl{a A:Int}(h:a=Qr A):Qo a%bP=A%bP:=by rw[h,Xv];exact Kv _ (H3 _)
theorem Xz{p a b A B:Int}(ha:a%p=A%p)(hb:b%p=B%p):(a+b)%p=(A+B)%p:=by rw[Int.add_emod,ha,hb,<- Int.add_emod]
theorem Wh{p a b A B:Int}(ha:a%p=A%p)(hb:b%p=B%p):(a-b)%p=(A-B)%p:=by rw[Int.sub_emod,ha,hb,<- Int.sub_emod]
theorem Q4{p a b A B:Int}(ha:a%p=A%p)(hb:b%p=B%p):(a*b)%p=(A*B)%p:=by rw[Int.mul_emod,ha,hb,<- Int.mul_emod]
theorem U8{p a A:Int}(ha:a%p=A%p):∀n:Nat,a^n%p=A^n%p
 |0=>by rw[Oal,Oal]
 |n+1=>by rw[L3,L3];exact Q4 (U8 ha n) ha
theorem Qfo{v a b A B:Int}(h:v=Qr (Qo a+Qo b))(ha:a=Qr A)(hb:b=Qr B):v=Qr (A+B):=h.trans (Z3 (Xz (Xl ha) (Xl hb)))
theorem Qwj{v a b A B:Int}(h:v=Qr (Qo a-Qo b))(ha:a=Qr A)(hb:b=Qr B):v=Qr (A-B):=h.trans (Z3 (Wh (Xl ha) (Xl hb)))
theorem Qdh{v a b A B:Int}(h:v=Qr (Qo a*Qo b))(ha:a=Qr A)(hb:b=Qr B):v=Qr (A*B):=h.trans (Z3 (Q4 (Xl ha) (Xl hb)))
theorem Zvc{v a A:Int}{n:Nat}(h:v=Qr (Qo a^n))(ha:a=Qr A):v=Qr (A^n):=h.trans (Z3 (U8 (Xl ha) n))
end Go.Sx
namespace Go.Sx
open Go Go.RowKit
def Qf5(f:FuncId):K:={fn:=f,ext:=false,ins:=[iN],outs:=[oN],pre:=fun _=>True,sem:=fun|[a]=>[if bP<=a then a-bP else a]|_=>[] }
def Qb1(f:FuncId):K:={fn:=f,ext:=false,ins:=[iN,iN],outs:=[oN],pre:=fun|[a,b]=>a<bP/\b<bP|_=>False,sem:=fun|[a,b]=>[Qr (Qo a+Qo b)]|_=>[] }
def Qjd(f:FuncId):K:={fn:=f,ext:=false,ins:=[iN,iN],outs:=[oN],pre:=fun|[a,b]=>a<bP/\b<bP|_=>False,sem:=fun|[a,b]=>[Qr (Qo a-Qo b)]|_=>[] }
def Qgy(f:FuncId):K:={fn:=f,ext:=false,ins:=[iN],outs:=[oN],pre:=fun|[a]=>a<bP|_=>False,sem:=fun|[a]=>[Qr (-Qo a)]|_=>[] }
def Qc4(f:FuncId):K:={fn:=f,ext:=false,ins:=[iN,iN],outs:=[oN],pre:=fun|[a,_]=>a<bP|_=>False,sem:=fun|[a,b]=>[Yp bP a b]|_=>[] }
def Qay(f:FuncId):K:={fn:=f,ext:=false,ins:=[iN,iN],outs:=[oN],pre:=fun|[a,b]=>a<bP/\b<bP|_=>False,sem:=fun|[a,b]=>[Qr (Qo a*Qo b)]|_=>[] }
def Zn9(f:FuncId):K:={fn:=f,ext:=false,ins:=[iN],outs:=[oN],pre:=fun _=>True,sem:=fun|[a]=>[Qr a]|_=>[] }
def Qn7(f:FuncId):K:={fn:=f,ext:=false,ins:=[iN],outs:=[oN],pre:=fun|[a]=>a<bP|_=>False,sem:=fun|[a]=>[Qo a]|_=>[] }
def Qso(f:FuncId):K:={fn:=f,ext:=false,ins:=[iN,iN],outs:=[oN],pre:=fun|[a,_]=>a<bP|_=>False,sem:=fun|[a,n]=>[Qr (Qo a^n.toNat)]|_=>[] }
def Qg8(f:FuncId):K:={fn:=f,ext:=false,ins:=[iN],outs:=[oN],pre:=fun|[a]=>a<bP|_=>False,sem:=fun|[a]=>[Qr (Qo a^(bP-2).toNat)]|_=>[] }
structure Fo where
 add:FuncId
 sub:FuncId
 mul:FuncId
 inv:FuncId
def Fo.ls(o:Fo):List L:=[.cst (.fn o.add []),.cst (.fn o.sub []),.cst (.fn o.mul []),.cst (.fn o.inv []),.num,.num]
abbrev ls3:List L:=[.num,.num,.num]
def ofJ(x y z:Int):J Int:=⟨Qo x,Qo y,Qo z⟩
def J.l(P:J Int):List Int:=[Qr P.x,Qr P.y,Qr P.z]
def kSum(o:Fo)(f:FuncId):K:={fn:=f,ext:=false,ins:=[.agg o.ls,.agg ls3,.agg ls3],outs:=[.agg ls3],pre:=fun|[u,_,x,y,z,x',y',z']=>u=Qr 1/\(x<bP/\y<bP/\z<bP)/\(x'<bP/\y'<bP/\z'<bP)|_=>False,sem:=fun|[_,_,x,y,z,x',y',z']=>(Wo R1 (ofJ x y z) (ofJ x' y' z')).l|_=>[] }
end Go.Sx
