/- Part Hk of the proof. -/
import Derived.Test.YtlloonffibabfaaGreatDoorHj
import Derived.Test.YtlloonffibabfaaGreatDoorHi
import Derived.Test.YtlloonffibabfaaGreatDoorHh
import Derived.Lib.Bytealg
set_option linter.unusedVariables false
set_option linter.unusedSimpArgs false
namespace Go.Sx
open Go Go.RowKit
set_option maxRecDepth 100000
theorem Zvb{p a n:Int}(hp:0<p)(ha:0<=a):pwM p a n=a^n.toNat%p:=by
 unfold pwM;rw[Oam,Kj,Kg ha,Kg (by omega)]
def Zpg:Qq:=(.l 8 kU (.bin .add .u64 (.v 6) (.v 7))
(.l 9 kU (.bin .rem .u64 (.v 8) (.v 0))
(.nz (.v 0)
(.ret [.v 9]))))
theorem Zgf(f:FuncId)(e:Nat->Int)(hk:Q0 [.int .u64,.int .u64,.int .u64,.int .u64,.int .u64,.bit,.int .u64,.int .u64] [e 0,e 1,e 2,e 3,e 4,e 5,e 6,e 7])(hp:(Qd3 f).pre [e 0,e 1,e 2,e 3,e 4,e 5,e 6,e 7]):Zpg.Xat [] ⟨fun ys=>ys=(Qd3 f).sem [e 0,e 1,e 2,e 3,e 4,e 5,e 6,e 7],[]⟩ e:=by
 obtain⟨⟨p0,p1⟩,p2,p3⟩:=hp;obtain⟨_,_,_,_,_,_,h6,h7,_⟩:=hk;have u6:=Zb h6;have u7:=Zb h7;simp only[Zpg,Qd3,Qq.Xat,xw,xws,Nat.reduceAdd,O0,O3,List.map,Qn,Ql,Qp,D.ev,O4,O9];intro a8 _ a9 _;have c8:e 8=e 6+e 7:=by rw[a8];simp only[Qm,wr];omega
 refine⟨by omega,?_⟩;rw[a9,c8];simp only[Qm];rw[Mt (by omega)]
def Zq6:Qq:=(.l 8 kU (.bin .add .u64 (.v 6) (.v 0))
(.l 9 kU (.bin .sub .u64 (.v 8) (.v 7))
(.l 10 kU (.bin .rem .u64 (.v 9) (.v 0))
(.nz (.v 0)
(.ret [.v 10])))))
theorem Zhw(f:FuncId)(e:Nat->Int)(hk:Q0 [.int .u64,.int .u64,.int .u64,.int .u64,.int .u64,.bit,.int .u64,.int .u64] [e 0,e 1,e 2,e 3,e 4,e 5,e 6,e 7])(hp:(Qez f).pre [e 0,e 1,e 2,e 3,e 4,e 5,e 6,e 7]):Zq6.Xat [] ⟨fun ys=>ys=(Qez f).sem [e 0,e 1,e 2,e 3,e 4,e 5,e 6,e 7],[]⟩ e:=by
 obtain⟨⟨p0,p1⟩,p2,p3⟩:=hp;obtain⟨_,_,_,_,_,_,h6,h7,_⟩:=hk;have u6:=Zb h6;have u7:=Zb h7;simp only[Zq6,Qez,Qq.Xat,xw,xws,Nat.reduceAdd,O0,O3,List.map,Qn,Ql,Qp,D.ev,O4,O9];intro a8 _ a9 _ a10 _;have c8:e 8=e 6+e 0:=by rw[a8];simp only[Qm,wr];omega
 have c9:e 9=e 6+e 0-e 7:=by rw[a9,c8];simp only[Qm,wr];omega
 refine⟨by omega,?_⟩;rw[a10,c9];simp only[Qm];rw[Mt (by omega)];congr 1;exact md 1 (by omega)
def Zp0:Qq:=(xw 0 [.v 6,.v 7] 8 qca
(xw 1 [.v 8,.v 9,.v 0] 10 qia
(.ret [.v 10])))
theorem Zjf(f1 f2 f:FuncId)(e:Nat->Int)(hp:(Uu f).pre [e 0,e 1,e 2,e 3,e 4,e 5,e 6,e 7]):Zp0.Xat [Wi f1,Qge f2] ⟨fun ys=>ys=(Uu f).sem [e 0,e 1,e 2,e 3,e 4,e 5,e 6,e 7],[]⟩ e:=by
 have p0:0<e 0:=by have:=hp.1;omega
 simp only[Zp0,Wi,Qge,Uu,Qq.Xat,xw,xws,Nat.reduceAdd,O0,O3,List.map,Qn,Ql,Qp,D.ev,O4,O9];refine⟨trivial,fun a1 _ a2 _=>⟨p0,fun a3 _=>?_⟩⟩;rw[a3,a1,a2];congr 2;generalize e 6*e 7=x;omega
theorem Zpx{v x:Int}{n:Nat}(h:v=Qm .shr .u64 x n)(hn:n<=63):v=x/2^n:=by
 rw[h];simp only[Qm,Mi];rw[show min n IntKind.u64.bits=n by simp[IntKind.bits];omega];rw[Kl _ (by exact_mod_cast Nat.zero_le _)];simp
def Zqg:Qq:=(xw 0 [.v 7] 8 [kI]
(.l 9 kI (.bin .sub .i64 (.v 8) (.lit 1))
(.loop [.v 9,.lit 1] [kI,kU] 10
(.l 12 .bit (.cmp .geq (.v 10) (.lit 0))
(.split 12
(xw 1 [.v 0,.v 1,.v 2,.v 3,.v 4,.v 5,.v 11,.v 11] 13 qia
(.l 14 .bit (.cmp .leq (.lit 0) (.v 10))
(.l 15 kU (.bin .shr .u64 (.v 7) (.v 10))
(.nz (.v 14)
(.l 16 kU (.bin .and .u64 (.v 15) (.lit 1))
(.l 17 .bit (.cmp .eql (.v 16) (.lit 1))
(.split 17
(xw 1 [.v 0,.v 1,.v 2,.v 3,.v 4,.v 5,.v 13,.v 6] 18 qia
(.l 19 kI (.bin .sub .i64 (.v 10) (.lit 1))
(.back 0 [.v 19,.v 18])))
(.l 18 kI (.bin .sub .i64 (.v 10) (.lit 1))
(.back 0 [.v 18,.v 13])))))))))
(.ret [.v 11]))))))
theorem Zkl(f1 f2 f:FuncId)(e:Nat->Int)(hk:Q0 [.int .u64,.int .u64,.int .u64,.int .u64,.int .u64,.bit,.int .u64,.int .u64] [e 0,e 1,e 2,e 3,e 4,e 5,e 6,e 7])(hp:(Qjr f).pre [e 0,e 1,e 2,e 3,e 4,e 5,e 6,e 7]):Zqg.Xat [Uv f1,Uu f2] ⟨fun ys=>ys=(Qjr f).sem [e 0,e 1,e 2,e 3,e 4,e 5,e 6,e 7],[]⟩ e:=by
 have hp:pOk (e 0):=hp;have p0:0<e 0:=by have:=hp.1;omega
 obtain⟨_,_,_,_,_,_,h6,h7,_⟩:=hk;have u6:=Zb h6;have u7:=Zb h7;simp only[Zqg,Uv,Uu,Qjr,Qq.Xat,xw,xws,Nat.reduceAdd,O0,O3,List.map,Qn,Ql,Qp,D.ev,O4,O9];refine⟨trivial,fun a8 _ a9 _=>?_⟩;have b0:=Qap (e 7);have b1:=Jh 64 (e 7) u7.1 (by rw[Qsc];exact u7.2);have c9:e 9=X5 (e 7)-1:=by rw[a9,a8];simp only[Qm,wr];omega
 rw[Zvb p0 u6.1];refine⟨fun l=>Zn2 (e 0) (e 6) (e 7) l/\l.headD 0<=63,fun|[i,_]=>(i+1).toNat|_=>0,?_,fun e' he hkk hI=>?_⟩
 ·rw[c9];refine⟨⟨by omega,by omega,?_⟩,by show X5 (e 7)-1<=63;omega⟩;rw[Hq];have h1:e 7/2^(X5 (e 7)).toNat=0:=by
   by_cases hc:e 7<2^(X5 (e 7)).toNat
   ·exact Hl u7.1 hc
   ·have:=Qil (X5 (e 7)).toNat (e 7) (by omega);omega
  rw[h1,H8,Oal];exact(Oy (by decide) (by have:=hp.1;omega)).symm
 ·obtain⟨⟨i1,i2,i3⟩,i4⟩:Zn2 (e 0) (e 6) (e 7) [e' 10,e' 11]/\e' 10<=63:=hI;simp only[he 0 (by decide),he 1 (by decide),he 2 (by decide),he 3 (by decide),he 4 (by decide),he 5 (by decide),he 6 (by decide),he 7 (by decide)];intro a12 _;have b12:=Qdf a12;refine⟨fun hs=>?_,fun hs=>?_⟩
  ·obtain⟨n,hi⟩:=Oz (show 0<=e' 10 by omega);rw[hi,show((n:Int)+1).toNat=n+1 by omega]at i3;refine⟨hp,fun a13 _ a14 _ a15 _=>⟨Xf a14 (by omega),fun a16 _ a17 _=>?_⟩⟩;have b17:=Zy a17;rw[hi]at a15;have c15:=Zpx a15 (by omega);have hq:(0:Int)<2^n:=K2 (by decide);have u15:U (e' 15):=by
    rw[c15];exact⟨M9 u7.1 (by omega),Int.lt_of_le_of_lt (K7 _ u7.1) u7.2⟩
   have c16:=Qkp a16 u15;rw[c15]at c16;refine⟨fun hs2=>?_,fun hs2=>?_⟩
   ·refine⟨hp,fun a18 _ a19 _=>?_⟩;have h19:e' 19=n-1:=by rw[a19];simp only[Qm,wr];omega
    show(Zn2 (e 0) (e 6) (e 7) [e' 19,e' 18]/\e' 19<=63)/\(e' 19+1).toNat<(e' 10+1).toNat;rw[h19,hi];refine⟨⟨⟨by omega,by omega,?_⟩,by omega⟩,by omega⟩;rw[show((n:Int)-1+1).toNat=n by omega];exact Zcj u7.1 i3 a13 a18 (by omega)
   ·intro a18 _;have h18:e' 18=n-1:=by rw[a18];simp only[Qm,wr];omega
    show(Zn2 (e 0) (e 6) (e 7) [e' 18,e' 13]/\e' 18<=63)/\(e' 18+1).toNat<(e' 10+1).toNat;rw[h18,hi];refine⟨⟨⟨by omega,by omega,?_⟩,by omega⟩,by omega⟩;rw[show((n:Int)-1+1).toNat=n by omega];exact Zcf u7.1 i3 a13 (by omega)
  ·have h1:e' 10=-1:=by omega
   rw[i3,h1];show[e 6^(e 7/1).toNat%e 0]=_;rw[Oan]
def Zpi:Qq:=(.l 7 kU (.bin .sub .u64 (.v 0) (.lit 2))
(xw 0 [.v 0,.v 1,.v 2,.v 3,.v 4,.v 5,.v 6,.v 7] 8 qia
(.ret [.v 8])))
theorem Zi0(f1 f:FuncId)(e:Nat->Int)(hk:Q0 [.int .u64,.int .u64,.int .u64,.int .u64,.int .u64,.bit,.int .u64] [e 0,e 1,e 2,e 3,e 4,e 5,e 6])(hp:(Qmw f).pre [e 0,e 1,e 2,e 3,e 4,e 5,e 6]):Zpi.Xat [Qjr f1] ⟨fun ys=>ys=(Qmw f).sem [e 0,e 1,e 2,e 3,e 4,e 5,e 6],[]⟩ e:=by
 have hp:pOk (e 0):=hp;have p0:=hp.1;have p1:=hp.2;simp only[Zpi,Qjr,Qmw,Qq.Xat,xw,xws,Nat.reduceAdd,O0,O3,List.map,Qn,Ql,Qp,D.ev,O4,O9];intro a7 _;have c7:e 7=e 0-2:=by rw[a7];simp only[Qm,wr];omega
 refine⟨hp,fun a8 _=>?_⟩;rw[a8,c7];rfl
def Qzg:Qq:=(xw 0 [.v 0,.v 1,.v 2,.v 3,.v 4,.v 5,.v 6,.v 6] 247 qia
(xw 0 [.v 0,.v 1,.v 2,.v 3,.v 4,.v 5,.v 247,.v 6] 343 qia
(xw 1 [.v 0,.v 1,.v 2,.v 3,.v 4,.v 5,.v 343,.v 6] 439 qia
(.ret [.v 439]))))
theorem Qxk(f1 f2 f:FuncId)(e:Nat->Int)(hp:(Qaa f).pre [e 0,e 1,e 2,e 3,e 4,e 5,e 6]):Qzg.Xat [Uu f1,Qd3 f2] ⟨fun ys=>ys=(Qaa f).sem [e 0,e 1,e 2,e 3,e 4,e 5,e 6],[]⟩ e:=by
 obtain⟨hp,hx⟩:pOk (e 0)/\e 6<e 0:=hp;have p0:=hp.1;simp only[Qzg,Uu,Qd3,Qaa,Qq.Xat,xw,xws,Nat.reduceAdd,O0,O3,List.map,Qn,Ql,Qp,D.ev,O4,O9];refine⟨hp,fun a1 _=>⟨hp,fun a2 _=>⟨⟨hp,by rw[a2];exact(Zo (by omega)).2,hx⟩,fun a3 _=>?_⟩⟩⟩;rw[a3,a2,a1];rfl
def Zxu:Qq:=(.split 8
(.l 9 .bit (.cmp .eql (.v 6) (.lit 0))
(.split 9
(.l 10 .bit (.cmp .eql (.v 7) (.lit 0))
(.ret [.v 10]))
(.ret [.lit 0])))
(.l 201 .bit (.cmp .lss (.v 6) (.v 0))
(.split 201
(.l 489 .bit (.cmp .lss (.v 7) (.v 0))
(.split 489
(xw 0 [.v 0,.v 1,.v 2,.v 3,.v 4,.v 5,.v 7,.v 7] 873 qia
(xw 1 [.v 0,.v 1,.v 2,.v 3,.v 4,.v 5,.v 6] 1065 qia
(.l 1113 .bit (.cmp .eql (.v 873) (.v 1065))
(.ret [.v 1113]))))
(.ret [.lit 0])))
(.ret [.lit 0]))))
theorem Zmr(f1 f2 f:FuncId)(e:Nat->Int)(hp:(Qvg f).pre [e 0,e 1,e 2,e 3,e 4,e 5,e 6,e 7,e 8]):Zxu.Xat [Uu f1,Qaa f2] ⟨fun ys=>ys=(Qvg f).sem [e 0,e 1,e 2,e 3,e 4,e 5,e 6,e 7,e 8],[]⟩ e:=by
 have hp:pOk (e 0):=hp;simp only[Zxu,Uu,Qaa,Qvg,Qq.Xat,xw,xws,Nat.reduceAdd,O0,O3,List.map,Qn,Ql,Qp,D.ev,O4,O9];unfold bi;refine⟨fun hz=>?_,fun hz=>?_⟩
 ·intro a9 _;have b9:=Zy a9;refine⟨fun h1=>?_,fun h1=>?_⟩
  ·intro a10 _;have b10:=Zy a10;have:onP (e 0) (e 6) (e 7) (e 8)↔e 7=0:=by unfold onP;rw[if_neg hz];constructor <;> intro h <;> omega
   simp only[this];congr 1;split <;> omega
  ·have:¬onP (e 0) (e 6) (e 7) (e 8):=by unfold onP;rw[if_neg hz];omega
   rw[if_neg this]
 ·intro a1 _;have b1:=Zj a1;have hon:onP (e 0) (e 6) (e 7) (e 8)↔e 6<e 0/\e 7<e 0/\e 7*e 7%e 0=W8 (e 0) (e 6):=by unfold onP;rw[if_pos hz]
  refine⟨fun h1=>?_,fun h1=>?_⟩
  ·intro a2 _;have b2:=Zj a2;refine⟨fun h2=>?_,fun h2=>?_⟩
   ·refine⟨hp,fun a3 _=>⟨⟨hp,by omega⟩,fun a4 _ a5 _=>?_⟩⟩;have b5:=Zy a5;rw[a3,a4]at b5;simp only[hon];congr 1;split
    ·rename_i h;rcases b5 with b5|b5
     ·exact b5.1
     ·exact absurd h.2.2 b5.2
    ·rename_i h;rcases b5 with b5|b5
     ·exact absurd ⟨by omega,by omega,b5.2⟩ h
     ·exact b5.1
   ·rw[if_neg (by rw[hon];omega)]
  ·rw[if_neg (by rw[hon];omega)]
def Qz5:Qq:=(.l 12 .bit (.cmp .neq (.v 6) (.v 9))
(.split 12
(xw 0 [.v 0,.v 1,.v 2,.v 3,.v 4,.v 5,.v 10,.v 7] 301 qia
(xw 0 [.v 0,.v 1,.v 2,.v 3,.v 4,.v 5,.v 9,.v 6] 637 qia
(xw 1 [.v 0,.v 1,.v 2,.v 3,.v 4,.v 5,.v 637] 685 qia
(xw 2 [.v 0,.v 1,.v 2,.v 3,.v 4,.v 5,.v 301,.v 685] 733 qia
(.ret [.v 733,.lit 1])))))
(.l 13 .bit (.cmp .neq (.v 7) (.v 10))
(.split 13
(.ret [.lit 0,.lit 0])
(.l 14 .bit (.cmp .eql (.v 7) (.lit 0))
(.split 14
(.ret [.lit 0,.lit 0])
(xw 2 [.v 0,.v 1,.v 2,.v 3,.v 4,.v 5,.v 6,.v 6] 15 qia
(xw 3 [.v 0,.v 1,.v 2,.v 3,.v 4,.v 5,.v 15,.v 15] 304 qia
(xw 3 [.v 0,.v 1,.v 2,.v 3,.v 4,.v 5,.v 304,.v 15] 400 qia
(xw 3 [.v 0,.v 1,.v 2,.v 3,.v 4,.v 5,.v 400,.lit 1] 448 qia
(xw 3 [.v 0,.v 1,.v 2,.v 3,.v 4,.v 5,.v 7,.v 7] 784 qia
(xw 1 [.v 0,.v 1,.v 2,.v 3,.v 4,.v 5,.v 784] 832 qia
(xw 2 [.v 0,.v 1,.v 2,.v 3,.v 4,.v 5,.v 448,.v 832] 880 qia
(.ret [.v 880,.lit 1]))))))))))))))
theorem Qus(f1 f2 f3 f4 f:FuncId)(e:Nat->Int)(hk:Q0 [.int .u64,.int .u64,.int .u64,.int .u64,.int .u64,.bit,.int .u64,.int .u64,.bit,.int .u64,.int .u64,.bit] [e 0,e 1,e 2,e 3,e 4,e 5,e 6,e 7,e 8,e 9,e 10,e 11])(hp:(Qb6 f).pre [e 0,e 1,e 2,e 3,e 4,e 5,e 6,e 7,e 8,e 9,e 10,e 11]):Qz5.Xat [Qez f1,Qmw f2,Uu f3,Qd3 f4] ⟨fun ys=>ys=(Qb6 f).sem [e 0,e 1,e 2,e 3,e 4,e 5,e 6,e 7,e 8,e 9,e 10,e 11],[]⟩ e:=by
 obtain⟨hp,q1,q2,q3,q4⟩:=hp;have p0:0<e 0:=by have:=hp.1;omega
 have p3:=hp.1;have lt:∀x:Int,x%e 0<e 0:=fun x=>(Zo p0).2
 simp only[Qz5,Qez,Qmw,Uu,Qd3,Qb6,Qq.Xat,xw,xws,Nat.reduceAdd,O0,O3,List.map,Qn,Ql,Qp,D.ev,O4,O9];intro a12 _;have b12:=Qfl a12;refine⟨fun h=>?_,fun h=>?_⟩
 ·refine⟨⟨hp,q4,q2⟩,fun a1 _=>⟨⟨hp,q3,q1⟩,fun a2 _=>⟨hp,fun a3 _=>⟨hp,fun a4 _=>?_⟩⟩⟩⟩;unfold Wj;rw[if_pos (by omega),a4,a1,a3,a2]
 ·intro a13 _;have b13:=Qfl a13;refine⟨fun h1=>?_,fun h1=>?_⟩
  ·unfold Wj;rw[if_neg (by omega),if_pos (by omega)]
  ·intro a14 _;have b14:=Zy a14;refine⟨fun h2=>?_,fun h2=>?_⟩
   ·unfold Wj;rw[if_neg (by omega),if_pos (by omega)]
   ·refine⟨hp,fun a1 _=>⟨⟨hp,by rw[a1];exact lt _,by rw[a1];exact lt _⟩,fun a2 _=>⟨⟨hp,by rw[a2];exact lt _,by rw[a1];exact lt _⟩,fun a3 _=>⟨⟨hp,by rw[a3];exact lt _,by omega⟩,fun a4 _=>⟨⟨hp,q2,q2⟩,fun a5 _=>⟨hp,fun a6 _=>⟨hp,fun a7 _=>?_⟩⟩⟩⟩⟩⟩⟩;unfold Wj;rw[if_neg (by omega),if_neg (by omega),a7,a4,a6,a3,a5,a2,a1]
def Zq7:Qq:=(.split 8
(.ret [.v 9,.v 10,.v 11])
(.split 11
(.ret [.v 6,.v 7,.v 8])
(xw 0 [.v 0,.v 1,.v 2,.v 3,.v 4,.v 5,.v 6,.v 7,.v 8,.v 9,.v 10,.v 11] 12 [kU,.bit]
(.l 14 .bit (.not (.v 13))
(.split 14
(.ret [.lit 0,.lit 0,.lit 1])
(xw 1 [.v 0,.v 1,.v 2,.v 3,.v 4,.v 5,.v 12,.v 12] 255 qia
(xw 2 [.v 0,.v 1,.v 2,.v 3,.v 4,.v 5,.v 255,.v 6] 399 qia
(xw 2 [.v 0,.v 1,.v 2,.v 3,.v 4,.v 5,.v 399,.v 9] 543 qia
(xw 2 [.v 0,.v 1,.v 2,.v 3,.v 4,.v 5,.v 6,.v 543] 1023 qia
(xw 1 [.v 0,.v 1,.v 2,.v 3,.v 4,.v 5,.v 12,.v 1023] 1071 qia
(xw 2 [.v 0,.v 1,.v 2,.v 3,.v 4,.v 5,.v 1071,.v 7] 1215 qia
(.ret [.v 543,.v 1215,.lit 0]))))))))))))
theorem Zfo(f1 f2 f3 f:FuncId)(e:Nat->Int)(hk:Q0 [.int .u64,.int .u64,.int .u64,.int .u64,.int .u64,.bit,.int .u64,.int .u64,.bit,.int .u64,.int .u64,.bit] [e 0,e 1,e 2,e 3,e 4,e 5,e 6,e 7,e 8,e 9,e 10,e 11])(hp:(Qmf f).pre [e 0,e 1,e 2,e 3,e 4,e 5,e 6,e 7,e 8,e 9,e 10,e 11]):Zq7.Xat [Qb6 f1,Uu f2,Qez f3] ⟨fun ys=>ys=(Qmf f).sem [e 0,e 1,e 2,e 3,e 4,e 5,e 6,e 7,e 8,e 9,e 10,e 11],[]⟩ e:=by
 obtain⟨hp,q1,q2,q3,q4⟩:=hp;have p0:0<e 0:=by have:=hp.1;omega
 have lt:∀x:Int,x%e 0<e 0:=fun x=>(Zo p0).2
 simp only[Zq7,Qb6,Uu,Qez,Qmf,Qq.Xat,xw,xws,Nat.reduceAdd,O0,O3,List.map,Qn,Ql,Qp,D.ev,O4,O9];refine⟨fun h=>?_,fun h=>?_⟩
 ·unfold Yg Pt.l;rw[if_pos h]
 refine⟨fun h1=>?_,fun h1=>?_⟩
 ·unfold Yg Pt.l;rw[if_neg (by simpa using h),if_pos h1]
 refine⟨⟨hp,q1,q2,q3,q4⟩,fun a12 _ a13 _ a14 _=>?_⟩;have b14:=Ju a14;refine⟨fun h2=>?_,fun h2=>?_⟩
 ·have hz:(Wj (e 0) (e 6) (e 7) (e 9) (e 10)).2=0:=by rw[<- a13];omega
  unfold Yg Pt.l;rw[if_neg (by simpa using h),if_neg (by simpa using h1)];simp only[hz,if_true]
 ·have hz:¬(Wj (e 0) (e 6) (e 7) (e 9) (e 10)).2=0:=by rw[<- a13];omega
  refine⟨hp,fun a1 _=>⟨⟨hp,by rw[a1];exact lt _,q1⟩,fun a2 _=>⟨⟨hp,by rw[a2];exact lt _,q3⟩,fun a3 _=>⟨⟨hp,q1,by rw[a3];exact lt _⟩,fun a4 _=>⟨hp,fun a5 _=>⟨⟨hp,by rw[a5];exact lt _,q2⟩,fun a6 _=>?_⟩⟩⟩⟩⟩⟩;unfold Yg Pt.l;rw[if_neg (by simpa using h),if_neg (by simpa using h1)];simp only[hz,if_false];rw[a6,a5,a4,a3,a2,a1,a12]
theorem Qn5{p:Int}(hp:0<p){a b:Pt}(ha:a.lt p)(hb:b.lt p):(Yg p a b).lt p:=by
 unfold Yg;split
 ·exact hb
 split
 ·exact ha
 simp only;split
 ·exact⟨⟨Int.le_refl _,hp⟩,Int.le_refl _,hp⟩
 ·exact⟨Zo hp,Zo hp⟩
theorem Za1{p:Int}(hp:0<p){a:Pt}(ha:a.lt p):∀(k n:Nat),(Xa p a k n).lt p
 |0,n=>⟨⟨Int.le_refl _,hp⟩,Int.le_refl _,hp⟩
 |k+1,n=>by
  unfold Xa;split
  ·exact⟨⟨Int.le_refl _,hp⟩,Int.le_refl _,hp⟩
  ·simp only;have h:=Za1 hp ha k (n/2);have hd:=Qn5 hp h h;split
   ·exact Qn5 hp hd ha
   ·exact hd
theorem Qm5{p:Int}{a:Pt}:∀(k n:Nat),n<2^k->Xa p a (k+1) n=Xa p a k n
 |0,n,h=>by
  have:n=0:=by simpa using h
  subst this;rfl
 |k+1,n,h=>by
  have ih:=Qm5 (p:=p) (a:=a) k (n/2) (by rw[Nat.pow_succ]at h;omega);have e1:∀j,Xa p a (j+1) n=if n=0 then⟨0,0,1⟩else(if n%2=1 then Yg p (Yg p (Xa p a j (n/2)) (Xa p a j (n/2))) a else Yg p (Xa p a j (n/2)) (Xa p a j (n/2))):=fun j=>rfl
  rw[e1,e1,ih]
theorem Zdd{p:Int}{a:Pt}{n:Nat}(h:n<2^64):Xa p a 64 n=(if n%2=1 then Yg p (Yg p (Xa p a 64 (n/2)) (Xa p a 64 (n/2))) a else Yg p (Xa p a 64 (n/2)) (Xa p a 64 (n/2))):=by
 have hf:Xa p a 64 (n/2)=Xa p a 63 (n/2):=Qm5 63 (n/2) (by omega);rw[hf]
 conv=>lhs;unfold Xa
 split
 ·rename_i h0;subst h0;rfl
 ·rfl
def Qpv(p:Int)(a:Pt)(n:Int):List Int->Prop
 |[i,x,y,z]=>-1<=i/\i<=63/\(⟨x,y,z⟩:Pt)=Xa p a 64 (n/2^(i+1).toNat).toNat
 |_=>False
def Qzo:Qq:=(xw 0 [.v 9] 10 [kI]
(.l 11 kI (.bin .sub .i64 (.v 10) (.lit 1))
(.loop [.v 11,.lit 0,.lit 0,.lit 1] [kI,kU,kU,.bit] 12
(.l 16 .bit (.cmp .geq (.v 12) (.lit 0))
(.split 16
(xw 1 [.v 0,.v 1,.v 2,.v 3,.v 4,.v 5,.v 13,.v 14,.v 15,.v 13,.v 14,.v 15] 17 qma
(.l 20 .bit (.cmp .leq (.lit 0) (.v 12))
(.l 21 kU (.bin .shr .u64 (.v 9) (.v 12))
(.nz (.v 20)
(.l 22 kU (.bin .and .u64 (.v 21) (.lit 1))
(.l 23 .bit (.cmp .eql (.v 22) (.lit 1))
(.split 23
(xw 1 [.v 0,.v 1,.v 2,.v 3,.v 4,.v 5,.v 17,.v 18,.v 19,.v 6,.v 7,.v 8] 24 qma
(.l 27 kI (.bin .sub .i64 (.v 12) (.lit 1))
(.back 0 [.v 27,.v 24,.v 25,.v 26])))
(.l 24 kI (.bin .sub .i64 (.v 12) (.lit 1))
(.back 0 [.v 24,.v 17,.v 18,.v 19])))))))))
(.ret [.v 13,.v 14,.v 15]))))))
theorem Qwz(f1 f2 f:FuncId)(e:Nat->Int)(hk:Q0 [.int .u64,.int .u64,.int .u64,.int .u64,.int .u64,.bit,.int .u64,.int .u64,.bit,.int .u64] [e 0,e 1,e 2,e 3,e 4,e 5,e 6,e 7,e 8,e 9])(hp:(Qar f).pre [e 0,e 1,e 2,e 3,e 4,e 5,e 6,e 7,e 8,e 9]):Qzo.Xat [Uv f1,Qmf f2] ⟨fun ys=>ys=(Qar f).sem [e 0,e 1,e 2,e 3,e 4,e 5,e 6,e 7,e 8,e 9],[]⟩ e:=by
 obtain⟨hp,q1,q2⟩:=hp;have p0:0<e 0:=by have:=hp.1;omega
 obtain⟨_,_,_,_,_,_,h6,h7,h8,h9,_⟩:=hk;have u6:=Zb h6;have u7:=Zb h7;have u9:=Zb h9;have ha:(⟨e 6,e 7,e 8⟩:Pt).lt (e 0):=⟨⟨u6.1,q1⟩,u7.1,q2⟩
 simp only[Qzo,Uv,Qmf,Qar,Qq.Xat,xw,xws,Nat.reduceAdd,O0,O3,List.map,Qn,Ql,Qp,D.ev,O4,O9];refine⟨trivial,fun a10 _ a11 _=>?_⟩;have b0:=Qap (e 9);have b1:=Jh 64 (e 9) u9.1 (by rw[Qsc];exact u9.2);have c11:e 11=X5 (e 9)-1:=by rw[a11,a10];simp only[Qm,wr];omega
 refine⟨Qpv (e 0) ⟨e 6,e 7,e 8⟩ (e 9),fun|[i,_,_,_]=>(i+1).toNat|_=>0,?_,fun e' he hkk hI=>?_⟩
 ·rw[c11];refine⟨by omega,by omega,?_⟩;rw[Hq];have h1:e 9/2^(X5 (e 9)).toNat=0:=by
   by_cases hc:e 9<2^(X5 (e 9)).toNat
   ·exact Hl u9.1 hc
   ·have:=Qil (X5 (e 9)).toNat (e 9) (by omega);omega
  rw[h1];rfl
 ·obtain⟨i1,i2,i3⟩:Qpv (e 0) ⟨e 6,e 7,e 8⟩ (e 9) [e' 12,e' 13,e' 14,e' 15]:=hI;simp only[he 0 (by decide),he 1 (by decide),he 2 (by decide),he 3 (by decide),he 4 (by decide),he 5 (by decide),he 6 (by decide),he 7 (by decide),he 8 (by decide),he 9 (by decide)];intro a16 _;have b16:=Qdf a16;refine⟨fun hs=>?_,fun hs=>?_⟩
  ·obtain⟨n,hi⟩:=Oz (show 0<=e' 12 by omega);rw[hi,show((n:Int)+1).toNat=n+1 by omega]at i3;have hq:(0:Int)<2^n:=K2 (by decide);have hn0:=M9 u9.1 (show(0:Int)<=2^n by omega);have hn1:e 9/2^n<18446744073709551616:=Int.lt_of_le_of_lt (K7 _ u9.1) u9.2;have hlt:=Za1 p0 ha 64 (e 9/2^(n+1)).toNat;rw[<- i3]at hlt;have hst:=Zdd (p:=e 0) (a:=⟨e 6,e 7,e 8⟩) (n:=(e 9/2^n).toNat) (by omega);have hhalf:(e 9/2^n).toNat/2=(e 9/2^(n+1)).toNat:=by
    rw[L3,<- Kt (by omega)];omega
   rw[hhalf,<- i3]at hst;refine⟨⟨hp,hlt.1.2,hlt.2.2,hlt.1.2,hlt.2.2⟩,fun a17 _ a18 _ a19 _ a20 _ a21 _=>⟨Xf a20 (by omega),fun a22 _ a23 _=>?_⟩⟩;have b23:=Zy a23;rw[hi]at a21;have c21:=Zpx a21 (by omega);have c22:=Qkp a22 (by rw[c21];exact⟨hn0,hn1⟩);rw[c21]at c22;have hd:(⟨e' 17,e' 18,e' 19⟩:Pt)=Yg (e 0) ⟨e' 13,e' 14,e' 15⟩ ⟨e' 13,e' 14,e' 15⟩:=by rw[a17,a18,a19];rfl
   have hdl:=Qn5 p0 hlt hlt;rw[<- hd]at hdl hst;refine⟨fun hs2=>?_,fun hs2=>?_⟩
   ·refine⟨⟨hp,hdl.1.2,hdl.2.2,q1,q2⟩,fun a24 _ a25 _ a26 _ a27 _=>?_⟩;have h27:e' 27=n-1:=by rw[a27];simp only[Qm,wr];omega
    show Qpv (e 0) ⟨e 6,e 7,e 8⟩ (e 9) [e' 27,e' 24,e' 25,e' 26]/\(e' 27+1).toNat<(e' 12+1).toNat;rw[h27,hi];refine⟨⟨by omega,by omega,?_⟩,by omega⟩;rw[show((n:Int)-1+1).toNat=n by omega,hst,if_pos (by omega),a24,a25,a26];rfl
   ·intro a24 _;have h24:e' 24=n-1:=by rw[a24];simp only[Qm,wr];omega
    show Qpv (e 0) ⟨e 6,e 7,e 8⟩ (e 9) [e' 24,e' 17,e' 18,e' 19]/\(e' 24+1).toNat<(e' 12+1).toNat;rw[h24,hi];refine⟨⟨by omega,by omega,?_⟩,by omega⟩;rw[show((n:Int)-1+1).toNat=n by omega,hst,if_neg (by omega)]
  ·have h1:e' 12=-1:=by omega
   rw[h1]at i3;have h2:(⟨e' 13,e' 14,e' 15⟩:Pt)=Xa (e 0) ⟨e 6,e 7,e 8⟩ 64 (e 9).toNat:=by
    rw[i3];congr 2;show e 9/1=e 9;rw[Oan]
   rw[<- h2];rfl
def Zvp:Qq:=(xw 0 [.v 0,.v 1,.v 2,.v 3,.v 4,.v 5,.v 6,.v 7,.v 8] 9 qga
(.split 9
(xw 1 [.v 0,.v 1,.v 2,.v 3,.v 4,.v 5,.v 6,.v 7,.v 8,.v 1] 10 qma
(.ret [.v 12]))
(.ret [.lit 0])))
theorem Zoa(f1 f2 f:FuncId)(e:Nat->Int)(hk:Q0 [.int .u64,.int .u64,.int .u64,.int .u64,.int .u64,.bit,.int .u64,.int .u64,.bit] [e 0,e 1,e 2,e 3,e 4,e 5,e 6,e 7,e 8])(hp:(Qwn f).pre [e 0,e 1,e 2,e 3,e 4,e 5,e 6,e 7,e 8]):Zvp.Xat [Qvg f1,Qar f2] ⟨fun ys=>ys=(Qwn f).sem [e 0,e 1,e 2,e 3,e 4,e 5,e 6,e 7,e 8],[]⟩ e:=by
 have hp:pOk (e 0):=hp;have p0:=hp.1;simp only[Zvp,Qvg,Qar,Qwn,Qq.Xat,xw,xws,Nat.reduceAdd,O0,O3,List.map,Qn,Ql,Qp,D.ev,O4,O9];refine⟨hp,fun a9 _=>?_⟩;unfold bi at a9 ⊢;refine⟨fun h=>?_,fun h=>?_⟩
 ·have hon:onP (e 0) (e 6) (e 7) (e 8):=by
   by_cases hc:onP (e 0) (e 6) (e 7) (e 8)
   ·exact hc
   ·rw[if_neg hc]at a9;omega
  have hb:e 6<e 0/\e 7<e 0:=by
   unfold onP at hon;split at hon <;> omega
  refine⟨⟨hp,hb.1,hb.2⟩,fun a10 _ a11 _ a12 k12=>?_⟩;have hz:e 12=(Xa (e 0) ⟨e 6,e 7,e 8⟩ 64 (e 1).toNat).z:=a12;have k12:0<=e 12/\e 12<=1:=k12;by_cases hc:(Xa (e 0) ⟨e 6,e 7,e 8⟩ 64 (e 1).toNat).z≠0
  ·rw[if_pos ⟨hon,hc⟩];congr 1;omega
  ·rw[if_neg (fun hh=>hc hh.2)];congr 1;omega
 ·have hon:¬onP (e 0) (e 6) (e 7) (e 8):=fun hc=>by rw[if_pos hc]at a9;omega
  rw[if_neg (fun hh=>hon hh.1)]
end Go.Sx

namespace Go.Sx
open Go Go.RowKit
set_option maxRecDepth 100000
structure Hom {α β:Type} (Ra:Rg α) (Rb:Rg β) (S:α->β->Prop):Prop where
 add:∀ {a b c d},S a b->S c d->S (Ra.add a c) (Rb.add b d)
 sub:∀ {a b c d},S a b->S c d->S (Ra.sub a c) (Rb.sub b d)
 mul:∀ {a b c d},S a b->S c d->S (Ra.mul a c) (Rb.mul b d)
 md:∀ {a b},S a b->S (Ra.md a) (Rb.md b)
 isz:∀ {a b},S a b->Ra.isz a=Rb.isz b
 za:Ra.isz Ra.zero=true
 zb:Rb.isz Rb.zero=true
 ob:¬Rb.isz Rb.one=true
 m1:∀ {a b},S a b->S a (Rb.mul b (Rb.mul Rb.one Rb.one))
 m2:∀ {a b},S a b->S a (Rb.mul b (Rb.mul (Rb.mul Rb.one Rb.one) Rb.one))
 m3:∀ {a b h k},S a b->S h k->S (Ra.mul a h) (Rb.mul k (Rb.mul b Rb.one))
 dz:∀ {y z},Rb.isz y=true∨Rb.isz z=true->Rb.isz (Rb.add (Rb.mul y z) (Rb.mul y z))=true
 ma:∀ {a},Ra.isz (Ra.md a)=Ra.isz a
 mb:∀ {b},Rb.isz (Rb.md b)=Rb.isz b
section
variable {α β:Type}{Ra:Rg α}{Rb:Rg β}{S:α->β->Prop}
end
def S1(A:E2)(a:Int):Prop:=A.1%bP=a%bP/\A.2%bP=0
theorem one_ne:¬(1:Int)%bP=0:=by decide
theorem Qif{x y:Int}(h:x%bP=0)(k:y%bP=0):(x+y)%bP=0:=by rw[Int.add_emod,h,k];rfl
theorem Zo0{x y:Int}(h:x%bP=0)(k:y%bP=0):(x-y)%bP=0:=by rw[Int.sub_emod,h,k];rfl
theorem X4{x:Int}(y:Int)(h:x%bP=0):(x*y)%bP=0:=by rw[Int.mul_emod,h,Oab];rfl
end Go.Sx


namespace Go.Sx
open Go Go.RowKit
set_option maxRecDepth 100000
def Xr(l:List Int):Int:=l.foldl (fun a b=>256*a+b) 0
theorem Zzd{a k s:Int}(hk:0<=k/\k<6)(hs:s=([Q1 a 0,Q1 a 1,Q1 a 2,Q1 a 3,Q1 a 4,Q1 a 5]:List Int).getD k.toNat 0):s=Q1 a k.toNat:=by
 have:k=0∨k=1∨k=2∨k=3∨k=4∨k=5:=by omega
 rw[hs];rcases this with h|h|h|h|h|h <;> rw[h] <;> rfl
theorem Zxs{r:Nat}(h:r<=64):min r IntKind.u64.bits=r:=by show min r 64=r;omega
theorem Zyt{i v:Int}(d:Int)(hd:0<d)(hi:0<=i/\i<9223372036854775808)(h:v=Qm .quo .i64 i d):v=i/d:=by
 have h0:0<=i/d:=M9 hi.1 (by omega);have h1:i/d<=i:=K7 _ hi.1;rw[h];simp only[Qm,wr];rw[Kw hi.1];omega
theorem Zzh{i v:Int}(d:Int)(hi:0<=i)(h:v=Qm .rem .i64 i d):v=i%d:=by
 rw[h];simp only[Qm];rw[Mt hi]
theorem Zzc{r v:Int}(hr:0<=r/\r<8)(h:v=Qm .mul .i64 8 r):v=8*r:=by
 rw[h];simp only[Qm,wr];omega
theorem Zwb{a b v:Int}(h:v=Qm .sub .i64 a b)(h0:-9223372036854775808<=a-b/\a-b<=9223372036854775807):v=a-b:=by
 rw[h];simp only[Qm,wr];omega
theorem Zcq{a b v:Int}(h:v=Qm .add .i64 a b)(h0:-9223372036854775808<=a+b/\a+b<=9223372036854775807):v=a+b:=by
 rw[h];simp only[Qm,wr];omega
theorem Zdx{q k v d p0 p1 p2 p3 p4 p5:Int}(hq:0<=q/\q<Qw)(hk:0<=k/\k<6)(hv:v=Q1 q k.toNat+d)
  (h0:p0=if k=((0:Nat):Int)then v else Q1 q 0) (h1:p1=if k=((1:Nat):Int)then v else Q1 q 1) (h2:p2=if k=((2:Nat):Int)then v else Q1 q 2) (h3:p3=if k=((3:Nat):Int)then v else Q1 q 3) (h4:p4=if k=((4:Nat):Int)then v else Q1 q 4) (h5:p5=if k=((5:Nat):Int)then v else Q1 q 5) :
  Y6 [p0,p1,p2,p3,p4,p5]=q+d*2^(64*k.toNat):=by
 have ex:=Z4 hq;rw[Ul];have:k=0∨k=1∨k=2∨k=3∨k=4∨k=5:=by omega
 have p0':(2:Int)^(64*0)=1:=rfl;have p1':(2:Int)^(64*1)=18446744073709551616:=Qsc;have p2':(2:Int)^(64*2)=340282366920938463463374607431768211456:=Zvx;have p3':(2:Int)^(64*3)=6277101735386680763835789423207666416102355444464034512896:=by decide +kernel
 have p4':(2:Int)^(64*4)=115792089237316195423570985008687907853269984665640564039457584007913129639936:=by decide +kernel
 have p5':(2:Int)^(64*5)=2135987035920910082395021706169552114602704522356652769947041607822219725780640550022962086936576:=by decide +kernel
 rcases this with h|h|h|h|h|h <;> subst h
 ·rw[show(0:Int).toNat=0 from rfl]at *
  rw[p0',h0,h1,h2,h3,h4,h5];simp[hv];omega
 ·rw[show(1:Int).toNat=1 from rfl]at *
  rw[p1',h0,h1,h2,h3,h4,h5];simp[hv];omega
 ·rw[show(2:Int).toNat=2 from rfl]at *
  rw[p2',h0,h1,h2,h3,h4,h5];simp[hv];omega
 ·rw[show(3:Int).toNat=3 from rfl]at *
  rw[p3',h0,h1,h2,h3,h4,h5];simp[hv];omega
 ·rw[show(4:Int).toNat=4 from rfl]at *
  rw[p4',h0,h1,h2,h3,h4,h5];simp[hv];omega
 ·rw[show(5:Int).toNat=5 from rfl]at *
  rw[p5',h0,h1,h2,h3,h4,h5];simp[hv];omega
theorem Zud{v c m:Int}(hc:0<=c)(hm:0<=m/\m<=64)(h:v=Qm .shl .u64 c m)(hlt:c*2^m.toNat<18446744073709551616):v=c*2^m.toNat:=by
 have h1:=Qk7 _ h rfl;rw[Zxs (by omega),Kj]at h1;have:(0:Int)<=c*2^m.toNat:=Kx hc (Int.pow_nonneg (by decide));rw[h1];show c*2^m.toNat%18446744073709551616=_;exact Oy this hlt
theorem Zjz{q i k r m s sh v c p0 p1 p2 p3 p4 p5:Int}(hq:0<=q/\q<Qw)(hi:0<=i/\i<48)(hk:k=i/8)(hr:r=i%8)(hm:m=8*r)(hc:0<=c/\c<=255)
  (hs:s=([Q1 q 0,Q1 q 1,Q1 q 2,Q1 q 3,Q1 q 4,Q1 q 5]:List Int).getD k.toNat 0) (hsh:sh=Qm .shl .u64 c m) (hv:v=Qm .or .u64 s sh)
  (h0:p0=if k=((0:Nat):Int)then v else Q1 q 0) (h1:p1=if k=((1:Nat):Int)then v else Q1 q 1) (h2:p2=if k=((2:Nat):Int)then v else Q1 q 2) (h3:p3=if k=((3:Nat):Int)then v else Q1 q 3) (h4:p4=if k=((4:Nat):Int)then v else Q1 q 4) (h5:p5=if k=((5:Nat):Int)then v else Q1 q 5)
  {Q:Int} (hd:q=2^(8*(i+1).toNat)*Q) (hQ:0<=Q):Y6 [p0,p1,p2,p3,p4,p5]=q+c*2^(8*i.toNat):=by
 have hsl:=Zzd (by omega) hs;have hpr:(0:Int)<2^(8*r.toNat):=K2 (by decide);have e8:(2:Int)^(8*r.toNat+8)=2^(8*r.toNat)*256:=by rw[Kz];rfl
 have e1:q/2^(64*k.toNat)=2^(8*r.toNat+8)*Q:=by
  rw[hd,show 8*(i+1).toNat=64*k.toNat+(8*r.toNat+8) by omega,Kz,K9];exact Int.mul_ediv_cancel_left _ (Int.ne_of_gt (K2 (by decide)))
 have e2:(18446744073709551616:Int)=2^(8*r.toNat+8)*2^(56-8*r.toNat):=by
  rw[<- Kz,show 8*r.toNat+8+(56-8*r.toNat)=64 by omega,Qsc]
 have e3:s=2^(8*r.toNat+8)*(Q%2^(56-8*r.toNat)):=by
  rw[hsl,Qyr,e1,e2,Int.mul_emod_mul_of_pos _ _ (by rw[e8];omega)]
 have hp2:(0:Int)<2^(56-8*r.toNat):=K2 (by decide);have hw0:=Mw Q (show(2:Int)^(56-8*r.toNat)≠0 by omega);have hw1:=Mv Q hp2;have h6:2^(8*r.toNat+8)*(Q%2^(56-8*r.toNat)+1)<=2^(8*r.toNat+8)*2^(56-8*r.toNat):=Int.mul_le_mul_of_nonneg_left (by omega) (by rw[e8];omega);rw[<- e2,Int.mul_add,<- e3,Hg,e8]at h6;have hcb:c*2^(8*r.toNat)<=255*2^(8*r.toNat):=M4 hc.2 (by omega);have hs0:0<=s:=by rw[hsl];exact(Qt q _).1
 have hc0:0<=c*2^(8*r.toNat):=Kx hc.1 (by omega);have hm':m.toNat=8*r.toNat:=by omega
 have hsh':=Zud hc.1 (by omega) hsh (by rw[hm'];omega);rw[hm']at hsh';have hvs:v=s+c*2^(8*r.toNat):=by
  rw[hsh']at hv;refine Qbl (k:=8*r.toNat+8) (q:=Q%2^(56-8*r.toNat)) hv (by rw[Kj,e3,M0];rfl) hw0 ⟨hc0,?_⟩ (by omega);rw[Kj];show _<(2:Int)^(8*r.toNat+8);rw[e8];omega
 have:=Zdx (d:=c*2^(8*r.toNat)) hq (by omega) (hvs.trans (by rw[hsl])) h0 h1 h2 h3 h4 h5;rw[this,K9,<- Kz,show 8*r.toNat+64*k.toNat=8*i.toNat by omega]
noncomputable def Qph(f:FuncId):K:={fn:=f,ext:=false,ins:=[.lst (.int .u8)],outs:=[oN,oI],pre:=fun _=>True,sem:=fun|[l]=>if(dec l).length<=48 then[Xr (dec l),0]else[0,3]|_=>[] }
theorem Zcy(l:List Int)(c:Int):Xr (l++[c])=256*Xr l+c:=by simp[Xr]
theorem Qim{l:List Int}{i:Nat}(h:i<l.length):Xr (l.take (i+1))=256*Xr (l.take i)+l.getD i 0:=by
 rw[Ki h,Zcy,Ou,O1 h];rfl
theorem Zcv{l:List Int}(h:∀z∈l,(0:Int)<=z/\z<=255):0<=Xr l/\Xr l<2^(8*l.length):=by
 suffices hs:∀n,n<=l.length->0<=Xr (l.take n)/\Xr (l.take n)<2^(8*n) by
  have:=hs l.length (Nat.le_refl _);rwa[Mg (Nat.le_refl _)]at this
 intro n
 induction n with
 |zero=>intro _;exact⟨Int.le_refl _,(show(0:Int)<1 by decide)⟩
 |succ n ih =>
  intro hn;obtain⟨h1,h2⟩:=ih (by omega);have hz:=h _ (Kk (show n<l.length by omega));rw[Qim (by omega),Ou,O1 (by omega),Kh,show 8*(n+1)=8*n+8 by omega,Kz,show(2:Int)^8=256 from rfl];omega
theorem Zw3{l:List Int}(h:(LK.int .u8).hasL l){i:Nat}(hi:i<l.length):0<=l.getD i 0/\l.getD i 0<=255:=by
 rw[Ou,O1 hi];exact h.2 _ (Kk hi)
theorem Zcn{l:List Int}{i:Nat}{o o':Int}(hl:(LK.int .u8).hasL l)(hi:i<l.length)(ho:o=Xr (l.take i)*2^(8*(l.length-i)))(ho':o'=o+l.getD i 0*2^(8*(l.length-1-i))):o'=Xr (l.take (i+1))*2^(8*(l.length-(i+1))):=by
 rw[ho',ho,Qim hi,show 8*(l.length-i)=8*(l.length-1-i)+8 by omega,show 8*(l.length-(i+1))=8*(l.length-1-i) by omega,Kz,show(2:Int)^8=256 from rfl];generalize (2:Int)^(8*(l.length-1-i))=z
 grind
theorem Zfz{l:List Int}{i:Nat}{o:Int}(hi:i<l.length)(ho:o=Xr (l.take i)*2^(8*(l.length-i))){k:Int}(hk:k=l.length-1-i):o=2^(8*(k+1).toNat)*Xr (l.take i):=by
 rw[ho,M0,show l.length-i=(k+1).toNat by omega]
theorem Zg9{l:List Int}(h:(LK.int .u8).hasL l)(n:Nat):0<=Xr (l.take n):=(Zcv fun z hz=>h.2 z (H4 hz)).1
def Zhz:Qq:=(.l 1 kI (.llen (.v 0))
(.l 2 .bit (.c .gtr (.v 1) (.n 48))
(.split 2
(.ret [.n 0,.n 3])
(.l 3 kI (.llen (.v 0))
(.loop [.n 0,.n 0] [kI,.num] 4
(.l 6 .bit (.c .lss (.v 4) (.v 3))
(.split 6
(.l 7 kI (.llen (.v 0))
(.l 8 .bit (.c .leq (.n 0) (.v 4))
(.l 9 .bit (.c .lss (.v 4) (.v 7))
(.nz (.v 8)
(.nz (.v 9)
(.l 10 kB (.lget (.v 0) (.v 4))
(.l 11 kI (.llen (.v 0))
(.l 12 kI (.b .sub .i64 (.v 11) (.n 1))
(.l 13 kI (.b .sub .i64 (.v 12) (.v 4))
(.l 62 kI (.b .quo .i64 (.v 13) (.n 8))
(.l 110 .bit (.c .leq (.n 0) (.v 62))
(.l 111 .bit (.c .lss (.v 62) (.n 6))
(.nz (.v 110)
(.nz (.v 111)
(.l 158 kU (.sel (.v 62) [.m 5 0,.m 5 1,.m 5 2,.m 5 3,.m 5 4,.m 5 5])
(.l 350 kI (.b .rem .i64 (.v 13) (.n 8))
(.l 398 kI (.b .mul .i64 (.n 8) (.v 350))
(.l 446 .bit (.c .leq (.n 0) (.v 398))
(.l 447 kU (.b .shl .u64 (.v 10) (.v 398))
(.nz (.v 446)
(.l 494 kU (.b .or .u64 (.v 158) (.v 447))
(.l 542 .bit (.c .leq (.n 0) (.v 62))
(.l 543 .bit (.c .lss (.v 62) (.n 6))
(.nz (.v 542)
(.nz (.v 543)
(.l 590 kU (.put (.v 62) 0 (.v 494) (.m 5 0))
(.l 591 kU (.put (.v 62) 1 (.v 494) (.m 5 1))
(.l 592 kU (.put (.v 62) 2 (.v 494) (.m 5 2))
(.l 593 kU (.put (.v 62) 3 (.v 494) (.m 5 3))
(.l 594 kU (.put (.v 62) 4 (.v 494) (.m 5 4))
(.l 595 kU (.put (.v 62) 5 (.v 494) (.m 5 5))
(.l 638 kI (.b .add .i64 (.v 4) (.n 1))
(.l 639 .num (.join [.v 590,.v 591,.v 592,.v 593,.v 594,.v 595])
(.back 0 [.v 638,.v 639]))))))))))))))))))))))))))))))))))
(.ret [.v 5,.n 0]))))))))
theorem Zce(f:FuncId)(e:Nat->Int)(hk:Q0 [.lst (.int .u8)] [e 0]):Zhz.Xat [] ⟨fun ys=>ys=(Qph f).sem [e 0],[]⟩ e:=by
 obtain⟨l,d0⟩:∃l,dec (e 0)=l:=⟨_,rfl⟩
 have hl:(LK.int .u8).hasL l:=by rw[<- d0];exact hk.1
 show Zhz.Xat _ ⟨fun ys=>ys=if(dec (e 0)).length<=48 then[Xr (dec (e 0)),0]else[0,3],[]⟩ e;rw[d0];clear hk;intro a1 _ a2 _;have v1:e 1=(l.length:Int):=by rw[<- d0];exact a1
 have b2:=Qeq a2;simp only[Ql,Qn]at b2;refine⟨fun h=>?_,fun h=>?_⟩
 ·have:=Xn b2 h;rw[if_neg (by omega)];rfl
 have hn:l.length<=48:=by have:=Wc b2 h;omega
 rw[if_pos hn];intro a3 _;have v3:e 3=(l.length:Int):=by rw[<- d0];exact a3
 refine⟨fun|[i,o]=>(0<=i/\i<=l.length)/\o=Xr (l.take i.toNat)*2^(8*(l.length-i.toNat))|_=>False,fun|[i,_]=>(l.length-i).toNat|_=>0,⟨⟨Int.le_refl _,(show(0:Int)<=l.length by omega)⟩,(show(0:Int)=0*_ by rw[Oab])⟩,fun e' he hkk hI=>?_⟩;obtain⟨⟨i0,i1⟩,q5⟩:(0<=e' 4/\e' 4<=l.length)/\e' 5=Xr (l.take (e' 4).toNat)*2^(8*(l.length-(e' 4).toNat)):=hI;have k5:0<=e' 5/\e' 5<Qw:=hkk.2.1;have d0:=(congrArg dec (he 0 (by decide))).trans d0;have v3:=(he 3 (by decide)).trans v3;clear he hkk a1 a2 a3 v1 b2 h;intro a6 _;have b6:=Zj a6;simp only[Ql]at b6;refine⟨fun h=>?_,fun h=>?_⟩
 ·have c6:e' 4<l.length:=by have:=Xn b6 h;omega
  intro a7 _ a8 _ a9 _;have v7:e' 7=(l.length:Int):=by rw[<- d0];exact a7
  refine⟨Xf a8 i0,Xi a9 (by show e' 4<e' 7;omega),fun a10 _ a11 _ a12 _ a13 _ a62 _ a110 _ a111 _=>?_⟩;have v10:e' 10=l.getD (e' 4).toNat 0:=by rw[<- d0];exact a10
  have v11:e' 11=(l.length:Int):=by rw[<- d0];exact a11
  have v12:=Zwb (a:=e' 11) (b:=1) a12 (by omega);have v13:=Zwb (a:=e' 12) (b:=e' 4) a13 (by omega);have v62:=Zyt (i:=e' 13) 8 (by decide) (by omega) a62;refine⟨Xf a110 (by show 0<=e' 62;omega),Xi a111 (by show e' 62<6;omega),fun a158 _ a350 _ a398 _ a446 _ a447 _=>?_⟩;have v350:=Zzh (i:=e' 13) 8 (by omega) a350;have v398:=Zzc (r:=e' 350) (by omega) a398;refine⟨Xf a446 (by show 0<=e' 398;omega),fun a494 _ a542 _ a543 _=>⟨Xf a542 (by show 0<=e' 62;omega),Xi a543 (by show e' 62<6;omega),fun a590 _ a591 _ a592 _ a593 _ a594 _ a595 _ a638 _ a639 _=>?_⟩⟩;have hc:=Zw3 hl (i:=(e' 4).toNat) (by omega);rw[<- v10]at hc;have hp:=Zjz k5 (i:=e' 13) (by omega) v62 v350 v398 hc a158 a447 a494 a590 a591 a592 a593 a594 a595 (Zfz (by omega) q5 (by omega)) (Zg9 hl _);have v638:=Zcq (a:=e' 4) (b:=1) a638 (by omega);show((0<=e' 638/\e' 638<=l.length)/\e' 639=Xr (l.take (e' 638).toNat)*2^(8*(l.length-(e' 638).toNat)))/\(l.length-e' 638).toNat<(l.length-e' 4).toNat;refine⟨⟨by omega,?_⟩,by omega⟩;rw[show(e' 638).toNat=(e' 4).toNat+1 by omega];refine Zcn hl (by omega) q5 ?_;rw[<- v10,show l.length-1-(e' 4).toNat=(e' 13).toNat by omega];exact(show e' 639=Y6 [e' 590,e' 591,e' 592,e' 593,e' 594,e' 595]from a639).trans hp
 ·have c6:e' 4=l.length:=by have:=Wc b6 h;omega
  show[e' 5,0]=[Xr l,0]
  rw[q5,c6,Mi,Mg (Nat.le_refl _),Nat.sub_self,Nat.mul_zero,Oal,Hg]
end Go.Sx

namespace Go.Sx
open Go Go.RowKit
set_option maxRecDepth 100000
noncomputable def Qof(f:FuncId):K:={fn:=f,ext:=false,ins:=[iN],outs:=[oB],pre:=fun _=>True,sem:=fun|[a]=>[bj (a<bP)]|_=>[] }
def eR:Nat:=((bP+1)/4).toNat
def Ue(a:Int):Int:=a^eR%bP
def sqV(a:Int):Prop:=Ue a*Ue a%bP=a%bP
theorem Qyg(a:Int):Ue (a%bP)=Ue a:=U8 (Kv _ (H3 _)) _
theorem Zn3(a:Int):sqV (a%bP)↔sqV a:=by unfold sqV;rw[Qyg,Kv _ (H3 _)]
theorem Zkq{c:Int}(h0:0<c)(h1:c<bP):(-c)%bP=bP-c:=J1 (-1) (by omega) (by omega) (by omega)
def Zjh(f:FuncId):K:={fn:=f,ext:=false,ins:=[iN,.one (.cst (.int .i64 (.lit (-2))))],outs:=[oN],pre:=fun _=>True,sem:=fun|[a]=>[a/4]|_=>[] }
theorem Qsj{v s r ln lj:Int}(h:v=Qm .or .u64 s r)(hs:s=Qm .shl .u64 ln 62)(hr:r=Qm .shr .u64 lj 2)(un:U ln)(uj:U lj):v=ln%4*4611686018427387904+lj/4:=by
 have h1:=Qk7 4611686018427387904 hs (by decide);have h2:=Vv 4 hr rfl (by decide);unfold U at *
 simp only[wr]at h1;rw[Qbl (k:=62) (q:=ln%4) h (by omega) (by omega) (by omega) (by omega)];omega
theorem Zxv{v r lj:Int}(h:v=Qm .or .u64 0 r)(hr:r=Qm .shr .u64 lj 2)(uj:U lj):v=lj/4:=by
 have h2:=Vv 4 hr rfl (by decide);unfold U at *
 rw[Qbl (k:=63) (q:=0) h (by omega) (by omega) (by omega) (by omega)];omega
theorem Qvx{x o0 o1 o2 o3 o4 o5:Int}(hx:0<=x/\x<Qw)(h0:o0=Q1 x 1%4*4611686018427387904+Q1 x 0/4)(h1:o1=Q1 x 2%4*4611686018427387904+Q1 x 1/4)(h2:o2=Q1 x 3%4*4611686018427387904+Q1 x 2/4)
  (h3:o3=Q1 x 4%4*4611686018427387904+Q1 x 3/4) (h4:o4=Q1 x 5%4*4611686018427387904+Q1 x 4/4) (h5:o5=Q1 x 5/4):Y6 [o0,o1,o2,o3,o4,o5]=x/4:=by
 have ex:=Z4 hx;have l0:=Qt x 0;have l1:=Qt x 1;have l2:=Qt x 2;have l3:=Qt x 3;have l4:=Qt x 4;have l5:=Qt x 5;rw[Ul];generalize Q1 x 0=x0 at *
 generalize Q1 x 1=x1 at *
 generalize Q1 x 2=x2 at *
 generalize Q1 x 3=x3 at *
 generalize Q1 x 4=x4 at *
 generalize Q1 x 5=x5 at *
 omega
def Zw6:Qq:=(.l 1 kU (.b .shl .u64 (.m 0 1) (.n 62))
(.l 386 kU (.b .shr .u64 (.m 0 0) (.n 2))
(.l 434 kU (.b .or .u64 (.v 1) (.v 386))
(.l 578 kU (.b .shl .u64 (.m 0 2) (.n 62))
(.l 963 kU (.b .shr .u64 (.m 0 1) (.n 2))
(.l 1011 kU (.b .or .u64 (.v 578) (.v 963))
(.l 1155 kU (.b .shl .u64 (.m 0 3) (.n 62))
(.l 1540 kU (.b .shr .u64 (.m 0 2) (.n 2))
(.l 1588 kU (.b .or .u64 (.v 1155) (.v 1540))
(.l 1732 kU (.b .shl .u64 (.m 0 4) (.n 62))
(.l 2117 kU (.b .shr .u64 (.m 0 3) (.n 2))
(.l 2165 kU (.b .or .u64 (.v 1732) (.v 2117))
(.l 2309 kU (.b .shl .u64 (.m 0 5) (.n 62))
(.l 2694 kU (.b .shr .u64 (.m 0 4) (.n 2))
(.l 2742 kU (.b .or .u64 (.v 2309) (.v 2694))
(.l 3270 kU (.b .shr .u64 (.m 0 5) (.n 2))
(.l 3318 kU (.b .or .u64 (.n 0) (.v 3270))
(.l 3462 .num (.join [.v 434,.v 1011,.v 1588,.v 2165,.v 2742,.v 3318])
(.ret [.v 3462])))))))))))))))))))
theorem Ze9(f:FuncId)(e:Nat->Int)(hk:Q0 [.num] [e 0]):Zw6.Xat [] ⟨fun ys=>ys=(Zjh f).sem [e 0],[]⟩ e:=by
 have h0:=hk.1;have z:=Qdx e;intro s1 _ r1 _ o1 _ s2 _ r2 _ o2 _ s3 _ r3 _ o3 _ s4 _ r4 _ o4 _ s5 _ r5 _ o5 _ r6 _ o6 _ aj _;have hj:=Qvx h0 (Qsj o1 s1 r1 (z _ _) (z _ _)) (Qsj o2 s2 r2 (z _ _) (z _ _)) (Qsj o3 s3 r3 (z _ _) (z _ _)) (Qsj o4 s4 r4 (z _ _) (z _ _)) (Qsj o5 s5 r5 (z _ _) (z _ _)) (Zxv o6 r6 (z _ _));show[e 3462]=[e 0/4]
 rw[<- hj];exact congrArg (fun x=>[x]) aj
theorem Zvy:((bP+1)%Qw/4).toNat=eR:=by decide +kernel
theorem Qmu{v w b:Int}(h:v=Xo (Js .leq w b))(hw:w<=b):v≠0:=by have:=Yv h;omega
end Go.Sx


namespace Go.Sx
open Go Go.RowKit
set_option maxRecDepth 100000
def prP(p:Int):Prop:=p=786251∨p=1152921504606846223
theorem Zgj{p:Int}(h:prP p):pOk p:=by rcases h with rfl|rfl <;> exact⟨by decide,by decide⟩
theorem Zuu{p:Int}(h:prP p):p%2=1:=by rcases h with rfl|rfl <;> decide
theorem Zut{p:Int}(h:prP p):Np.isP p.toNat:=by
 rcases h with rfl|rfl
 ·exact Np.p786251
 ·exact Np.p_mid7
theorem Bd{p a b:Int}:a%p=b%p↔p∣a-b:=by
 constructor
 ·intro h;exact Int.dvd_of_emod_eq_zero (Int.emod_eq_emod_iff_emod_sub_eq_zero.1 h)
 ·intro h;exact Int.emod_eq_emod_iff_emod_sub_eq_zero.2 (Hi h)
theorem Qxg{p a:Int}(hp:prP p)(h0:0<=a)(hn:¬p∣a):p∣a*Qa8 p a-1:=by
 have ok:=Zgj hp;have hP:=Zut hp;obtain⟨n,rfl⟩:=Oz h0;obtain⟨q,rfl⟩:=Oz (show 0<=p by have:=ok.1;omega);have hq:3<=q:=by have:=ok.1;omega
 have hf:=Np.fermat (x:=n) hP (fun h=>hn (Int.natCast_dvd_natCast.2 (by simpa using h)));rw[Mi]at hf;refine Bd.1 ?_;unfold Qa8 pwM;rw[Mi,Mi,show((q:Int)-2).toNat=q-2 by omega];have:n*(n^(q-2)%q)%q=1:=by
  rw[Nat.mul_mod,Nat.mod_mod,<- Nat.mul_mod,Nat.mul_comm,<- Nat.pow_succ,show(q-2).succ=q-1 by omega];exact hf
 rw[show(1:Int)%(q:Int)=((1:Nat):Int)from Oy (by decide) (by omega),<- this];simp only[Int.natCast_mul,Oam]
theorem Qrs{p x1 y1 x2 y2 m i:Int}(h1:p∣y1*y1-(x1*x1*x1+x1))(h2:p∣y2*y2-(x2*x2*x2+x2))(hi:p∣(x2-x1)*i-1)(hm:p∣m*(x2-x1)-(y2-y1)) :
  p∣(m*(x1-(m*m-x1-x2))-y1)*(m*(x1-(m*m-x1-x2))-y1)-((m*m-x1-x2)*(m*m-x1-x2)*(m*m-x1-x2)+(m*m-x1-x2)):=by
 have h:(m*(x1-(m*m-x1-x2))-y1)*(m*(x1-(m*m-x1-x2))-y1)-((m*m-x1-x2)*(m*m-x1-x2)*(m*m-x1-x2)+(m*m-x1-x2)) =
   (y2*y2-(x2*x2*x2+x2))*(i*(m*m-x1-x2-x1))+(m*(x2-x1)-(y2-y1))*((y1+m*(x2-x1)+y2)*i*(m*m-x1-x2-x1))+(y1*y1-(x1*x1*x1+x1))*(1-i*(m*m-x1-x2-x1)) +
   ((x2-x1)*i-1)*((1-2*m*(y1-m*x1)-(x1*x2+(x1+x2)*(m*m-x1-x2)))*(m*m-x1-x2-x1)):=by grind
 rw[h];exact Oax (Oax (Oax (Hk h2) (Hk hm)) (Hk h1)) (Hk hi)
theorem Zdy{p x1 y1 m:Int}(h1:p∣y1*y1-(x1*x1*x1+x1))(hm:p∣m*(y1+y1)-(x1*x1+x1*x1+x1*x1+1)) :
  p∣(m*(x1-(m*m-x1-x1))-y1)*(m*(x1-(m*m-x1-x1))-y1)-((m*m-x1-x1)*(m*m-x1-x1)*(m*m-x1-x1)+(m*m-x1-x1)):=by
 have h:(m*(x1-(m*m-x1-x1))-y1)*(m*(x1-(m*m-x1-x1))-y1)-((m*m-x1-x1)*(m*m-x1-x1)*(m*m-x1-x1)+(m*m-x1-x1)) =
   (m*(y1+y1)-(x1*x1+x1*x1+x1*x1+1))*(m*m-x1-x1-x1)+(y1*y1-(x1*x1*x1+x1)):=by grind
 rw[h];exact Oax (Hk hm) h1
theorem md2(x p:Int):x%p%p=x%p:=Kv _ (H3 _)
theorem Qit(p x:Int):W8 p x=(x*x*x+x)%p:=by
 unfold W8;have h1:x*x%p*x%p%p=x*x*x%p:=(md2 _ _).trans (Q4 (md2 (x*x) p) rfl);exact Xz h1 rfl
def onL(p:Int)(a:Pt):Prop:=onP p a.x a.y a.z/\(0<=a.x/\0<=a.y)/\(a.z=0∨a.z=1)
theorem onL.lt{p:Int}(hp:0<p){a:Pt}(h:onL p a):a.lt p:=by
 have:=h.1;unfold onP at this;have h2:=h.2.1;split at this
 ·exact⟨⟨h2.1,this.1⟩,h2.2,this.2.1⟩
 ·exact⟨⟨h2.1,by omega⟩,h2.2,by omega⟩
theorem onL.eq{p:Int}{a:Pt}(h:onL p a)(hz:a.z=0):p∣a.y*a.y-(a.x*a.x*a.x+a.x):=by
 have:=h.1;unfold onP at this;rw[if_pos hz,Qit]at this;exact Bd.1 this.2.2
theorem Qny(p:Int):onL p ⟨0,0,1⟩:=⟨by unfold onP;rw[if_neg (by decide)];exact⟨rfl,rfl⟩,⟨Int.le_refl _,Int.le_refl _⟩,.inr rfl⟩
theorem Zit{p x1 y1 x2 m:Int}(hp:0<p)(h:p∣(m*(x1-(m*m-x1-x2))-y1)*(m*(x1-(m*m-x1-x2))-y1)-((m*m-x1-x2)*(m*m-x1-x2)*(m*m-x1-x2)+(m*m-x1-x2))) :
  onL p ⟨((m*m%p-x1)%p-x2)%p,(m*((x1-((m*m%p-x1)%p-x2)%p)%p)%p-y1)%p,0⟩:=by
 have hx:((m*m%p-x1)%p-x2)%p=(m*m-x1-x2)%p:=Wh ((md2 _ _).trans (Wh (md2 _ _) rfl)) rfl;have hy:(m*((x1-(m*m-x1-x2)%p)%p)%p-y1)%p=(m*(x1-(m*m-x1-x2))-y1)%p:=Wh ((md2 _ _).trans (Q4 rfl ((md2 _ _).trans (Wh rfl (md2 _ _))))) rfl;rw[hx,hy];generalize hX:m*m-x1-x2=X at *
 generalize hY:m*(x1-X)-y1=Y at *
 have l1:=Zo (x:=X) hp;have l2:=Zo (x:=Y) hp;refine⟨?_,⟨l1.1,l2.1⟩,.inl rfl⟩;unfold onP;rw[if_pos rfl,Qit];refine⟨l1.2,l2.2,?_⟩;rw[Q4 (md2 Y p) (md2 Y p),Xz (Q4 (Q4 (md2 X p) (md2 X p)) (md2 X p)) (md2 X p)];exact Bd.2 h
theorem Zqn{p a:Int}(h0:0<a)(h1:a<p):¬p∣a:=fun h=>by
 have:=Hi h;rw[Oy (by omega) h1]at this;omega
theorem Zu1{p a b:Int}(ha:0<=a/\a<p)(hb:0<=b/\b<p)(h:a≠b):¬p∣(b-a)%p:=fun hc=>by
 have h1:=Zo (x:=b-a) (n:=p) (by omega);have h2:(b-a)%p=0:=by have:=Hi hc;rwa[md2]at this
 have h3:=Int.dvd_of_emod_eq_zero h2;rcases Int.lt_trichotomy a b with h4|h4|h4
 ·exact Zqn (by omega) (by omega) h3
 ·exact h h4
 ·have:p∣a-b:=by rw[show a-b=-(b-a) by omega];exact(Int.dvd_neg).2 h3
  exact Zqn (by omega) (by omega) this
theorem Qg6{p x y x' y':Int}(hp:prP p)(hx:0<=x/\x<p)(hx':0<=x'/\x'<p)(h:x≠x'):∃i,p∣(x'-x)*i-1/\p∣(y'-y)%p*Qa8 p ((x'-x)%p)%p*(x'-x)-(y'-y):=by
 have hi:=Qxg hp (Zo (x:=x'-x) (by have:=(Zgj hp).1;omega)).1 (Zu1 hx hx' h);refine⟨Qa8 p ((x'-x)%p),?_,?_⟩
 ·refine Bd.1 ?_;have:=Bd.2 hi;rw[<- this];exact Q4 (md2 _ _).symm rfl
 ·generalize Qa8 p ((x'-x)%p)=i at *
  have h1:=Bd.2 hi;refine Bd.1 ?_;have e1:((y'-y)%p*i%p*(x'-x))%p=((y'-y)*((x'-x)%p*i))%p:=by
   rw[show(y'-y)*((x'-x)%p*i)=(y'-y)*i*((x'-x)%p) by rw[M0 ((x'-x)%p) i,K9]];exact Q4 ((md2 _ _).trans (Q4 (md2 _ _) rfl)) (md2 _ _).symm
  rw[e1,Q4 (p:=p) rfl h1,Hg]
theorem Qnf{p x y:Int}(hp:prP p)(hy:0<y/\y<p):p∣(((x*x%p+x*x%p)%p+x*x%p)%p+1)%p*Qa8 p ((y+y)%p)%p*(y+y)-(x*x+x*x+x*x+1):=by
 have ho:=Zuu hp;have p0:0<p:=by omega
 have hn:¬p∣(y+y)%p:=fun hc=>by
  have h2:(y+y)%p=0:=by have:=Hi hc;rwa[md2]at this
  rcases Int.lt_or_le (y+y) p with h|h
  ·rw[Oy (by omega) h]at h2;omega
  ·have:(y+y)%p=y+y-p:=J1 1 (by omega) (by omega) (by omega);omega
 have hi:=Qxg hp (Zo (x:=y+y) p0).1 hn;generalize Qa8 p ((y+y)%p)=i at *
 have h1:=Bd.2 hi;refine Bd.1 ?_;have q:=md2 (x*x) p;have e0:(((x*x%p+x*x%p)%p+x*x%p)%p+1)%p%p=(x*x+x*x+x*x+1)%p:=(md2 _ _).trans (Xz ((md2 _ _).trans (Xz ((md2 _ _).trans (Xz q q)) q)) rfl);generalize (((x*x%p+x*x%p)%p+x*x%p)%p+1)%p=u at *
 generalize x*x+x*x+x*x+1=v at *
 have e1:(u*i%p*(y+y))%p=(v*((y+y)%p*i))%p:=by
  rw[show v*((y+y)%p*i)=v*i*((y+y)%p) by rw[M0 ((y+y)%p) i,K9]];exact Q4 ((md2 _ _).trans (Q4 e0 rfl)) (md2 _ _).symm
 rw[e1,Q4 (p:=p) rfl h1,Hg]
theorem Qfw{p:Int}(hp:prP p){a b:Pt}(ha:onL p a)(hb:onL p b):onL p (Yg p a b):=by
 have p0:0<p:=by have:=(Zgj hp).1;omega
 have la:=ha.lt p0;have lb:=hb.lt p0;unfold Yg;split
 ·exact hb
 ·rename_i hza;split
  ·exact ha
  ·rename_i hzb;have ea:=ha.eq (by omega);have eb:=hb.eq (by omega);unfold Wj;by_cases hx:a.x≠b.x
   ·rw[if_pos hx];simp only[];rw[if_neg (by decide)];obtain⟨i,h1,h2⟩:=Qg6 (y:=a.y) (y':=b.y) hp la.1 lb.1 hx;exact Zit p0 (Qrs ea eb h1 h2)
   ·rw[if_neg hx];by_cases hy:a.y≠b.y∨a.y=0
    ·rw[if_pos hy];simp only[];rw[if_pos trivial];exact Qny p
    ·rw[if_neg hy];simp only[];rw[if_neg (by decide)];have hx':b.x=a.x:=by omega
     have:=Qnf (x:=a.x) (y:=a.y) hp ⟨by have:=la.2.1;omega,la.2.2⟩;rw[hx'];exact Zit p0 (Zdy ea this)
theorem mul_ok{p:Int}(hp:prP p){a:Pt}(ha:onL p a):∀(k n:Nat),onL p (Xa p a k n)
 |0,_=>Qny p
 |k+1,n=>by
  unfold Xa;split
  ·exact Qny p
  ·simp only[];have h:=mul_ok hp ha k (n/2);split
   ·exact Qfw hp (Qfw hp h h) ha
   ·exact Qfw hp h h
end Go.Sx

namespace Go.Sx
open Go Go.RowKit
set_option maxRecDepth 100000
def Zkr:ByteArray:=⟨#[48,49,50,51,52,53,54,55,56,57,97,98,99,100,101,102]⟩
def Qs7(f:FuncId):K:={fn:=f,ext:=true,ins:=[.one (.cst (.str Zkr)),.one (.int .u8)],outs:=[oI],pre:=fun _=>True,sem:=fun|[c]=>[if 48<=c/\c<=57 then c-48 else if 97<=c/\c<=102 then c-87 else -1]|_=>[],fold:=true }
theorem Zns:∀c:Nat,c<256->Lib.indexByte Zkr.data.toList (c.toUInt8)=if 48<=(c:Int)/\(c:Int)<=57 then(c:Int)-48 else if 97<=(c:Int)/\(c:Int)<=102 then(c:Int)-87 else -1:=by decide +kernel
theorem Zte{P:Program}{f:FuncId}{fn:Func}(hf:P.funcs[f]?=some fn)(h1:(fn.name == "runtime.NumGoroutine")=false)(h2:fn.body.isNone=true)(h3:Extern.findNext fn=none)(h4:Extern.find fn=some Extern.BytealgIndexByte.indexByte):(Qs7 f).ok P:=by
 intro w _ args xs hin hpre
 match args,hin with
 |u::args,hin =>
  obtain⟨_,hu,hin⟩:=hin;have hu:[u]=[Value.string Zkr]:=hu;obtain rfl:=List.head_eq_of_cons_eq hu;have hin:J4 w [.one (.int .u8)] xs args:=hin;obtain⟨c,xs,args,rfl,rfl,hc,hin⟩:=Qc2 hin;obtain⟨rfl,rfl⟩:=Qvc hin;have hc0:0<=c/\c<=255:=hc;obtain⟨n,rfl⟩:=Oz hc0.1;have hv:=Zns n (by omega);simp only[Qs7,if_true];refine⟨[.int .i64 (if 48<=(n:Int)/\(n:Int)<=57 then(n:Int)-48 else if 97<=(n:Int)/\(n:Int)<=102 then(n:Int)-87 else -1)],?_,?_⟩
  ·rw[run_callFunc_extern hf h1 h2 h3 h4];rw[show([Value.string Zkr,.int .u8 (n:Int)]:List Value).toArray=#[.string Zkr,.int .u8 (n:Int)]from rfl,Lib.run_indexByteString,Mi,hv];rfl
  ·refine⟨⟨?_,trivial⟩,rfl,rfl,rfl⟩;simp only[has,lo,hi];split
   ·omega
   ·split <;> omega
def Qgj(f:FuncId):K:={fn:=f,ext:=false,ins:=[iN,.one (.cst (.int .i64 (.lit 4)))],outs:=[oN],pre:=fun|[a]=>a<2^380|_=>False,sem:=fun|[a]=>[16*a]|_=>[] }
theorem Zxz{v x:Int}(h:v=Qm .shl .u64 x 4):v=16*x%18446744073709551616:=by
 have:=Qk7 16 h rfl;simp only[wr]at this;omega
theorem Zf4{v s r lj lp:Int}(h:v=Qm .or .u64 s r)(hs:s=Qm .shl .u64 lj 4)(hr:r=Qm .shr .u64 lp 60)(uj:U lj)(up:U lp):v=16*lj%18446744073709551616+lp/1152921504606846976:=by
 have h1:=Qk7 16 hs rfl;have h2:=Vv 1152921504606846976 hr (by decide) (by decide);unfold U at *
 simp only[wr]at h1;rw[Qbl (k:=4) (q:=lj%1152921504606846976) h (by omega) (by omega) (by omega) (by omega)];omega
theorem Zkx{x o0 o1 o2 o3 o4 o5:Int}(hx:0<=x/\x<Qw)(hs:x<2462625387274654950767440006258975862817483704404090416746768337765357610718575663213391640930307227550414249394176)(h0:o0=16*Q1 x 0%18446744073709551616)(h1:o1=16*Q1 x 1%18446744073709551616+Q1 x 0/1152921504606846976)
  (h2:o2=16*Q1 x 2%18446744073709551616+Q1 x 1/1152921504606846976) (h3:o3=16*Q1 x 3%18446744073709551616+Q1 x 2/1152921504606846976) (h4:o4=16*Q1 x 4%18446744073709551616+Q1 x 3/1152921504606846976)
  (h5:o5=16*Q1 x 5%18446744073709551616+Q1 x 4/1152921504606846976):Y6 [o0,o1,o2,o3,o4,o5]=16*x:=by
 have ex:=Z4 hx;have l0:=Qt x 0;have l1:=Qt x 1;have l2:=Qt x 2;have l3:=Qt x 3;have l4:=Qt x 4;have l5:=Qt x 5;rw[Ul];generalize Q1 x 0=x0 at *
 generalize Q1 x 1=x1 at *
 generalize Q1 x 2=x2 at *
 generalize Q1 x 3=x3 at *
 generalize Q1 x 4=x4 at *
 generalize Q1 x 5=x5 at *
 omega
def Zv0:Qq:=(.l 1 kU (.b .shl .u64 (.m 0 0) (.n 4))
(.l 2 kU (.b .shl .u64 (.m 0 1) (.n 4))
(.l 387 kU (.b .shr .u64 (.m 0 0) (.n 60))
(.l 435 kU (.b .or .u64 (.v 2) (.v 387))
(.l 579 kU (.b .shl .u64 (.m 0 2) (.n 4))
(.l 964 kU (.b .shr .u64 (.m 0 1) (.n 60))
(.l 1012 kU (.b .or .u64 (.v 579) (.v 964))
(.l 1156 kU (.b .shl .u64 (.m 0 3) (.n 4))
(.l 1541 kU (.b .shr .u64 (.m 0 2) (.n 60))
(.l 1589 kU (.b .or .u64 (.v 1156) (.v 1541))
(.l 1733 kU (.b .shl .u64 (.m 0 4) (.n 4))
(.l 2118 kU (.b .shr .u64 (.m 0 3) (.n 60))
(.l 2166 kU (.b .or .u64 (.v 1733) (.v 2118))
(.l 2310 kU (.b .shl .u64 (.m 0 5) (.n 4))
(.l 2695 kU (.b .shr .u64 (.m 0 4) (.n 60))
(.l 2743 kU (.b .or .u64 (.v 2310) (.v 2695))
(.l 2887 .num (.join [.v 1,.v 435,.v 1012,.v 1589,.v 2166,.v 2743])
(.ret [.v 2887]))))))))))))))))))
theorem Ze2(f:FuncId)(e:Nat->Int)(hk:Q0 [.num] [e 0])(hp:(Qgj f).pre [e 0]):Zv0.Xat [] ⟨fun ys=>ys=(Qgj f).sem [e 0],[]⟩ e:=by
 have h0:=hk.1;have hp:e 0<2^380:=hp;rw[show(2:Int)^380=2462625387274654950767440006258975862817483704404090416746768337765357610718575663213391640930307227550414249394176 by decide +kernel]at hp;have z:=Qdx e;intro s0 _ s1 _ r1 _ o1 _ s2 _ r2 _ o2 _ s3 _ r3 _ o3 _ s4 _ r4 _ o4 _ s5 _ r5 _ o5 _ oj _;show[e 2887]=[16*e 0]
 rw[show e 2887=_ from oj];exact congrArg (fun x=>[x]) (Zkx h0 hp (Zxz s0) (Zf4 o1 s1 r1 (z _ _) (z _ _)) (Zf4 o2 s2 r2 (z _ _) (z _ _)) (Zf4 o3 s3 r3 (z _ _) (z _ _)) (Zf4 o4 s4 r4 (z _ _) (z _ _)) (Zf4 o5 s5 r5 (z _ _) (z _ _)))
def Qut:Qfz:=fun g ws=>match g,ws with
 |0,[.wi c]=>some [.wi (if 48<=c/\c<=57 then c-48 else if 97<=c/\c<=102 then c-87 else -1)]
 |1,[.wi a]=>if a<2462625387274654950767440006258975862817483704404090416746768337765357610718575663213391640930307227550414249394176 then some [.wi (16*a)]else none
 |_,_=>none
theorem Zy7{p:Prop}[Decidable p](h:p):bi p=1:=if_pos h
theorem Zvf{v:Int}{p:Prop}(h:(v=1/\p)∨(v=0/\¬p))(hp:p):v=1:=h.elim (·.1) fun x=>absurd hp x.2
theorem Qwu{p:Nat}(hp:Np.isP p){a:Int}(h0:0<a)(h1:a<p):a*(a^((p:Int)-2).toNat%p)%p=1:=by
 obtain⟨x,rfl⟩:=Oz (H9 h0);have h2:=hp.1;have hx:¬p∣x:=fun h=>by have:=Nat.le_of_dvd (by omega) h;omega
 have hf:=Np.fermat hp hx;rw[show((p:Int)-2).toNat=p-2 by omega];have e:x*(x^(p-2)%p)%p=1:=by rw[Nat.mul_mod_mod,<- Nat.pow_succ',show(p-2).succ=p-1 by omega];exact hf
 have:((x*(x^(p-2)%p)%p:Nat):Int)=1:=by rw[e];rfl
 rw[<- this,Oam,Int.natCast_mul,Oam,Kj]
abbrev Zyo:Sh:=.agg [.int .i64,.num,.num,.bool,.int .u64,.int .u64,.bool]
def pL(s:Int):Int:=if s=1 then 786251 else 1152921504606846223
def Qss(f:FuncId):K:={fn:=f,ext:=false,ins:=[Zyo],outs:=[oB],pre:=fun|[s,_,_,_,_,_,_]=>s=1∨s=2|_=>False,sem:=fun|[s,px,py,pz,x,y,z]=>[bi ((px=0/\py=0/\pz=0)/\inP (pL s) (Wk s) x y z)]|_=>[] }
def Qqg(f:FuncId)(ins:List Sh)(outs:List Oh):K:={fn:=f,ext:=false,ins:=ins,outs:=outs,pre:=fun _=>False,sem:=fun _=>[] }
theorem Zhi(P:Program)(f:FuncId)(ins:List Sh)(outs:List Oh):(Qqg f ins outs).ok P:=fun _ _ _ _ _ hpre=>hpre.elim
def Qxe(f:FuncId):K:={fn:=f,ext:=false,ins:=[],outs:=[oB],pre:=fun _=>True,sem:=fun _=>[1] }
theorem Zwq{e:Nat->Int}{v:Int}{i j k:Nat}(h:v=(D.eqs [((.m i 0),(.lit 0)),((.m i 1),(.lit 0)),((.m i 2),(.lit 0)),((.m i 3),(.lit 0)),((.m i 4),(.lit 0)),((.m i 5),(.lit 0)),((.m j 0),(.lit 0)),((.m j 1),(.lit 0)),((.m j 2),(.lit 0)),((.m j 3),(.lit 0)),((.m j 4),(.lit 0)),((.m j 5),(.lit 0)),((.v k),(.lit 0))]).ev [] e)
  (hi:0<=e i/\e i<Qw) (hj:0<=e j/\e j<Qw):(v=1/\e i=0/\e j=0/\e k=0)∨(v=0/\¬(e i=0/\e j=0/\e k=0)):=by
 simp only[D.ev,L1,Oaa,Qp,Qn,Ql,H6,Qfa,Oo,beq_iff_eq]at h;by_cases hc:e i=0/\e j=0/\e k=0
 ·left;rw[hc.1,hc.2.1,hc.2.2]at h;simp[Q1]at h;exact⟨h,hc⟩
 ·right
  rw[if_neg (fun hh=>hc (by have:=Z4 hi;have:=Z4 hj;omega))]at h;exact⟨h,hc⟩
theorem Qy3{p q:Prop}[Decidable p][Decidable q](h:p):bi (p/\q)=bi q:=by
 unfold bi;by_cases hq:q
 ·rw[if_pos ⟨h,hq⟩,if_pos hq]
 ·rw[if_neg (fun hh=>hq hh.2),if_neg hq]
theorem Qzz{p q:Prop}[Decidable p][Decidable q](h:¬p):bi (p/\q)=0:=by
 unfold bi;rw[if_neg (fun hh=>h hh.1)]
def Zpe:Qq:=(.l 7 .bit (.cmp .eql (.v 0) (.lit 0))
(.split 7
(.l 8 .bit (.eqs [((.v 4),(.lit 0)),((.v 5),(.lit 0)),((.v 6),(.lit 0))])
(.split 8
(xw 1 [.v 1,.v 2,.v 3] 9 qga
(.ret [.v 9]))
(.ret [.lit 0])))
(.l 8 .bit (.cmp .eql (.v 0) (.lit 1))
(.split 8
(.l 9 .bit (.eqs [((.m 1 0),(.lit 0)),((.m 1 1),(.lit 0)),((.m 1 2),(.lit 0)),((.m 1 3),(.lit 0)),((.m 1 4),(.lit 0)),((.m 1 5),(.lit 0)),((.m 2 0),(.lit 0)),((.m 2 1),(.lit 0)),((.m 2 2),(.lit 0)),((.m 2 3),(.lit 0)),((.m 2 4),(.lit 0)),((.m 2 5),(.lit 0)),((.v 3),(.lit 0))])
(.split 9
(.l 10 .bit (.cmp .eql (.v 0) (.lit 1))
(.split 10
(xw 0 [.lit 786251,.lit 65521,.lit 12,.lit 9723,.lit 164643,.lit 0,.v 4,.v 5,.v 6] 11 qga
(.ret [.v 11]))
(.l 11 .bit (.cmp .eql (.v 0) (.lit 2))
(.split 11
(xw 0 [.lit 1152921504606846223,.lit 72057594037927889,.lit 16,.lit 613740293506734924,.lit 666621259561003659,.lit 0,.v 4,.v 5,.v 6] 12 qga
(.ret [.v 12]))
(.ret [.lit 0])))))
(.ret [.lit 0])))
(.l 9 .bit (.cmp .eql (.v 0) (.lit 2))
(.split 9
(.l 10 .bit (.eqs [((.m 1 0),(.lit 0)),((.m 1 1),(.lit 0)),((.m 1 2),(.lit 0)),((.m 1 3),(.lit 0)),((.m 1 4),(.lit 0)),((.m 1 5),(.lit 0)),((.m 2 0),(.lit 0)),((.m 2 1),(.lit 0)),((.m 2 2),(.lit 0)),((.m 2 3),(.lit 0)),((.m 2 4),(.lit 0)),((.m 2 5),(.lit 0)),((.v 3),(.lit 0))])
(.split 10
(.l 11 .bit (.cmp .eql (.v 0) (.lit 1))
(.split 11
(xw 0 [.lit 786251,.lit 65521,.lit 12,.lit 9723,.lit 164643,.lit 0,.v 4,.v 5,.v 6] 12 qga
(.ret [.v 12]))
(.l 12 .bit (.cmp .eql (.v 0) (.lit 2))
(.split 12
(xw 0 [.lit 1152921504606846223,.lit 72057594037927889,.lit 16,.lit 613740293506734924,.lit 666621259561003659,.lit 0,.v 4,.v 5,.v 6] 13 qga
(.ret [.v 13]))
(.ret [.lit 0])))))
(.ret [.lit 0])))
(.ret [.lit 0])))))))
theorem Zfk(f1 f2 f:FuncId)(i2:List Sh)(o2:List Oh)(e:Nat->Int)(hk:Q0 [.int .i64,.num,.num,.bit,.int .u64,.int .u64,.bit] [e 0,e 1,e 2,e 3,e 4,e 5,e 6])(hp:(Qss f).pre [e 0,e 1,e 2,e 3,e 4,e 5,e 6]):Zpe.Xat [Qwn f1,Qqg f2 i2 o2] ⟨fun ys=>ys=(Qss f).sem [e 0,e 1,e 2,e 3,e 4,e 5,e 6],[]⟩ e:=by
 have hp:e 0=1∨e 0=2:=hp;obtain⟨_,u1,u2,_⟩:=hk;simp only[KK.has]at u1 u2;have ok1:pOk 786251:=⟨by decide,by decide⟩
 have ok2:pOk 1152921504606846223:=⟨by decide,by decide⟩
 simp only[Zpe,Qwn,Qqg,Qss,Qq.Xat,xw,xws,Nat.reduceAdd,O0,O3,List.map,Qn,Ql,Qp,D.ev,O4,O9];intro a7 _;have b7:=Zy a7;refine⟨fun h=>by omega,fun h=>?_⟩;intro a8 _;have b8:=Zy a8;refine⟨fun h8=>?_,fun h8=>?_⟩
 ·have e0:e 0=1:=by omega
  intro a9 _;have b9:=Zwq a9 u1 u2;refine⟨fun h9=>?_,fun h9=>?_⟩
  ·rw[Qy3 (by omega)];intro a10 _;have b10:=Zy a10;refine⟨fun h10=>⟨ok1,fun a11 _=>?_⟩,fun h10=>by omega⟩;rw[a11,e0];rfl
  ·rw[Qzz (by omega)]
 ·have e0:e 0=2:=by omega
  intro a9 _;have b9:=Zy a9;refine⟨fun h9=>?_,fun h9=>by omega⟩;intro a10 _;have b10:=Zwq a10 u1 u2;refine⟨fun h10=>?_,fun h10=>?_⟩
  ·rw[Qy3 (by omega)];intro a11 _;have b11:=Zy a11;refine⟨fun h11=>by omega,fun h11=>?_⟩;intro a12 _;have b12:=Zy a12;refine⟨fun h12=>⟨ok2,fun a13 _=>?_⟩,fun h12=>by omega⟩;rw[a13,e0];rfl
  ·rw[Qzz (by omega)]
theorem Zst:inP 786251 65521 9723 164643 0:=by decide +kernel
theorem Zlh:inP (pL 1) (Wk 1) 9723 164643 0:=by
 rw[show pL 1=786251 from rfl,show Wk 1=65521 from rfl];exact Zst
theorem Znl:[bi (((0:Int)=0/\(0:Int)=0/\(0:Int)=0)/\inP (pL 1) (Wk 1) 9723 164643 0)].getD 0 0=1:=by
 rw[O4];exact Zy7 ⟨⟨rfl,rfl,rfl⟩,Zlh⟩
theorem Zoe:(Qbt 0).sem [1,2]=[32761,0]:=by
 obtain⟨q1,q2⟩:=Qyn (n:=65521) (a:=2) (y:=32761) (by decide) (by decide);simp only[Qbt];rw[if_pos (show Vf 1/\(2:Int)<Wk 1 by decide),show Wk 1=65521 from rfl,q1,if_pos q2]
def Zeo:Qq:=(xw 0 [.lit 1] 0 qla
(xw 4 [.lit 65520] 2 Z7
(xw 4 [.lit 2] 3 Z7
(xw 1 [.lit 1,.v 2,.v 3] 4 qla
(xw 4 [.lit 2] 6 Z7
(xw 2 [.lit 1,.v 6] 7 qla
(xw 4 [.lit 65521] 57 Z7
(.l 105 .bit (.eqs [((.m 0 0),(.m 57 0)),((.m 0 1),(.m 57 1)),((.m 0 2),(.m 57 2)),((.m 0 3),(.m 57 3)),((.m 0 4),(.m 57 4)),((.m 0 5),(.m 57 5))])
(.split 105
(.l 249 .bit (.cmp .eql (.v 1) (.lit 0))
(.split 249
(xw 4 [.lit 1] 441 Z7
(.l 489 .bit (.eqs [((.m 4 0),(.m 441 0)),((.m 4 1),(.m 441 1)),((.m 4 2),(.m 441 2)),((.m 4 3),(.m 441 3)),((.m 4 4),(.m 441 4)),((.m 4 5),(.m 441 5))])
(.split 489
(.l 681 .bit (.cmp .eql (.v 5) (.lit 0))
(.split 681
(xw 4 [.lit 32761] 873 Z7
(.l 921 .bit (.eqs [((.m 7 0),(.m 873 0)),((.m 7 1),(.m 873 1)),((.m 7 2),(.m 873 2)),((.m 7 3),(.m 873 3)),((.m 7 4),(.m 873 4)),((.m 7 5),(.m 873 5))])
(.split 921
(.l 1113 .bit (.cmp .eql (.v 8) (.lit 0))
(.split 1113
(xw 3 [.lit 1,.lit 0,.lit 0,.lit 0,.lit 9723,.lit 164643,.lit 0] 1305 qga
(.split 1305
(.ret [.lit 1])
(.ret [.lit 0])))
(.ret [.lit 0])))
(.ret [.lit 0]))))
(.ret [.lit 0])))
(.ret [.lit 0]))))
(.ret [.lit 0])))
(.ret [.lit 0]))))))))))
theorem Zcb(f1 f2 f3 f4 f5 f:FuncId)(e:Nat->Int):Zeo.Xat [Qci f1,kS2 f2 (·+ ·),Qbt f3,Qss f4,kOf f5] ⟨fun ys=>ys=[1],[]⟩ e:=by
 unfold Zeo;refine⟨trivial,fun a0 k0 a1 _=>⟨trivial,fun a2 _=>⟨trivial,fun a3 _=>⟨trivial,fun a4 k4 a5 _=>⟨trivial,fun a6 _=>⟨trivial,fun a7 k7 a8 _=>⟨trivial,fun a57 k57 a105 _=>?_⟩⟩⟩⟩⟩⟩⟩;have v0:e 0=65521:=a0;have v1:e 1=0:=a1;have v2:e 2=65520:=a2;have v3:e 3=2:=a3;have s4:Qq9 (·+ ·) [1,e 2,e 3]=[1,0]:=by rw[v2,v3];decide
 have v4:e 4=1:=by
  have:e 4=(Qq9 (·+ ·) [1,e 2,e 3]).getD 0 0:=a4;rw[this,s4];rfl
 have v5:e 5=0:=by
  have:e 5=(Qq9 (·+ ·) [1,e 2,e 3]).getD 1 0:=a5;rw[this,s4];rfl
 have v6:e 6=2:=a6;have s7:(Qbt f3).sem [1,e 6]=[32761,0]:=by rw[v6];exact Zoe
 have v7:e 7=32761:=by
  have:e 7=((Qbt f3).sem [1,e 6]).getD 0 0:=a7;rw[this,s7];rfl
 have v8:e 8=0:=by
  have:e 8=((Qbt f3).sem [1,e 6]).getD 1 0:=a8;rw[this,s7];rfl
 have v57:e 57=65521:=a57;have w105:=Zvf (Qsu a105 k0 k57) (by rw[v0,v57]);refine⟨fun _=>?_,fun h=>by omega⟩;intro a249 _;have w249:=Zy a249;simp only[Ql,Qn]at w249;refine⟨fun _=>?_,fun h=>by omega⟩;refine⟨trivial,fun a441 k441 a489 _=>?_⟩;have v441:e 441=1:=a441;have w489:=Zvf (Qsu a489 k4 k441) (by rw[v4,v441]);refine⟨fun _=>?_,fun h=>by omega⟩;intro a681 _;have w681:=Zy a681;simp only[Ql,Qn]at w681;refine⟨fun _=>?_,fun h=>by omega⟩;refine⟨trivial,fun a873 k873 a921 _=>?_⟩;have v873:e 873=32761:=a873;have w921:=Zvf (Qsu a921 k7 k873) (by rw[v7,v873]);refine⟨fun _=>?_,fun h=>by omega⟩;intro a1113 _;have w1113:=Zy a1113;simp only[Ql,Qn]at w1113;refine⟨fun _=>?_,fun h=>by omega⟩;refine⟨.inl rfl,fun a1305 _=>?_⟩;have w1:e 1305=1:=a1305.trans Znl;refine⟨fun _=>rfl,fun h=>by omega⟩
def B5(s:Int):Prop:=s=1∨s=2
def cvL(s:Int):List Int:=if s=1 then[786251,65521,12,9723,164643,0,1]else if s=2 then[1152921504606846223,72057594037927889,16,613740293506734924,666621259561003659,0,1]else[0,0,0,0,0,0,0]
def Zbj(f:FuncId):K:={fn:=f,ext:=false,ins:=[iI],outs:=[.agg [.int .u64,.int .u64,.int .u64,.int .u64,.int .u64,.bool],oB],pre:=fun _=>True,sem:=fun|[s]=>cvL s|_=>[] }
def Zwo:Qq:=(.l 1 .bit (.c .eql (.v 0) (.n 1))
(.split 1
(.ret [.n 786251,.n 65521,.n 12,.n 9723,.n 164643,.n 0,.n 1])
(.l 2 .bit (.c .eql (.v 0) (.n 2))
(.split 2
(.ret [.n 1152921504606846223,.n 72057594037927889,.n 16,.n 613740293506734924,.n 666621259561003659,.n 0,.n 1])
(.ret [.n 0,.n 0,.n 0,.n 0,.n 0,.n 0,.n 0])))))
theorem Zlm(f:FuncId)(e:Nat->Int):Zwo.Xat [] ⟨fun ys=>ys=(Zbj f).sem [e 0],[]⟩ e:=by
 show Zwo.Xat _ ⟨fun ys=>ys=cvL (e 0),[]⟩ e;intro a1 _;have b1:=Zy a1;refine⟨fun h=>?_,fun h=>?_⟩
 ·show _=cvL (e 0);unfold cvL;rw[if_pos (show e 0=1 from Xn b1 h)];rfl
 ·intro a2 _;have b2:=Zy a2;have n1:¬e 0=1:=Wc b1 h;refine⟨fun h=>?_,fun h=>?_⟩
  ·show _=cvL (e 0);unfold cvL;rw[if_neg n1,if_pos (show e 0=2 from Xn b2 h)];rfl
  ·show _=cvL (e 0);unfold cvL;rw[if_neg n1,if_neg (show ¬e 0=2 from Wc b2 h)];rfl
theorem Zak(s:Int):pOk (pL s):=by
 unfold pL;split <;> exact⟨by decide,by decide⟩
theorem Qyl{s:Int}(h:B5 s):cvL s=[pL s,Wk s,if s=1 then 12 else 16,if s=1 then 9723 else 613740293506734924,if s=1 then 164643 else 666621259561003659,0,1]:=by
 rcases h with rfl|rfl <;> rfl
theorem Zv9{s:Int}(h:¬B5 s):cvL s=[0,0,0,0,0,0,0]:=by
 unfold cvL;rw[if_neg (fun h1=>h (.inl h1)),if_neg (fun h1=>h (.inr h1))]
open Classical in
theorem Zxi(s:Int):(cvL s).getD 6 0=bj (B5 s):=by
 by_cases h:B5 s
 ·rw[Qyl h,Ql9 h];rfl
 ·rw[Zv9 h,Qcj h];rfl
theorem Zrd{p:Prop}[Decidable p]:bi p=bj p:=by
 by_cases h:p
 ·rw[Ql9 h];exact if_pos h
 ·rw[Qcj h];exact if_neg h
noncomputable def Zj5(f:FuncId):K:={fn:=f,ext:=false,ins:=[iI,iPt],outs:=[oB],pre:=fun _=>True,sem:=fun|[s,x,y,z]=>[bj (B5 s/\inP (pL s) (Wk s) x y z)]|_=>[] }
def Zrl:Qq:=(xw 0 [.v 0] 4 qja
(.split 10
(xw 1 [.v 4,.v 5,.v 6,.v 7,.v 8,.v 9,.v 1,.v 2,.v 3] 11 qga
(.ret [.v 11]))
(.ret [.n 0])))
theorem Zfm(f1 f2 f:FuncId)(e:Nat->Int):Zrl.Xat [Zbj f1,Qwn f2] ⟨fun ys=>ys=(Zj5 f).sem [e 0,e 1,e 2,e 3],[]⟩ e:=by
 show Zrl.Xat _ ⟨fun ys=>ys=[bj (B5 (e 0)/\inP (pL (e 0)) (Wk (e 0)) (e 1) (e 2) (e 3))],[]⟩ e;refine⟨trivial,fun a4 _ a5 _ a6 _ a7 _ a8 _ a9 _ a10 _=>?_⟩;have v10:e 10=bj (B5 (e 0)):=(show e 10=(cvL (e 0)).getD 6 0 from a10).trans (Zxi _);refine⟨fun h=>?_,fun h=>?_⟩
 ·have hl:=Qcp v10 h;have v4:e 4=pL (e 0):=by rw[show e 4=(cvL (e 0)).getD 0 0 from a4,Qyl hl];rfl
  have v5:e 5=Wk (e 0):=by rw[show e 5=(cvL (e 0)).getD 1 0 from a5,Qyl hl];rfl
  refine⟨(by show pOk (e 4);rw[v4];exact Zak _),fun a11 _=>?_⟩;have v11:e 11=bi (inP (e 4) (e 5) (e 1) (e 2) (e 3)):=a11;show[e 11]=_;rw[v11,Zrd,v4,v5];exact congrArg (fun x=>[x]) (Qbw ⟨fun h=>⟨hl,h⟩,fun h=>h.2⟩)
 ·show[(0:Int)]=_;rw[Qcj fun hh=>Qly v10 h hh.1]
theorem Zxx{p x y z:Int}(hp:0<p)(h:onP p x y z):x<p/\y<p:=by
 unfold onP at h;split at h <;> omega
def Zx6(s px py pz x y z:Int):Prop:=(s=0/\(x=0/\y=0/\z=0)/\inG px py pz)∨(B5 s/\(px=0/\py=0/\pz=0)/\inP (pL s) (Wk s) x y z)
theorem Zvt{T:List K}{e:Nat->Int}{v:Int}{l:List (A×A)}(h:v=(D.eqs l).ev T e):(v=1/\∀p∈l,p.1.ev e=p.2.ev e)∨(v=0/\¬ ∀p∈l,p.1.ev e=p.2.ev e):=by
 have h:v=Xo (l.all fun p=>p.1.ev e==p.2.ev e):=h;by_cases hc:∀p∈l,p.1.ev e=p.2.ev e
 ·refine .inl ⟨?_,hc⟩;rw[h,show(l.all fun p=>p.1.ev e==p.2.ev e)=true from Ms.2 fun p hp=>beq_iff_eq.2 (hc p hp)];rfl
 ·refine .inr ⟨?_,hc⟩;have:(l.all fun p=>p.1.ev e==p.2.ev e)=false:=by
   cases hb:(l.all fun p=>p.1.ev e==p.2.ev e)with
   |false=>rfl
   |true=>exact absurd (fun p hp=>beq_iff_eq.1 (Ms.1 hb p hp)) hc
  rw[h,this];rfl
theorem Zzj{T:List K}{e:Nat->Int}{v:Int}{i j k:Nat}(h:v=(D.eqs [(.v i,.lit 0),(.v j,.lit 0),(.v k,.lit 0)]).ev T e):(v=1/\(e i=0/\e j=0/\e k=0))∨(v=0/\¬(e i=0/\e j=0/\e k=0)):=by
 have hi:(∀p∈[(A.v i,A.lit 0),(.v j,.lit 0),(.v k,.lit 0)],p.1.ev e=p.2.ev e)↔(e i=0/\e j=0/\e k=0):=by
  constructor
  ·intro h;exact⟨h _ (Mr ..),h _ (Mq _ (Mr ..)),h _ (Mq _ (Mq _ (Mr ..)))⟩
  ·rintro ⟨h1,h2,h3⟩ p hp
   simp only[Mh,M6,or_false]at hp;rcases hp with rfl|rfl|rfl
   ·exact h1
   ·exact h2
   ·exact h3
 rcases Zvt h with⟨h1,h2⟩|⟨h1,h2⟩
 ·exact .inl ⟨h1,hi.1 h2⟩
 ·exact .inr ⟨h1,fun hh=>h2 (hi.2 hh)⟩
theorem Jz{s:Int}(h:B5 s):prP (pL s):=by rcases h with rfl|rfl;exact .inl rfl;exact .inr rfl
theorem Zf8{s:Int}(h:B5 s):Wk s<18446744073709551616:=by
 rcases h with rfl|rfl <;> decide
theorem Qke(s:Int):0<Wk s:=by
 unfold Wk;split
 ·decide
 ·split <;> decide
def Bh(x:Int):Int:=x^(bP-2).toNat
theorem Zqb:((Np.nP:Nat):Int)=bP:=rfl
theorem U6{x:Int}(h:¬x%bP=0):(x*Bh x)%bP=1:=by
 have h1:=Zo (x:=x) Q9;have hf:=Qwu Np.p_base (a:=x%bP) (by omega) (by rw[Zqb];exact h1.2);rw[Zqb]at hf;rw[<- hf];unfold Bh;generalize (bP-2).toNat=n;exact(Q4 (Za x) ((Za _).trans (U8 (Za x) n))).symm
theorem Zur:(1:Int)%bP=1:=by decide
theorem Ui{x y:Int}(h:(x*y)%bP=0)(hx:¬x%bP=0):y%bP=0:=by
 have hi:=U6 hx;have h1:(y*(x*Bh x))%bP=y%bP:=by
  have:=Q4 (p:=bP) (a:=y) (A:=y) rfl (hi.trans Zur.symm);rw[Hg]at this;exact this
 rw[<- h1,show y*(x*Bh x)=x*y*Bh x by rw[<- K9,M0 y x]];exact X4 _ h
theorem Zfu{x y:Int}(h0:0<=x/\x<bP)(h1:0<=y/\y<bP)(h:¬x=y):¬(y-x)%bP=0:=by unfold bP at *;omega
theorem Zfy{y y':Int}(h0:0<=y/\y<bP)(h1:0<=y'/\y'<bP)(h:(y'+y)%bP=0):y=(-y')%bP:=by unfold bP at *;omega
section
variable {x y x' y':Int}
end
end Go.Sx



namespace Go.Sx
open Go Go.RowKit
set_option maxRecDepth 100000
def be4(n:Int):List Int:=[n/16777216%256,n/65536%256,n/256%256,n%256]
noncomputable def Zz:List Int->List Int
 |[]=>[]
 |x::l=>be4 ((dec x).length:Int)++(dec x++Zz l)
noncomputable def X8:List Int->Int
 |[]=>0
 |x::l=>(4+((dec x).length:Int))+X8 l
theorem Zd5(a:List Int)(x:Int):Zz (a++[x])=Zz a++(be4 ((dec x).length:Int)++dec x):=by
 induction a with
 |nil=>simp[Zz]
 |cons y a ih=>simp only[List.cons_append,Zz,ih,M8]
theorem Qrh(a b:List Int):X8 (a++b)=X8 a+X8 b:=by
 induction a with
 |nil=>simp[X8]
 |cons y a ih=>simp only[List.cons_append,X8,ih];omega
theorem Qf0(l:List Int):((Zz l).length:Int)=X8 l:=by
 induction l with
 |nil=>rfl
 |cons y a ih=>simp only[Zz,X8,O2,<- ih,be4,Ov,O5];omega
theorem Qqk(l:List Int):0<=X8 l:=by rw[<- Qf0];omega
theorem Qmj(l:List Int)(n:Nat):X8 (l.take n)<=X8 l:=by
 have h1:=Qrh (l.take n) (l.drop n);rw[Hs]at h1;have:=Qqk (l.drop n);omega
theorem Zqt{l:List Int}{n:Nat}(h:n<l.length):l.take (n+1)=l.take n++[l.getD n 0]:=by
 rw[Ki h,Ou,O1 h];rfl
theorem Qw9{l:List Int}{n:Nat}(h:n<l.length):Zz (l.take (n+1))=Zz (l.take n)++(be4 ((dec (l.getD n 0)).length:Int)++dec (l.getD n 0)):=by rw[Zqt h,Zd5]
theorem Qm8{l:List Int}{n:Nat}(h:n<l.length):X8 (l.take (n+1))=X8 (l.take n)+(4+((dec (l.getD n 0)).length:Int)):=by rw[Zqt h,Qrh];simp[X8]
theorem Zc5(l:List Int):4*(l.length:Int)<=X8 l:=by
 induction l with
 |nil=>exact Int.le_refl _
 |cons x l ih=>simp only[X8,Ov];omega
theorem Qx0(n:Int):(be4 n).length=4:=rfl
def Qop(te:TypeId)(f:FuncId):K:={fn:=f,ext:=false,ins:=[iI],outs:=[.lst te (.int .u8)],pre:=fun|[n]=>0<=n|_=>False,sem:=fun|[n]=>[enc (be4 n)]|_=>[] }
noncomputable def Qig(te:TypeId)(f:FuncId):K:={fn:=f,ext:=false,ins:=[.ll],outs:=[.lst te (.int .u8)],pre:=fun|[x]=>X8 (dec x)<=65536|_=>False,sem:=fun|[x]=>[enc (Zz (dec x))]|_=>[] }
noncomputable def Qm7(x:Int):List Int:=if X8 (dec x)<=65536 then[enc (Zz (dec x)),0]else[0,3]
def Qo4(x:Int):Prop:=∀z∈dec x,((dec z).length:Int)<4611686018427387904
noncomputable def Qlc(te:TypeId)(f:FuncId):K:={fn:=f,ext:=false,ins:=[iI,.ll],outs:=[.lst te (.int .u8),oI],pre:=fun|[_,x]=>Qo4 x|_=>False,sem:=fun|[s,x]=>if Vf s then Qm7 x else[0,2]|_=>[] }
def Zfn:Qq:=(.l 1 .bit (.c .eql (.v 0) (.n 0))
(.split 1
(.ret [.n 1])
(.l 2 .bit (.c .eql (.v 0) (.n 1))
(.split 2
(.ret [.n 1])
(.l 3 .bit (.c .eql (.v 0) (.n 2))
(.ret [.v 3]))))))
theorem Zbc(f:FuncId)(e:Nat->Int):Zfn.Xat [] ⟨fun ys=>ys=(kIs f).sem [e 0],[]⟩ e:=by
 show Zfn.Xat _ ⟨fun ys=>ys=[bi (Vf (e 0))],[]⟩ e;intro a1 _;have b1:=Zy a1;simp only[Ql,Qn]at b1;refine⟨fun h=>?_,fun h=>?_⟩
 ·show[(1:Int)]=[bi (Vf (e 0))]
  rw[bi,if_pos (by unfold Vf;omega)]
 intro a2 _;have b2:=Zy a2;simp only[Ql,Qn]at b2;refine⟨fun h=>?_,fun h=>?_⟩
 ·show[(1:Int)]=[bi (Vf (e 0))]
  rw[bi,if_pos (by unfold Vf;omega)]
 intro a3 _;have b3:=Zy a3;simp only[Ql,Qn]at b3;show[e 3]=[bi (Vf (e 0))]
 rcases b3 with⟨h1,h2⟩|⟨h1,h2⟩
 ·rw[h1,bi,if_pos (by unfold Vf;omega)]
 ·rw[h1,bi,if_neg (by unfold Vf;omega)]
def Zmh:Qq:=(.l 1 kI (.b .shr .i64 (.v 0) (.n 24))
(.l 2 kB (.conv .u8 (.v 1))
(.l 3 kI (.b .shr .i64 (.v 0) (.n 16))
(.l 4 kB (.conv .u8 (.v 3))
(.l 5 kI (.b .shr .i64 (.v 0) (.n 8))
(.l 6 kB (.conv .u8 (.v 5))
(.l 7 kB (.conv .u8 (.v 0))
(.l 8 (.lst (.int .u8)) (.lapp (.n 0) [.v 2,.v 4,.v 6,.v 7])
(.ret [.v 8])))))))))
theorem Qu0(te:TypeId)(f:FuncId)(e:Nat->Int)(hp:0<=e 0):Zmh.Xat [] ⟨fun ys=>ys=(Qop te f).sem [e 0],[]⟩ e:=by
 intro a1 _ a2 _ a3 _ a4 _ a5 _ a6 _ a7 _ a8 _;have v1:e 1=e 0/16777216:=Vv (c:=24) 16777216 a1 (by decide) (by decide);have v3:e 3=e 0/65536:=Vv (c:=16) 65536 a3 (by decide) (by decide);have v5:e 5=e 0/256:=Vv (c:=8) 256 a5 (by decide) (by decide);have v2:e 2=e 1%256:=a2;have v4:e 4=e 3%256:=a4;have v6:e 6=e 5%256:=a6;have v7:e 7=e 0%256:=a7;have v8:e 8=enc (dec 0++[e 2,e 4,e 6,e 7]):=a8;show[e 8]=[enc (be4 (e 0))]
 rw[v8,Qv,Ox,v2,v4,v6,v7,v1,v3,v5];rfl
def Qzn:Qq:=(.l 1 kI (.llen (.v 0))
(.loop [.n 0,.n 0] [kI,(.lst (.int .u8))] 2
(.l 4 .bit (.c .lss (.v 2) (.v 1))
(.split 4
(.l 5 kI (.llen (.v 0))
(.l 6 .bit (.c .leq (.n 0) (.v 2))
(.l 7 .bit (.c .lss (.v 2) (.v 5))
(.nz (.v 6)
(.nz (.v 7)
(.l 8 (.lst (.int .u8)) (.lget (.v 0) (.v 2))
(.l 9 kI (.llen (.v 8))
(xw 0 [.v 9] 10 [(.lst (.int .u8))]
(.l 11 kI (.llen (.v 3))
(.l 12 .bit (.c .lss (.v 11) (.n 2147483648))
(.l 13 kI (.llen (.v 10))
(.l 14 .bit (.c .lss (.v 13) (.n 2147483648))
(.nz (.v 12)
(.nz (.v 14)
(.l 15 (.lst (.int .u8)) (.lcat (.v 3) (.v 10))
(.l 16 kI (.llen (.v 15))
(.l 17 .bit (.c .lss (.v 16) (.n 2147483648))
(.l 18 kI (.llen (.v 8))
(.l 19 .bit (.c .lss (.v 18) (.n 2147483648))
(.nz (.v 17)
(.nz (.v 19)
(.l 20 (.lst (.int .u8)) (.lcat (.v 15) (.v 8))
(.l 21 kI (.b .add .i64 (.v 2) (.n 1))
(.back 0 [.v 21,.v 20]))))))))))))))))))))))))
(.ret [.v 3])))))
theorem Qwe(te:TypeId)(f1 f:FuncId)(e:Nat->Int)(hp:(Qig te f).pre [e 0]):Qzn.Xat [Qop te f1] ⟨fun ys=>ys=(Qig te f).sem [e 0],[]⟩ e:=by
 have hp:X8 (dec (e 0))<=65536:=hp;show Qzn.Xat _ ⟨fun ys=>ys=[enc (Zz (dec (e 0)))],[]⟩ e;obtain⟨L,d0⟩:∃L,dec (e 0)=L:=⟨_,rfl⟩
 rw[d0]at hp ⊢;have hlong:=Zc5 L;intro a1 _;have v1:e 1=(L.length:Int):=by rw[<- d0];exact a1
 refine⟨fun|[i,q]=>(0<=i/\i<=L.length)/\q=enc (Zz (L.take i.toNat))|_=>False,fun|[i,_]=>(L.length-i).toNat|_=>0,⟨⟨Int.le_refl _,(show(0:Int)<=L.length by omega)⟩,(show(0:Int)=enc []from rfl)⟩,fun e' he hkk hI=>?_⟩;obtain⟨⟨i0,i1⟩,q3⟩:(0<=e' 2/\e' 2<=L.length)/\e' 3=enc (Zz (L.take (e' 2).toNat)):=hI;have d0:=(congrArg dec (he 0 (by decide))).trans d0;have v1:=(he 1 (by decide)).trans v1;have d3:=(congrArg dec q3).trans (Qu _);clear he hkk a1;intro a4 _;have b4:=Zj a4;simp only[Ql]at b4;refine⟨fun h=>?_,fun h=>?_⟩
 ·have c4:e' 2<L.length:=by have:=Xn b4 h;omega
  intro a5 _ a6 _ a7 _;have v5:e' 5=(L.length:Int):=by rw[<- d0];exact a5
  have hn:(e' 2).toNat<L.length:=by omega
  have t1:=Qm8 hn;have t2:=Qmj L ((e' 2).toNat+1);have t3:=Qqk (L.take (e' 2).toNat);have t4:=Qf0 (L.take (e' 2).toNat);refine⟨Xf a6 i0,Xi a7 (by show e' 2<e' 5;omega),fun a8 _ a9 _=>⟨?_,fun a10 _ a11 _ a12 _ a13 _ a14 _=>?_⟩⟩
  ·have v9:e' 9=((dec (e' 8)).length:Int):=a9;show 0<=e' 9;omega
  have v8:e' 8=L.getD (e' 2).toNat 0:=by rw[<- d0];exact a8
  have v9:e' 9=((dec (e' 8)).length:Int):=a9;have d10:dec (e' 10)=be4 (e' 9):=by rw[show e' 10=enc (be4 (e' 9))from a10,Qu]
  have v11:e' 11=((dec (e' 3)).length:Int):=a11;have v13:e' 13=((dec (e' 10)).length:Int):=a13;rw[<- v8]at t1;rw[d3]at v11;rw[d10,Qx0]at v13;refine⟨Xi a12 (by show e' 11<2147483648;omega),Xi a14 (by show e' 13<2147483648;omega),fun a15 _ a16 _ a17 _ a18 _ a19 _=>?_⟩;have d15:dec (e' 15)=Zz (L.take (e' 2).toNat)++be4 (e' 9):=by rw[show e' 15=enc (dec (e' 3)++dec (e' 10))from a15,Qu,d3,d10]
  have v16:e' 16=((dec (e' 15)).length:Int):=a16;have v18:e' 18=((dec (e' 8)).length:Int):=a18;rw[d15,O2,Qx0]at v16;refine⟨Xi a17 (by show e' 16<2147483648;omega),Xi a19 (by show e' 18<2147483648;omega),fun a20 _ a21 _=>?_⟩;have v21:=Zcq (a:=e' 2) (b:=1) a21 (by omega);show((0<=e' 21/\e' 21<=L.length)/\e' 20=enc (Zz (L.take (e' 21).toNat)))/\(L.length-e' 21).toNat<(L.length-e' 2).toNat;refine⟨⟨by omega,?_⟩,by omega⟩;rw[show e' 20=enc (dec (e' 15)++dec (e' 8))from a20,d15,show(e' 21).toNat=(e' 2).toNat+1 by omega,Qw9 hn,v9,v8,M8]
 ·have c4:e' 2=L.length:=by have:=Wc b4 h;omega
  show[e' 3]=[enc (Zz L)]
  rw[q3,c4,Mi,Mg (Nat.le_refl _)]
def Zqk:Qq:=(xw 1 [.v 0] 2 qga
(.l 3 .bit (.not (.v 2))
(.split 3
(.ret [.n 0,.n 2])
(.l 4 kI (.llen (.v 1))
(.loop [.n 0,.n 0] [kI,kI] 5
(.l 7 .bit (.c .lss (.v 5) (.v 4))
(.split 7
(.l 8 kI (.llen (.v 1))
(.l 9 .bit (.c .leq (.n 0) (.v 5))
(.l 10 .bit (.c .lss (.v 5) (.v 8))
(.nz (.v 9)
(.nz (.v 10)
(.l 11 (.lst (.int .u8)) (.lget (.v 1) (.v 5))
(.l 12 kI (.llen (.v 11))
(.l 13 kI (.b .add .i64 (.n 4) (.v 12))
(.l 14 kI (.b .add .i64 (.v 6) (.v 13))
(.l 15 .bit (.c .gtr (.v 14) (.n 65536))
(.split 15
(.ret [.n 0,.n 3])
(.l 16 kI (.b .add .i64 (.v 5) (.n 1))
(.back 0 [.v 16,.v 14])))))))))))))
(xw 0 [.v 1] 8 [(.lst (.int .u8))]
(.ret [.v 8,.n 0])))))))))
theorem Ziw(te:TypeId)(f1 f2 f:FuncId)(e:Nat->Int)(hk:Q0 [.int .i64,.lst .byt] [e 0,e 1])(hp:(Qlc te f).pre [e 0,e 1]):Zqk.Xat [Qig te f1,kIs f2] ⟨fun ys=>ys=(Qlc te f).sem [e 0,e 1],[]⟩ e:=by
 have hp:Qo4 (e 1):=hp;have hL:=hk.2.1.1;show Zqk.Xat _ ⟨fun ys=>ys=if Vf (e 0)then Qm7 (e 1)else[0,2],[]⟩ e;unfold Qo4 at hp;unfold Qm7;obtain⟨L,d1⟩:∃L,dec (e 1)=L:=⟨_,rfl⟩
 rw[d1]at hp hL ⊢;clear hk;refine⟨trivial,fun a2 _ a3 _=>?_⟩;have v2:e 2=bi (Vf (e 0)):=a2;have b3:=Ju a3;simp only[Ql]at b3;refine⟨fun h=>?_,fun h=>?_⟩
 ·have hn:¬Vf (e 0):=fun hs=>by rw[bi,if_pos hs]at v2;omega
  rw[if_neg hn];rfl
 have hs:Vf (e 0):=by
  by_cases hs:Vf (e 0)
  ·exact hs
  ·rw[bi,if_neg hs]at v2;omega
 rw[if_pos hs];intro a4 _;have v4:e 4=(L.length:Int):=by rw[<- d1];exact a4
 refine⟨fun|[i,v]=>(0<=i/\i<=L.length)/\v=X8 (L.take i.toNat)/\v<=65536|_=>False,fun|[i,_]=>(L.length-i).toNat|_=>0,⟨⟨Int.le_refl _,(show(0:Int)<=L.length by omega)⟩,rfl,(show(0:Int)<=65536 by decide)⟩,fun e' he hkk hI=>?_⟩;obtain⟨⟨i0,i1⟩,q6,q7⟩:(0<=e' 5/\e' 5<=L.length)/\e' 6=X8 (L.take (e' 5).toNat)/\e' 6<=65536:=hI;have d1:=(congrArg dec (he 1 (by decide))).trans d1;have v4:=(he 4 (by decide)).trans v4;clear he hkk a2 a3 a4 b3 h;intro a7 _;have b7:=Zj a7;simp only[Ql]at b7;refine⟨fun h=>?_,fun h=>?_⟩
 ·have c7:e' 5<L.length:=by have:=Xn b7 h;omega
  intro a8 _ a9 _ a10 _;have v8:e' 8=(L.length:Int):=by rw[<- d1];exact a8
  have hn:(e' 5).toNat<L.length:=by omega
  have t1:=Qm8 hn;have t2:=Qmj L ((e' 5).toNat+1);have t3:=Qqk (L.take (e' 5).toNat);refine⟨Xf a9 i0,Xi a10 (by show e' 5<e' 8;omega),fun a11 _ a12 _ a13 _ a14 _ a15 _=>?_⟩;have v11:e' 11=L.getD (e' 5).toNat 0:=by rw[<- d1];exact a11
  have v12:e' 12=((dec (e' 11)).length:Int):=a12;have hz:=hp (e' 11) (by rw[v11,Ou,O1 hn];exact Kk hn);have v13:=Zcq (a:=4) (b:=e' 12) a13 (by omega);have v14:=Zcq (a:=e' 6) (b:=e' 13) a14 (by omega);rw[<- v11]at t1;have b15:=Qeq a15;simp only[Ql,Qn]at b15;refine⟨fun h=>?_,fun h=>?_⟩
  ·have c15:=Xn b15 h;rw[if_neg (by omega)];rfl
  ·have c15:=Wc b15 h;intro a16 _;have v16:=Zcq (a:=e' 5) (b:=1) a16 (by omega);show((0<=e' 16/\e' 16<=L.length)/\e' 14=X8 (L.take (e' 16).toNat)/\e' 14<=65536)/\(L.length-e' 16).toNat<(L.length-e' 5).toNat;refine⟨⟨by omega,?_,by omega⟩,by omega⟩;rw[show(e' 16).toNat=(e' 5).toNat+1 by omega,t1];omega
 ·have c7:e' 5=L.length:=by have:=Wc b7 h;omega
  rw[c7,Mi,Mg (Nat.le_refl _)]at q6;refine⟨?_,fun a8 _=>?_⟩
  ·show X8 (dec (e' 1))<=65536;rw[d1];omega
  ·rw[if_pos (by omega)];show[e' 8,0]=[enc (Zz L),0]
   rw[show e' 8=enc (Zz (dec (e' 1)))from a8,d1]
namespace Sha
def rot(x n:Int):Int:=Qm .or .u32 (Qm .shr .u32 x n) (Qm .shl .u32 x (32-n))
theorem or_comm(k:IntKind)(a b:Int):Qm .or k a b=Qm .or k b a:=by
 simp only[Qm,BitVec.or_comm]
def kRot(f:FuncId):K:={fn:=f,ext:=false,ins:=[.one (.int .u32),.one (.int .i64)],outs:=[.one (.int .u32)],pre:=fun|[_,n]=>1<=n/\n<=31|_=>False,sem:=fun|[x,n]=>[rot x n]|_=>[] }
theorem Zxk:∀n:Int,1<=n->n<=31->Qm .and .u64 (wr .u64 (wr .i64 (0-n))) 31=32-n:=by
 intro n h1 h2;have h:n=1∨n=2∨n=3∨n=4∨n=5∨n=6∨n=7∨n=8∨n=9∨n=10∨n=11∨n=12∨n=13∨n=14∨n=15∨n=16∨n=17∨n=18∨n=19∨n=20∨n=21∨n=22∨n=23∨n=24∨n=25∨n=26∨n=27∨n=28∨n=29∨n=30∨n=31:=by omega
 rcases h with rfl|rfl|rfl|rfl|rfl|rfl|rfl|rfl|rfl|rfl|rfl|rfl|rfl|rfl|rfl|rfl|rfl|rfl|rfl|rfl|rfl|rfl|rfl|rfl|rfl|rfl|rfl|rfl|rfl|rfl|rfl <;> decide
def Zll:Qq:=(.l 2 kI (.b .sub .i64 (.n 0) (.v 1))
(.l 3 kU (.conv .u64 (.v 2))
(.l 4 kU (.b .and .u64 (.v 3) (.n 31))
(.l 5 kW (.b .shl .u32 (.v 0) (.v 4))
(.l 6 kU (.b .sub .u64 (.n 32) (.v 4))
(.l 7 kW (.b .shr .u32 (.v 0) (.v 6))
(.l 8 kW (.b .or .u32 (.v 5) (.v 7))
(.ret [.v 8]))))))))
theorem law_dright(f:FuncId)(e:Nat->Int)(h1:1<=e 1)(h2:e 1<=31):Zll.Xat [] ⟨fun ys=>ys=[rot (e 0) (e 1)],[]⟩ e:=by
 intro a1 _ a2 _ a3 _ a4 _ a5 _ a6 _ a7 _;have c1:e 2=wr .i64 (0-e 1):=a1;have c2:e 3=wr .u64 (e 2):=a2;have c3:e 4=Qm .and .u64 (e 3) 31:=a3;have c4:e 5=Qm .shl .u32 (e 0) (e 4):=a4;have c5:e 6=wr .u64 (32-e 4):=a5;have c6:e 7=Qm .shr .u32 (e 0) (e 6):=a6;have c7:e 8=Qm .or .u32 (e 5) (e 7):=a7;have d3:e 4=32-e 1:=by rw[c3,c2,c1];exact Zxk _ h1 h2
 have d5:e 6=e 1:=by rw[c5,d3];simp only[wr];omega
 show[e 8]=_;rw[c7,c4,c6,d3,d5,or_comm];rfl
end Sha
namespace Sha
def sh8(a p:Int):Int:=Qm .or .u32 (Qm .shl .u32 a 8) p
def Zvv(b0 b1 b2 b3:Int):Int:=Qm .or .u32 (Qm .or .u32 (Qm .or .u32 (Qm .shl .u32 b0 24) (Qm .shl .u32 b1 16)) (Qm .shl .u32 b2 8)) b3
def ad(a b:Int):Int:=Qm .add .u32 a b
def xo(a b:Int):Int:=Qm .xor .u32 a b
def an(a b:Int):Int:=Qm .and .u32 a b
def s0(x:Int):Int:=xo (xo (rot x 7) (rot x 18)) (Qm .shr .u32 x 3)
def s1(y:Int):Int:=xo (xo (rot y 17) (rot y 19)) (Qm .shr .u32 y 10)
def Qlw(b:Nat->Int)(w:List Int)(t:Nat):Int :=
 if t<16 then Zvv (b (4*t)) (b (4*t+1)) (b (4*t+2)) (b (4*t+3))
 else ad (ad (ad (s1 (w.getD (t-2) 0)) (w.getD (t-7) 0)) (s0 (w.getD (t-15) 0))) (w.getD (t-16) 0)
def sch(b:Nat->Int):Nat->List Int
 |0=>List.replicate 64 0
 |t+1=>(sch b t).set t (Qlw b (sch b t) t)
theorem Ze(b:Nat->Int):∀t,(sch b t).length=64
 |0=>by simp[sch]
 |t+1=>by simp only[sch,Md,Ze b t]
def rp(k w:Int)(v:Nat->Int):Int :=
 ad (ad (ad (ad (v 7) (xo (xo (rot (v 4) 6) (rot (v 4) 11)) (rot (v 4) 25))) (xo (an (v 4) (v 5)) (an (xo 4294967295 (v 4)) (v 6)))) k) w
def rq(v:Nat->Int):Int :=
 ad (xo (xo (rot (v 0) 2) (rot (v 0) 13)) (rot (v 0) 22)) (xo (xo (an (v 0) (v 1)) (an (v 0) (v 2))) (an (v 1) (v 2)))
def rnd(k w:Int)(l:List Int):List Int :=
 let v:=fun i=>l.getD i 0
 [ad (rp k w v) (rq v),v 0,v 1,v 2,ad (v 3) (rp k w v),v 4,v 5,v 6]
def Qrz(K:List Int)(w:List Int)(h:List Int):Nat->List Int
 |0=>h
 |t+1=>rnd (K.getD t 0) (w.getD t 0) (Qrz K w h t)
def blk(K h:List Int)(b:Nat->Int):List Int :=
 let x:=Qrz K (sch b 64) h 64
 [ad (h.getD 0 0) (x.getD 0 0),ad (h.getD 1 0) (x.getD 1 0),ad (h.getD 2 0) (x.getD 2 0),ad (h.getD 3 0) (x.getD 3 0),ad (h.getD 4 0) (x.getD 4 0),ad (h.getD 5 0) (x.getD 5 0),ad (h.getD 6 0) (x.getD 6 0),ad (h.getD 7 0) (x.getD 7 0)]
theorem Qmv{b c:Nat->Int}(h:∀i,i<64->b i=c i):∀t,sch b t=sch c t
 |0=>rfl
 |t+1=>by
  simp only[sch,Qmv h t];congr 1;unfold Qlw;split
  ·rw[h _ (by omega),h _ (by omega),h _ (by omega),h _ (by omega)]
  ·rfl
theorem Qgc{K s:List Int}{b c:Nat->Int}(h:∀i,i<64->b i=c i):blk K s b=blk K s c:=by
 simp only[blk,Qmv h]
def run(K h:List Int)(b:Nat->Int):Nat->List Int
 |0=>h
 |j+1=>blk K (run K h b j) fun i=>b (64*j+i)
theorem Qnv{K h:List Int}{b c:Nat->Int}:∀(n:Nat),(∀i,i<64*n->b i=c i)->run K h b n=run K h c n
 |0,_=>rfl
 |n+1,hh=>by
  simp only[Sha.run];rw[Qnv n fun i hi=>hh i (by omega)];exact Qgc fun i hi=>hh _ (by omega)
end Sha
namespace Sha
theorem Qi9{v:Int}{p q:Prop}(h:v≠0)(b:(v=1/\p)∨(v=0/\q)):p:=by rcases b with⟨_,hp⟩|⟨h0,_⟩;exact hp;exact absurd h0 h
theorem no_{v:Int}{p q:Prop}(h:v=0)(b:(v=1/\p)∨(v=0/\q)):q:=by rcases b with⟨h1,_⟩|⟨_,hq⟩;omega;exact hq
theorem Y2{v:Int}{p q:Prop}(b:(v=1/\p)∨(v=0/\q))(hq:¬q):v≠0:=by
 rcases b with⟨h,_⟩|⟨_,h⟩
 ·omega
 ·exact absurd h hq
theorem t64{l:List Int}(h:l.length=64):(l.take (64:Int).toNat).drop (0:Int).toNat=l:=by
 rw[show(0:Int).toNat=0 from rfl,K3,show(64:Int).toNat=64 from rfl,Mg (by omega)]
theorem t8{l:List Int}(h:l.length=8):(l.take (8:Int).toNat).drop (0:Int).toNat=l:=by
 rw[show(0:Int).toNat=0 from rfl,K3,show(8:Int).toNat=8 from rfl,Mg (by omega)]
theorem Zsq{l:List Int}{t:Nat}{x:Int}(h:t<l.length):(l.set t x).getD t 0=x:=by
 rw[Ou,Ls h];rfl
def hor(b:Nat->Int)(i:Nat):Nat->Int
 |0=>0
 |j+1=>sh8 (hor b i j) (b (i+j))
end Sha
namespace Sha
def K0:List Int:=[1116352408,1899447441,3049323471,3921009573,961987163,1508970993,2453635748,2870763221,3624381080,310598401,607225278,1426881987,1925078388,2162078206,2614888103,3248222580,3835390401,4022224774,264347078,604807628,770255983,1249150122,1555081692,1996064986,2554220882,2821834349,2952996808,3210313671,3336571891,3584528711,113926993,338241895,666307205,773529912,1294757372,1396182291,1695183700,1986661051,2177026350,2456956037,2730485921,2820302411,3259730800,3345764771,3516065817,3600352804,4094571909,275423344,430227734,506948616,659060556,883997877,958139571,1322822218,1537002063,1747873779,1955562222,2024104815,2227730452,2361852424,2428436474,2756734187,3204031479,3329325298]
def H0:List Int:=[1779033703,3144134277,1013904242,2773480762,1359893119,2600822924,528734635,1541459225]
def eight(n:Int):List Int:=[56,48,40,32,24,16,8,0].map fun s=>wr .u8 (Qm .shr .u64 n s)
def Zwp(l:List Int):List Int:=l++List.replicate ((120-l.length%64)%64) 0
def Zm2(h:List Int):List Int:=[0,1,2,3,4,5,6,7].flatMap fun j=>[24,16,8,0].map fun s=>wr .u8 (Qm .shr .u32 (h.getD j 0) s)
def Vk(b:List Int):List Int:=Zwp (b++[128])++eight (8*(b.length:Int))
def sha(b:List Int):List Int:=Zm2 (Sha.run K0 H0 (fun i=>(Vk b).getD i 0) ((Vk b).length/64))
noncomputable def kSum(f:FuncId):K:={fn:=f,ext:=false,ins:=[.lst (.int .u8)],outs:=[.agg [.arr .u8 32]],pre:=fun|[x]=>(dec x).length<1073741824|_=>False,sem:=fun|[x]=>[enc (sha (dec x))]|_=>[] }
end Sha
namespace Sha
theorem Zba(n:Int):(eight n).length=8:=by simp[eight]
theorem Zng(K h:List Int)(b:Nat->Int):(blk K h b).length=8:=by simp[blk]
theorem Xw{K h:List Int}(b:Nat->Int)(hh:h.length=8):∀n,(Sha.run K h b n).length=8
 |0=>hh
 |n+1=>Zng _ _ _
theorem Yw:H0.length=8:=rfl
end Sha
end Go.Sx
