/- Part Gk of the proof. -/
import Derived.Test.YtlloonffibabfaaGreatDoorGj
import Derived.Test.YtlloonffibabfaaGreatDoorGi
set_option linter.unusedVariables false
set_option linter.unusedSimpArgs false
namespace Go.Sx
open Go Go.RowKit
set_option maxRecDepth 100000
def Qan(P:J Int):Int×Int×Int :=
 if P.z%bP=0 then(0,0,1)else
 let i:=P.z^(bP-2).toNat
 (P.x*(i*i),P.y*(i*i*i),0)
def Qcy(P:J Int):List Int:=[Qo (Qan P).1,Qo (Qan P).2.1,(Qan P).2.2]
def onE(x y z:Int):Prop:=if z=0 then Ql y*Ql y%bP=(Ql x*Ql x*Ql x+4)%bP else x=0/\y=0
def rsE(x y z:Int):J Int:=if z=0 then⟨Ql x,Ql y,1⟩else oJ R1
def onV(x y z:Int):Prop:=(x<bP/\y<bP)/\if z=0 then y*y%bP=(x*x*x+4)%bP else x=0/\y=0
def rsV(x y z:Int):J Int:=if z=0 then⟨x,y,1⟩else oJ R1
def inG(x y z:Int):Prop:=onV x y z/\(Xd R1 (rsV x y z) 384 Xj.toNat).z%bP=0
open Classical in
noncomputable def bj(p:Prop):Int:=if p then 1 else 0
theorem Qbp{p:Prop}(h:p):bj p=1:=if_pos h
theorem Jf{p:Prop}(h:¬p):bj p=0:=if_neg h
theorem Qgy{v:Int}{p:Prop}(b:(v=1/\p)∨(v=0/\¬p)):v=bj p:=by
 rcases b with⟨h,k⟩|⟨h,k⟩
 ·rw[h,Qbp k]
 ·rw[h,Jf k]
theorem Vl{v:Int}{p:Prop}(h:v=bj p)(hn:v≠0):p:=by
 by_cases hp:p
 ·exact hp
 ·exact absurd (h.trans (Jf hp)) hn
theorem Qak{v:Int}{p:Prop}(h:v=bj p)(hn:v=0):¬p:=fun hp=>by
 rw[Qbp hp,hn]at h;exact absurd h (by decide)
theorem W8{p q:Prop}(h:p↔q):bj p=bj q:=by rw[propext h]
noncomputable def Qdn(o:Fo)(f:FuncId):K:={fn:=f,ext:=false,ins:=[.agg o.ls,.agg ls3],outs:=[.agg Jn],pre:=fun|[_,_,x,y,z]=>x<bP/\y<bP/\z<bP|_=>False,sem:=fun|[_,_,x,y,z]=>Qcy (ofJ x y z)|_=>[] }
noncomputable def kOn(o:Fo)(f:FuncId):K:={fn:=f,ext:=false,ins:=[.agg o.ls,.agg Jn],outs:=[oB],pre:=fun|[_,b,x,y,_]=>b=Qo 4/\x<bP/\y<bP|_=>False,sem:=fun|[_,_,x,y,z]=>[bj (onE x y z)]|_=>[] }
def Qm2(o:Fo)(f:FuncId):K:={fn:=f,ext:=false,ins:=[.agg o.ls,.agg Jn],outs:=[.agg Jn],pre:=fun|[_,_,_,y,_]=>y<bP|_=>False,sem:=fun|[_,_,x,y,z]=>[x,Qo (-Ql y),z]|_=>[] }
noncomputable def Zj1(o:Fo)(f:FuncId):K:={fn:=f,ext:=false,ins:=[.agg o.ls,.agg Jn],outs:=[oB],pre:=fun|[u,b,x,y,_]=>u=Qo 1/\b=Qo 4/\x<bP/\y<bP|_=>False,sem:=fun|[_,_,x,y,z]=>[bj (onE x y z/\(Xd R1 (rsE x y z) 384 Xj.toNat).z%bP=0)]|_=>[] }
def Qgg(f:FuncId):K:={fn:=f,ext:=false,ins:=[],outs:=[oN],pre:=fun _=>True,sem:=fun _=>[Xj] }
def Qam(f:FuncId):K:={fn:=f,ext:=false,ins:=[],outs:=[oN],pre:=fun _=>True,sem:=fun _=>[bP] }
def Qfm(f:FuncId):K:={fn:=f,ext:=false,ins:=[.agg Jn],outs:=[.agg Jn],pre:=fun _=>True,sem:=fun|[x,y,z]=>[Qo x,Qo y,z]|_=>[] }
def Qjm(f:FuncId):K:={fn:=f,ext:=false,ins:=[.agg Jn],outs:=[.agg Jn],pre:=fun|[x,y,_]=>x<bP/\y<bP|_=>False,sem:=fun|[x,y,z]=>[Ql x,Ql y,z]|_=>[] }
noncomputable def Qb5(f:FuncId):K:={fn:=f,ext:=false,ins:=[.agg Jn],outs:=[oB],pre:=fun _=>True,sem:=fun|[x,y,_]=>[bj (x<bP/\y<bP)]|_=>[] }
noncomputable def Qkm(f:FuncId):K:={fn:=f,ext:=false,ins:=[.agg Jn],outs:=[oB],pre:=fun _=>True,sem:=fun|[x,y,z]=>[bj (onV x y z)]|_=>[] }
noncomputable def Zk1(f:FuncId):K:={fn:=f,ext:=false,ins:=[.agg Jn],outs:=[oB],pre:=fun _=>True,sem:=fun|[x,y,z]=>[bj (inG x y z)]|_=>[] }
open Classical in
noncomputable def Qwv(x y z:Int):List Int:=if onV x y z then[x,(-y)%bP,z,0]else[0,0,0,5]
theorem Zmq{x y z:Int}(h:onV x y z):Qwv x y z=[x,(-y)%bP,z,0]:=if_pos h
theorem Xay{x y z:Int}(h:¬onV x y z):Qwv x y z=[0,0,0,5]:=if_neg h
noncomputable def Zly(f:FuncId):K:={fn:=f,ext:=false,ins:=[.agg Jn],outs:=[.agg Jn,oI],pre:=fun _=>True,sem:=fun|[x,y,z]=>Qwv x y z|_=>[] }
theorem Qsp{P Q:J Int}(h:Jeq P Q):Qcy P=Qcy Q:=by
 unfold Qcy Qan;rw[h.2.2];split
 ·rfl
 ·simp only;have hi:=J7 h.2.2 (bP-2).toNat;rw[Zw (Q2 h.1 (Q2 hi hi)),Zw (Q2 h.2.1 (Q2 (Q2 hi hi) hi))]
def Zj0:Qn:=(.l 5 .bit (.eqs [((.m 4 0),(.n 0)),((.m 4 1),(.n 0)),((.m 4 2),(.n 0)),((.m 4 3),(.n 0)),((.m 4 4),(.n 0)),((.m 4 5),(.n 0))])
(.split 5
(.ret [.n 0,.n 0,.n 1])
(xw 1 [.v 4] 6 Q7
(xw 0 [.v 6,.v 6] 7 Q7
(xw 0 [.v 2,.v 7] 248 Q7
(xw 0 [.v 7,.v 6] 680 Q7
(xw 0 [.v 3,.v 680] 728 Q7
(.ret [.v 248,.v 728,.n 0]))))))))
theorem Zhb(o:Fo)(f1 f2 f:FuncId)(e:Nat->Int)(hk:Qy [.num,.num,.num,.num,.num] [e 0,e 1,e 2,e 3,e 4])(hp:(Qdn o f).pre [e 0,e 1,e 2,e 3,e 4]):Zj0.Xij [U4 f1,Qhp f2] ⟨fun ys=>ys=(Qdn o f).sem [e 0,e 1,e 2,e 3,e 4],[]⟩ e:=by
 obtain⟨u2,u3,u4⟩:e 2<bP/\e 3<bP/\e 4<bP:=hp;obtain⟨_,_,h2,h3,h4,_⟩:=hk;have k4:=h4;have q2:=X9 h2.1 u2;have q3:=X9 h3.1 u3;have q4:=X9 h4.1 u4;clear u2 u3 u4 h2 h3 h4;show Zj0.Xij _ ⟨fun ys=>ys=Qcy (ofJ (e 2) (e 3) (e 4)),[]⟩ e;intro a5 k5;have b5:=Qao a5 k4;clear a5 k5;refine⟨fun h=>?_,fun h=>?_⟩
 ·have c5:=h;have z1:=z_E q4 (Zc b5 c5);show[0,0,1]=_;unfold Qcy Qan;rw[show(ofJ (e 2) (e 3) (e 4)).z=Ql (e 4)from rfl,if_pos z1,Qex]
 ·have c5:=h;have z1:=Zpg q4 (Xf b5 c5);refine⟨(Qq q4),?_⟩;intro a6 k6;have q6:=Zvj (show e 6=Qo (Ql (e 4)^(bP-2).toNat)from a6) q4;clear a6 k6;refine⟨⟨Qq q6,Qq q6⟩,?_⟩;intro a7 k7;have q7:=X7 (show e 7=Qo (Ql (e 6)*Ql (e 6))from a7) q6 q6;clear a7 k7;refine⟨⟨Qq q2,Qq q7⟩,?_⟩;intro a248 k248;have q248:=X7 (show e 248=Qo (Ql (e 2)*Ql (e 7))from a248) q2 q7;clear a248 k248;refine⟨⟨Qq q7,Qq q6⟩,?_⟩;intro a680 k680;have q680:=X7 (show e 680=Qo (Ql (e 7)*Ql (e 6))from a680) q7 q6;clear a680 k680;refine⟨⟨Qq q3,Qq q680⟩,?_⟩;intro a728 k728;have q728:=X7 (show e 728=Qo (Ql (e 3)*Ql (e 680))from a728) q3 q680;clear a728 k728;show[e 248,e 728,0]=_;unfold Qcy Qan;rw[show(ofJ (e 2) (e 3) (e 4)).z=Ql (e 4)from rfl,if_neg z1,q248,q728];rfl
def tOn:Qn:=(.split 4
(.l 5 .bit (.eqs [((.m 2 0),(.n 0)),((.m 2 1),(.n 0)),((.m 2 2),(.n 0)),((.m 2 3),(.n 0)),((.m 2 4),(.n 0)),((.m 2 5),(.n 0))])
(.split 5
(.l 6 .bit (.eqs [((.m 3 0),(.n 0)),((.m 3 1),(.n 0)),((.m 3 2),(.n 0)),((.m 3 3),(.n 0)),((.m 3 4),(.n 0)),((.m 3 5),(.n 0))])
(.ret [.v 6]))
(.ret [.n 0])))
(xw 1 [.v 3,.v 3] 293 Q7
(xw 1 [.v 2,.v 2] 821 Q7
(xw 1 [.v 821,.v 2] 965 Q7
(xw 0 [.v 965,.v 1] 1109 Q7
(.l 1157 .bit (.eqs [((.m 293 0),(.m 1109 0)),((.m 293 1),(.m 1109 1)),((.m 293 2),(.m 1109 2)),((.m 293 3),(.m 1109 3)),((.m 293 4),(.m 1109 4)),((.m 293 5),(.m 1109 5))])
(.ret [.v 1157])))))))
theorem Xcw(o:Fo)(f1 f2 f:FuncId)(e:Nat->Int)(hk:Qy [.num,.num,.num,.num,.bit] [e 0,e 1,e 2,e 3,e 4])(hp:(kOn o f).pre [e 0,e 1,e 2,e 3,e 4]):tOn.Xij [B9 f1,U4 f2] ⟨fun ys=>ys=(kOn o f).sem [e 0,e 1,e 2,e 3,e 4],[]⟩ e:=by
 obtain⟨q1,u2,u3⟩:e 1=Qo 4/\e 2<bP/\e 3<bP:=hp;obtain⟨_,_,h2,h3,h4,_⟩:=hk;have k2:=h2;have k3:=h3;have q2:=X9 h2.1 u2;have q3:=X9 h3.1 u3;clear u2 u3 h2 h3 h4;show tOn.Xij _ ⟨fun ys=>ys=[bj (onE (e 2) (e 3) (e 4))],[]⟩ e;refine⟨fun h=>?_,fun h=>?_⟩
 ·have c4:=h;intro a5 k5;have b5:=Qao a5 k2;clear a5 k5;refine⟨fun h=>?_,fun h=>?_⟩
  ·have c5:=h;have z1:=Zc b5 c5;intro a6 k6;have b6:=Qao a6 k3;clear a6 k6;show[e 6]=_;rw[Qgy b6];exact congrArg (fun x=>[x]) (W8 (by unfold onE;rw[if_neg c4];exact⟨fun h=>⟨z1,h⟩,fun h=>h.2⟩))
  ·have c5:=h;have z1:=Xf b5 c5;show[(0:Int)]=_;rw[Jf (by unfold onE;rw[if_neg c4];exact fun h=>z1 h.1)]
 ·have c4:=h;refine⟨⟨Qq q3,Qq q3⟩,?_⟩;intro a293 k293;have q293:=X7 (show e 293=Qo (Ql (e 3)*Ql (e 3))from a293) q3 q3;clear a293;refine⟨⟨Qq q2,Qq q2⟩,?_⟩;intro a821 k821;have q821:=X7 (show e 821=Qo (Ql (e 2)*Ql (e 2))from a821) q2 q2;clear a821 k821;refine⟨⟨Qq q821,Qq q2⟩,?_⟩;intro a965 k965;have q965:=X7 (show e 965=Qo (Ql (e 821)*Ql (e 2))from a965) q821 q2;clear a965 k965;refine⟨⟨Qq q965,Qq q1⟩,?_⟩;intro a1109 k1109;have q1109:=Ba (show e 1109=Qo (Ql (e 965)+Ql (e 1))from a1109) q965 q1;clear a1109;intro a1157 k1157;have b1157:=Qmx a1157 k293 k1109;clear a1157 k1157;show[e 1157]=_;rw[Qgy b1157];refine congrArg (fun x=>[x]) (W8 ?_);unfold onE;rw[if_pos c4,q293,q1109];exact⟨fun h=>Qb4 h,fun h=>Zw h⟩
def Xeq:Qn:=(xw 0 [.n 0,.v 3] 5 Q7
(.ret [.v 2,.v 5,.v 4]))
theorem Znr(o:Fo)(f1 f:FuncId)(e:Nat->Int)(hk:Qy [.num,.num,.num,.num,.bit] [e 0,e 1,e 2,e 3,e 4])(hp:(Qm2 o f).pre [e 0,e 1,e 2,e 3,e 4]):Xeq.Xij [Qef f1] ⟨fun ys=>ys=(Qm2 o f).sem [e 0,e 1,e 2,e 3,e 4],[]⟩ e:=by
 have u3:e 3<bP:=hp;have q3:=X9 hk.2.2.2.1.1 u3;refine⟨⟨Q5,u3⟩,fun a5 _=>?_⟩;show[e 2,e 5,e 4]=[e 2,Qo (-Ql (e 3)),e 4]
 rw[show e 5=Qo (Ql 0-Ql (e 3))from a5,show Ql 0=0 by unfold Ql;rw[K7];rfl,Hu]
theorem Xc8{x y z:Int}(hx:0<=x/\x<bP)(hy:0<=y/\y<bP):(if z=0 then[x,y,Qo 1]else[Qo 1,Qo 1,0])=(rsE x y z).l:=by
 unfold rsE;split
 ·unfold J.l;rw[Uc hx.1 hx.2,Uc hy.1 hy.2]
 ·exact Xbr.symm
theorem Qtl{P Q:J Int}(h:Jeq P Q):∀(k n:Nat),Jeq (Xd R1 P k n) (Xd R1 Q k n)
 |0,n=>Jeq.refl _
 |k+1,n=>by
  have ih:=Qtl h k (n/2);have e1:∀P,Xd R1 P (k+1) n=if n=0 then oJ R1 else(if n%2=1 then J.md R1 (Xb R1 (J.md R1 (Xg R1 (Xd R1 P k (n/2)))) P)else J.md R1 (Xg R1 (Xd R1 P k (n/2)))):=fun P=>rfl
  rw[e1,e1];have hd:Jeq (J.md R1 (Xg R1 (Xd R1 P k (n/2)))) (J.md R1 (Xg R1 (Xd R1 Q k (n/2)))):=(Ql5 _).trans ((Qq9 ih).trans (Ql5 _).symm);split
  ·exact Jeq.refl _
  ·split
   ·exact(Ql5 _).trans ((Qgm hd h).trans (Ql5 _).symm)
   ·exact hd
theorem Zz1(P:J Int):Qcy P=[Qo (Qan P).1,Qo (Qan P).2.1,if P.z%bP=0 then 1 else 0]:=by
 unfold Qcy Qan;split <;> rfl
def Xdc:Qn:=(xw 0 [.v 0,.v 1,.v 2,.v 3,.v 4] 101 U3
(.split 101
(xw 1 [.v 0,.v 1,.v 2,.v 3,.v 4] 389 qpa
(xw 2 [] 437 Q7
(xw 3 [.v 0,.v 1,.v 389,.v 390,.v 391,.v 437] 485 qpa
(xw 4 [.v 0,.v 1,.v 485,.v 486,.v 487] 533 qka
(.ret [.v 535])))))
(.ret [.n 0])))
theorem Ztg(o:Fo)(f1 f2 f3 f4 f5 f:FuncId)(e:Nat->Int)(hk:Qy [.num,.num,.num,.num,.bit] [e 0,e 1,e 2,e 3,e 4])(hp:(Zj1 o f).pre [e 0,e 1,e 2,e 3,e 4]):Xdc.Xij [kOn o f1,Qfe o f2,Qgg f3,Qcr o f4,Qdn o f5] ⟨fun ys=>ys=(Zj1 o f).sem [e 0,e 1,e 2,e 3,e 4],[]⟩ e:=by
 obtain⟨q0,q1,u2,u3⟩:e 0=Qo 1/\e 1=Qo 4/\e 2<bP/\e 3<bP:=hp;obtain⟨_,_,h2,h3,h4,_⟩:=hk;show Xdc.Xij _ ⟨fun ys=>ys=[bj (onE (e 2) (e 3) (e 4)/\(Xd R1 (rsE (e 2) (e 3) (e 4)) 384 Xj.toNat).z%bP=0)],[]⟩ e;refine⟨⟨q1,u2,u3⟩,?_⟩;intro a101 k101;have s101:e 101=((kOn o f1).sem [e 0,e 1,e 2,e 3,e 4]).getD 0 0:=a101;clear a101 k101;have v101:e 101=bj (onE (e 2) (e 3) (e 4)):=s101;clear s101;refine⟨fun h=>?_,fun h=>?_⟩
 ·have c101:=h;refine⟨trivial,?_⟩;intro a389 k389;have s389:e 389=((Qfe o f2).sem [e 0,e 1,e 2,e 3,e 4]).getD 0 0:=a389;clear a389 k389;intro a390 k390;have s390:e 390=((Qfe o f2).sem [e 0,e 1,e 2,e 3,e 4]).getD 1 0:=a390;clear a390 k390;intro a391 k391;have s391:e 391=((Qfe o f2).sem [e 0,e 1,e 2,e 3,e 4]).getD 2 0:=a391;clear a391 k391;have w1:[e 389,e 390,e 391]=(rsE (e 2) (e 3) (e 4)).l:=by
   rw[<- Xc8 ⟨h2.1,u2⟩ ⟨h3.1,u3⟩,s389,s390,s391,<- q0];show[(if e 4=0 then[e 2,e 3,e 0]else[e 0,e 0,0]).getD 0 0,(if e 4=0 then[e 2,e 3,e 0]else[e 0,e 0,0]).getD 1 0,(if e 4=0 then[e 2,e 3,e 0]else[e 0,e 0,0]).getD 2 0]=_;split <;> rfl
  obtain⟨w389,w390,w391⟩:=l3 w1;clear s389 s390 s391;refine⟨trivial,?_⟩;intro a437 k437;have s437:e 437=((Qgg f3).sem []).getD 0 0:=a437;clear a437 k437;have v437:e 437=Xj:=s437;clear s437;refine⟨⟨q0,Qq w389,Qq w390,Qq w391⟩,?_⟩;intro a485 k485;have s485:e 485=((Qcr o f4).sem [e 0,e 1,e 389,e 390,e 391,e 437]).getD 0 0:=a485;clear a485 k485;intro a486 k486;have s486:e 486=((Qcr o f4).sem [e 0,e 1,e 389,e 390,e 391,e 437]).getD 1 0:=a486;clear a486 k486;intro a487 k487;have s487:e 487=((Qcr o f4).sem [e 0,e 1,e 389,e 390,e 391,e 437]).getD 2 0:=a487;clear a487 k487;have w2:[e 485,e 486,e 487]=(Xd R1 (ofJ (e 389) (e 390) (e 391)) 384 (e 437).toNat).l:=by rw[s485,s486,s487];rfl
  rw[v437]at w2;have w2:=w2.trans (Qtl (Qc5 w1) 384 _).l;obtain⟨w485,w486,w487⟩:=l3 w2;clear s485 s486 s487;refine⟨⟨Qq w485,Qq w486,Qq w487⟩,?_⟩;intro a533 k533;have s533:e 533=((Qdn o f5).sem [e 0,e 1,e 485,e 486,e 487]).getD 0 0:=a533;clear a533 k533;intro a534 k534;have s534:e 534=((Qdn o f5).sem [e 0,e 1,e 485,e 486,e 487]).getD 1 0:=a534;clear a534 k534;intro a535 k535;have s535:e 535=((Qdn o f5).sem [e 0,e 1,e 485,e 486,e 487]).getD 2 0:=a535;clear a535 k535;have w3:e 535=(Qcy (ofJ (e 485) (e 486) (e 487))).getD 2 0:=s535;rw[Qsp (Qc5 w2),Zz1]at w3;clear s533 s534 s535;show[e 535]=_;have hon:=Vl v101 c101;rw[show e 535=_ from w3];show[if(Xd R1 (rsE (e 2) (e 3) (e 4)) 384 Xj.toNat).z%bP=0 then(1:Int)else 0]=_;split
  ·rename_i h;rw[Qbp ⟨hon,h⟩]
  ·rename_i h;rw[Jf fun hh=>h hh.2]
 ·have c101:=h;show[(0:Int)]=_;rw[Jf fun hh=>Qak v101 c101 hh.1]
def Zt1:Qn:=(.ret [.n 52435875175126190479447740508185965837690552500527637822603658699938581184513])
theorem Qz2(f:FuncId)(e:Nat->Int):Zt1.Xij [] ⟨fun ys=>ys=(Qgg f).sem [],[]⟩ e:=rfl
def Xan:Qn:=(.ret [.n 4002409555221667393417789825735904156556882819939007885332058136124031650490837864442687629129015664037894272559787])
theorem Zha(f:FuncId)(e:Nat->Int):Xan.Xij [] ⟨fun ys=>ys=(Qam f).sem [],[]⟩ e:=rfl
def Xgt:Qn:=(xw 0 [.v 0] 99 Q7
(xw 0 [.v 1] 243 Q7
(.ret [.v 99,.v 243,.v 2])))
theorem Zr8(f1 f:FuncId)(e:Nat->Int):Xgt.Xij [Zhe f1] ⟨fun ys=>ys=(Qfm f).sem [e 0,e 1,e 2],[]⟩ e:=by
 refine⟨trivial,fun a1 _=>⟨trivial,fun a2 _=>?_⟩⟩;show[e 99,e 243,e 2]=[Qo (e 0),Qo (e 1),e 2]
 rw[show e 99=Qo (e 0)from a1,show e 243=Qo (e 1)from a2]
def Xd4:Qn:=(xw 0 [.v 0] 99 Q7
(xw 0 [.v 1] 243 Q7
(.ret [.v 99,.v 243,.v 2])))
theorem Zje(f1 f:FuncId)(e:Nat->Int)(hp:(Qjm f).pre [e 0,e 1,e 2]):Xd4.Xij [Qod f1] ⟨fun ys=>ys=(Qjm f).sem [e 0,e 1,e 2],[]⟩ e:=by
 obtain⟨u0,u1⟩:e 0<bP/\e 1<bP:=hp;refine⟨u0,fun a1 _=>⟨u1,fun a2 _=>?_⟩⟩;show[e 99,e 243,e 2]=[Ql (e 0),Ql (e 1),e 2]
 rw[show e 99=Ql (e 0)from a1,show e 243=Ql (e 1)from a2]
theorem Ug{v a b:Int}(h:v=if a<b then -1 else if a=b then 0 else 1):v<0↔a<b:=by
 rw[h];split
 ·rename_i h1;exact⟨fun _=>h1,fun _=>by decide⟩
 ·rename_i h1;split <;> exact⟨fun h2=>absurd h2 (by decide),fun h2=>absurd h2 h1⟩
def Zc2:Qn:=(xw 1 [] 51 Q7
(xw 0 [.v 0,.v 51] 99 qoa
(.l 147 .bit (.c .lss (.v 99) (.n 0))
(.split 147
(xw 1 [] 291 Q7
(xw 0 [.v 1,.v 291] 339 qoa
(.l 387 .bit (.c .lss (.v 339) (.n 0))
(.ret [.v 387]))))
(.ret [.n 0])))))
theorem Qzg(f1 f2 f:FuncId)(e:Nat->Int):Zc2.Xij [Yj f1,Qam f2] ⟨fun ys=>ys=(Qb5 f).sem [e 0,e 1,e 2],[]⟩ e:=by
 show Zc2.Xij _ ⟨fun ys=>ys=[bj (e 0<bP/\e 1<bP)],[]⟩ e;refine⟨trivial,?_⟩;intro a51 k51;have s51:e 51=((Qam f2).sem []).getD 0 0:=a51;clear a51 k51;have v51:e 51=bP:=s51;clear s51;refine⟨trivial,?_⟩;intro a99 k99;have s99:e 99=((Yj f1).sem [e 0,e 51]).getD 0 0:=a99;clear a99 k99;have v99:e 99<0↔e 0<e 51:=Ug s99;clear s99;intro a k;have b147:=Va a;simp only[Qm,Qp,Q3]at b147;clear a k;refine⟨fun h=>?_,fun h=>?_⟩
 ·have c147:=h;refine⟨trivial,?_⟩;intro a291 k291;have s291:e 291=((Qam f2).sem []).getD 0 0:=a291;clear a291 k291;have v291:e 291=bP:=s291;clear s291;refine⟨trivial,?_⟩;intro a339 k339;have s339:e 339=((Yj f1).sem [e 1,e 291]).getD 0 0:=a339;clear a339 k339;have v339:e 339<0↔e 1<e 291:=Ug s339;clear s339;intro a k;have b387:=Va a;simp only[Qm,Qp,Q3]at b387;clear a k;show[e 387]=_;rw[Qgy b387];refine congrArg (fun x=>[x]) (W8 ?_);rw[v339,v291,<- v51,<- v99];exact⟨fun h=>⟨Zc b147 c147,h⟩,fun h=>h.2⟩
 ·have c147:=h;show[(0:Int)]=_;rw[Jf];rw[<- v51,<- v99];exact fun h=>Xf b147 c147 h.1
theorem Qqh{x:Int}(hx:0<=x/\x<bP):Ql (Qo x)=x:=by rw[Z7];exact Ox hx.1 hx.2
theorem Qya{x y z:Int}(hx:0<=x/\x<bP)(hy:0<=y/\y<bP):onE (Qo x) (Qo y) z↔onV x y z:=by
 unfold onE onV;rw[Qqh hx,Qqh hy];split
 ·exact⟨fun h=>⟨⟨hx.2,hy.2⟩,h⟩,fun h=>h.2⟩
 ·refine⟨fun⟨h1,h2⟩=>⟨⟨hx.2,hy.2⟩,?_,?_⟩,fun⟨_,h1,h2⟩=>by rw[h1,h2];exact⟨Qex,Qex⟩⟩
  ·have:=Uh.1 h1;rwa[Ox hx.1 hx.2]at this
  ·have:=Uh.1 h2;rwa[Ox hy.1 hy.2]at this
theorem Zqq{x y z:Int}(hx:0<=x/\x<bP)(hy:0<=y/\y<bP):rsE (Qo x) (Qo y) z=rsV x y z:=by
 unfold rsE rsV;rw[Qqh hx,Qqh hy]
def Zev:Qn:=(xw 0 [.v 0,.v 1,.v 2] 51 U3
(.split 51
(xw 1 [] 147 Yr
(xw 2 [.v 0,.v 1,.v 2] 243 qka
(xw 3 [.v 147,.v 148,.v 243,.v 244,.v 245] 291 U3
(.ret [.v 291]))))
(.ret [.n 0])))
theorem Qyd(o:Fo)(f1 f2 f3 f4 f:FuncId)(e:Nat->Int)(hk:Qy [.num,.num,.bit] [e 0,e 1,e 2]):Zev.Xij [Qb5 f1,Ux o f2,Qfm f3,kOn o f4] ⟨fun ys=>ys=(Qkm f).sem [e 0,e 1,e 2],[]⟩ e:=by
 have h0:0<=e 0:=hk.1.1;have h1:0<=e 1:=hk.2.1.1;show Zev.Xij _ ⟨fun ys=>ys=[bj (onV (e 0) (e 1) (e 2))],[]⟩ e;refine⟨trivial,?_⟩;intro a51 k51;have s51:e 51=((Qb5 f1).sem [e 0,e 1,e 2]).getD 0 0:=a51;clear a51 k51;have v51:e 51=bj (e 0<bP/\e 1<bP):=s51;clear s51;refine⟨fun h=>?_,fun h=>?_⟩
 ·have c51:=h;refine⟨trivial,?_⟩;intro a147 k147;have s147:e 147=((Ux o f2).sem []).getD 0 0:=a147;clear a147 k147;intro a148 k148;have s148:e 148=((Ux o f2).sem []).getD 1 0:=a148;clear a148 k148;have v147:e 147=Qo 1:=s147;have v148:e 148=Qo 4:=s148;clear s147 s148;refine⟨trivial,?_⟩;intro a243 k243;have s243:e 243=((Qfm f3).sem [e 0,e 1,e 2]).getD 0 0:=a243;clear a243 k243;intro a244 k244;have s244:e 244=((Qfm f3).sem [e 0,e 1,e 2]).getD 1 0:=a244;clear a244 k244;intro a245 k245;have s245:e 245=((Qfm f3).sem [e 0,e 1,e 2]).getD 2 0:=a245;clear a245 k245;have v243:e 243=Qo (e 0):=s243;have v244:e 244=Qo (e 1):=s244;have v245:e 245=e 2:=s245;clear s243 s244 s245;refine⟨⟨v148,Qq v243,Qq v244⟩,?_⟩;intro a291 k291;have s291:e 291=((kOn o f4).sem [e 147,e 148,e 243,e 244,e 245]).getD 0 0:=a291;clear a291 k291;have v291:e 291=bj (onE (e 243) (e 244) (e 245)):=s291;clear s291;show[e 291]=_;have hb:=Vl v51 c51;rw[v291,v243,v244,v245,W8 (Qya ⟨h0,hb.1⟩ ⟨h1,hb.2⟩)]
 ·have c51:=h;show[(0:Int)]=_;rw[Jf fun h=>Qak v51 c51 h.1]
def Zwf:Qn:=(xw 0 [.v 0,.v 1,.v 2] 51 U3
(.split 51
(xw 1 [] 147 Yr
(xw 2 [.v 0,.v 1,.v 2] 243 qka
(xw 3 [.v 147,.v 148,.v 243,.v 244,.v 245] 291 U3
(.ret [.v 291]))))
(.ret [.n 0])))
theorem Zq8(o:Fo)(f1 f2 f3 f4 f:FuncId)(e:Nat->Int)(hk:Qy [.num,.num,.bit] [e 0,e 1,e 2]):Zwf.Xij [Qb5 f1,Ux o f2,Qfm f3,Zj1 o f4] ⟨fun ys=>ys=(Zk1 f).sem [e 0,e 1,e 2],[]⟩ e:=by
 have h0:0<=e 0:=hk.1.1;have h1:0<=e 1:=hk.2.1.1;show Zwf.Xij _ ⟨fun ys=>ys=[bj (inG (e 0) (e 1) (e 2))],[]⟩ e;refine⟨trivial,?_⟩;intro a51 k51;have s51:e 51=((Qb5 f1).sem [e 0,e 1,e 2]).getD 0 0:=a51;clear a51 k51;have v51:e 51=bj (e 0<bP/\e 1<bP):=s51;clear s51;refine⟨fun h=>?_,fun h=>?_⟩
 ·have c51:=h;refine⟨trivial,?_⟩;intro a147 k147;have s147:e 147=((Ux o f2).sem []).getD 0 0:=a147;clear a147 k147;intro a148 k148;have s148:e 148=((Ux o f2).sem []).getD 1 0:=a148;clear a148 k148;have v147:e 147=Qo 1:=s147;have v148:e 148=Qo 4:=s148;clear s147 s148;refine⟨trivial,?_⟩;intro a243 k243;have s243:e 243=((Qfm f3).sem [e 0,e 1,e 2]).getD 0 0:=a243;clear a243 k243;intro a244 k244;have s244:e 244=((Qfm f3).sem [e 0,e 1,e 2]).getD 1 0:=a244;clear a244 k244;intro a245 k245;have s245:e 245=((Qfm f3).sem [e 0,e 1,e 2]).getD 2 0:=a245;clear a245 k245;have v243:e 243=Qo (e 0):=s243;have v244:e 244=Qo (e 1):=s244;have v245:e 245=e 2:=s245;clear s243 s244 s245;refine⟨⟨v147,v148,Qq v243,Qq v244⟩,?_⟩;intro a291 k291;have s291:e 291=((Zj1 o f4).sem [e 147,e 148,e 243,e 244,e 245]).getD 0 0:=a291;clear a291 k291;have v291:e 291=bj (onE (e 243) (e 244) (e 245)/\(Xd R1 (rsE (e 243) (e 244) (e 245)) 384 Xj.toNat).z%bP=0):=s291;clear s291;show[e 291]=_;have hb:=Vl v51 c51;rw[v291,v243,v244,v245,Zqq ⟨h0,hb.1⟩ ⟨h1,hb.2⟩];exact congrArg (fun x=>[x]) (W8 (and_congr_left fun _=>Qya ⟨h0,hb.1⟩ ⟨h1,hb.2⟩))
 ·have c51:=h;show[(0:Int)]=_;rw[Jf fun h=>Qak v51 c51 h.1.1]
def Xfk:Qn:=(xw 0 [.v 0,.v 1,.v 2] 3 U3
(.l 4 .bit (.not (.v 3))
(.split 4
(.ret [.n 0,.n 0,.n 0,.n 5])
(xw 1 [] 5 Yr
(xw 2 [.v 0,.v 1,.v 2] 101 qka
(xw 3 [.v 5,.v 6,.v 101,.v 102,.v 103] 149 qka
(xw 4 [.v 149,.v 150,.v 151] 197 qka
(.ret [.v 197,.v 198,.v 199,.n 0]))))))))
theorem Zmk(o:Fo)(f1 f2 f3 f4 f5 f:FuncId)(e:Nat->Int)(hk:Qy [.num,.num,.bit] [e 0,e 1,e 2]):Xfk.Xij [Qkm f1,Ux o f2,Qfm f3,Qm2 o f4,Qjm f5] ⟨fun ys=>ys=(Zly f).sem [e 0,e 1,e 2],[]⟩ e:=by
 have h0:0<=e 0:=hk.1.1;have h1:0<=e 1:=hk.2.1.1;refine⟨trivial,?_⟩;intro a3 k3;have s3:e 3=((Qkm f1).sem [e 0,e 1,e 2]).getD 0 0:=a3;clear a3 k3;have v3:e 3=bj (onV (e 0) (e 1) (e 2)):=s3;clear s3;intro a4 k4;have b4:=Z6 a4;simp only[Qm,Qp]at b4;clear a4 k4;refine⟨fun h=>?_,fun h=>?_⟩
 ·have c4:=h;show[0,0,0,5]=_;show _=Qwv (e 0) (e 1) (e 2);rw[Xay (Qak v3 (Zc b4 c4))]
 ·have c4:=h;refine⟨trivial,?_⟩;intro a5 k5;have s5:e 5=((Ux o f2).sem []).getD 0 0:=a5;clear a5 k5;intro a6 k6;have s6:e 6=((Ux o f2).sem []).getD 1 0:=a6;clear a6 k6;clear s5 s6;refine⟨trivial,?_⟩;intro a101 k101;have s101:e 101=((Qfm f3).sem [e 0,e 1,e 2]).getD 0 0:=a101;clear a101 k101;intro a102 k102;have s102:e 102=((Qfm f3).sem [e 0,e 1,e 2]).getD 1 0:=a102;clear a102 k102;intro a103 k103;have s103:e 103=((Qfm f3).sem [e 0,e 1,e 2]).getD 2 0:=a103;clear a103 k103;have v101:e 101=Qo (e 0):=s101;have v102:e 102=Qo (e 1):=s102;have v103:e 103=e 2:=s103;clear s101 s102 s103;refine⟨(Qq v102),?_⟩;intro a149 k149;have s149:e 149=((Qm2 o f4).sem [e 5,e 6,e 101,e 102,e 103]).getD 0 0:=a149;clear a149 k149;intro a150 k150;have s150:e 150=((Qm2 o f4).sem [e 5,e 6,e 101,e 102,e 103]).getD 1 0:=a150;clear a150 k150;intro a151 k151;have s151:e 151=((Qm2 o f4).sem [e 5,e 6,e 101,e 102,e 103]).getD 2 0:=a151;clear a151 k151;have v149:e 149=Qo (e 0):=s149.trans v101;have v150:e 150=Qo (-Ql (e 102)):=s150;have v151:e 151=e 2:=s151.trans v103;clear s149 s150 s151;refine⟨⟨Qq v149,Qq v150⟩,?_⟩;intro a197 k197;have s197:e 197=((Qjm f5).sem [e 149,e 150,e 151]).getD 0 0:=a197;clear a197 k197;intro a198 k198;have s198:e 198=((Qjm f5).sem [e 149,e 150,e 151]).getD 1 0:=a198;clear a198 k198;intro a199 k199;have s199:e 199=((Qjm f5).sem [e 149,e 150,e 151]).getD 2 0:=a199;clear a199 k199;have v197:e 197=Ql (e 149):=s197;have v198:e 198=Ql (e 150):=s198;have v199:e 199=e 2:=s199.trans v151;clear s197 s198 s199;show[e 197,e 198,e 199,0]=_;show _=Qwv (e 0) (e 1) (e 2);have hon:onV (e 0) (e 1) (e 2):=by
   refine Classical.byContradiction fun hc=>?_
   exact Xf b4 c4 (v3.trans (Jf hc))
  rw[Zmq hon,v197,v198,v199,v149,v150,v102,Qqh ⟨h0,hon.1.1⟩,Z7,Qqh ⟨h1,hon.1.2⟩]
noncomputable def cX(c:Int):Int:=(dec c).getD 0 0
noncomputable def cY(c:Int):Int:=(dec c).getD 1 0
noncomputable def cZ(c:Int):Int:=(dec c).getD 2 0
def plK:LK:=.tup .num [.num,.bit]
noncomputable def Qch(l n:List Int)(i:Nat):J Int:=((l.zip n).take i).foldl (fun acc p=>J.md R1 (Xb R1 acc (Xd R1 (rsE (cX p.1) (cY p.1) (cZ p.1)) 384 p.2.toNat))) (oJ R1)
theorem getD_lt{l:List Int}{i:Nat}(h:i<l.length):l.getD i 0=l[i]:=by
 rw[Ov,O4 h];rfl
theorem Qxz{l n:List Int}{i:Nat}(h:i<l.length)(hl:l.length=n.length):Qch l n (i+1)=J.md R1 (Xb R1 (Qch l n i) (Xd R1 (rsE (cX (l.getD i 0)) (cY (l.getD i 0)) (cZ (l.getD i 0))) 384 (n.getD i 0).toNat)):=by
 have hz:i<(l.zip n).length:=by rw[List.length_zip];omega
 unfold Qch;rw[M8 hz,List.foldl_append,List.getElem_zip,getD_lt h,getD_lt (by omega)];rfl
def Qq0(l:List Int):Prop:=∀c∈l,(cX c<bP/\cY c<bP)/\onE (cX c) (cY c) (cZ c)
noncomputable def Qen(o:Fo)(f:FuncId):K:={fn:=f,ext:=false,ins:=[.agg o.ls,.lst plK,.lst .num],outs:=[.agg Jn,oI],pre:=fun|[u,b,l,n]=>u=Qo 1/\b=Qo 4/\(dec l).length=(dec n).length/\Qq0 (dec l)|_=>False,sem:=fun|[_,_,l,n]=>Qcy (Qch (dec l) (dec n) (dec l).length)++[0]|_=>[] }
def Xe8:Qn:=(.l 4 kI (.llen (.v 2))
(.l 5 kI (.llen (.v 3))
(.l 6 .bit (.c .neq (.v 4) (.v 5))
(.split 6
(.ret [.n 0,.n 0,.n 0,.n 2])
(.l 7 kI (.llen (.v 2))
(.loop [.n 0] [kI] 8
(.l 9 .bit (.c .lss (.v 8) (.v 7))
(.split 9
(.l 10 kI (.llen (.v 2))
(.l 11 .bit (.c .leq (.n 0) (.v 8))
(.l 12 .bit (.c .lss (.v 8) (.v 10))
(.nz (.v 11)
(.nz (.v 12)
(.l 13 .any (.lget (.v 2) (.v 8))
(.l 14 .num (.lget (.v 13) (.n 0))
(.l 15 .num (.lget (.v 13) (.n 1))
(.l 16 .bit (.lget (.v 13) (.n 2))
(xw 0 [.v 0,.v 1,.v 14,.v 15,.v 16] 17 U3
(.l 18 .bit (.not (.v 17))
(.split 18
(.ret [.n 0,.n 0,.n 0,.n 5])
(.l 19 kI (.b .add .i64 (.v 8) (.n 1))
(.back 0 [.v 19]))))))))))))))
(.l 10 kI (.llen (.v 2))
(.loop [.n 0,.v 0,.v 0,.n 0] [kI,.num,.num,.num] 11
(.l 15 .bit (.c .lss (.v 11) (.v 10))
(.split 15
(.l 16 kI (.llen (.v 2))
(.l 17 .bit (.c .leq (.n 0) (.v 11))
(.l 18 .bit (.c .lss (.v 11) (.v 16))
(.nz (.v 17)
(.nz (.v 18)
(.l 19 .any (.lget (.v 2) (.v 11))
(.l 20 .num (.lget (.v 19) (.n 0))
(.l 21 .num (.lget (.v 19) (.n 1))
(.l 22 .bit (.lget (.v 19) (.n 2))
(xw 3 [.v 0,.v 1,.v 20,.v 21,.v 22] 263 qpa
(.l 407 kI (.llen (.v 3))
(.l 408 .bit (.c .leq (.n 0) (.v 11))
(.l 409 .bit (.c .lss (.v 11) (.v 407))
(.nz (.v 408)
(.nz (.v 409)
(.l 455 .num (.lget (.v 3) (.v 11))
(xw 2 [.v 0,.v 1,.v 263,.v 264,.v 265,.v 455] 503 qpa
(xw 1 [.v 0,.v 1,.v 12,.v 13,.v 14,.v 503,.v 504,.v 505] 551 qpa
(.l 647 kI (.b .add .i64 (.v 11) (.n 1))
(.back 1 [.v 647,.v 551,.v 552,.v 553]))))))))))))))))))))
(xw 4 [.v 0,.v 1,.v 12,.v 13,.v 14] 16 qka
(.ret [.v 16,.v 17,.v 18,.n 0]))))))))))))))
theorem Zl6(o:Fo)(f1 f2 f3 f4 f5 f:FuncId)(e:Nat->Int)(hk:Qy [.num,.num,.lst plK,.lst .num] [e 0,e 1,e 2,e 3])(hp:(Qen o f).pre [e 0,e 1,e 2,e 3]):Xe8.Xij [kOn o f1,kSum o f2,Qcr o f3,Qfe o f4,Qdn o f5] ⟨fun ys=>ys=(Qen o f).sem [e 0,e 1,e 2,e 3],[]⟩ e:=by
 obtain⟨q0,q1,hlen,hok⟩:e 0=Qo 1/\e 1=Qo 4/\(dec (e 2)).length=(dec (e 3)).length/\Qq0 (dec (e 2)):=hp;obtain⟨l,d2⟩:∃l,dec (e 2)=l:=⟨_,rfl⟩
 obtain⟨n,d3⟩:∃n,dec (e 3)=n:=⟨_,rfl⟩
 have hll:l.length<=9223372036854775807:=by rw[<- d2];exact hk.2.2.1.1
 have hr:(Qen o f).sem [e 0,e 1,e 2,e 3]=Qcy (Qch l n l.length)++[0]:=by rw[<- d2,<- d3];rfl
 rw[hr];rw[d2,d3]at hlen;rw[d2]at hok;clear hr hk;intro a4 _ a5 _ a6 _;have v4:e 4=(l.length:Int):=by rw[<- d2];exact a4
 have v5:e 5=(n.length:Int):=by rw[<- d3];exact a5
 have b6:=Qaj a6;simp only[Qm]at b6;refine⟨fun h=>by omega,fun _=>?_⟩;intro a7 _;have v7:e 7=(l.length:Int):=by rw[<- d2];exact a7
 clear a4 a5 a6 b6 a7 v4 v5;refine⟨fun|[i]=>0<=i/\i<=l.length|_=>False,fun|[i]=>(l.length-i).toNat|_=>0,⟨Int.le_refl _,(show(0:Int)<=l.length by omega)⟩,fun e' he hkk hI=>?_⟩;obtain⟨i0,i1⟩:0<=e' 8/\e' 8<=l.length:=hI;have v7:=(he 7 (by decide)).trans v7;have q0:=(he 0 (by decide)).trans q0;have q1:=(he 1 (by decide)).trans q1;have d2:=(congrArg dec (he 2 (by decide))).trans d2;have d3:=(congrArg dec (he 3 (by decide))).trans d3;clear he hkk;intro a9 _;have b9:=Va a9;simp only[Qm]at b9;refine⟨fun hs=>?_,fun hs=>?_⟩
 ·have c9:e' 8<l.length:=by omega
  intro a10 _ a11 _ a12 _;have v10:e' 10=(l.length:Int):=by rw[<- d2];exact a10
  refine⟨Zb a11 i0,Zk a12 (by show e' 8<e' 10;omega),fun a13 _ a14 k14 a15 k15 a16 _=>?_⟩;have v13:e' 13=l.getD (e' 8).toNat 0:=by rw[<- d2];exact a13
  have hm:e' 13∈l:=by rw[v13,getD_lt (by omega)];exact M9 _
  have v14:e' 14=cX (e' 13):=a14;have v15:e' 15=cY (e' 13):=a15;have v16:e' 16=cZ (e' 13):=a16;have ho:=hok _ hm;rw[<- v14,<- v15,<- v16]at ho;refine⟨⟨q1,ho.1.1,ho.1.2⟩,fun a17 _ a18 _=>?_⟩;have v17:e' 17=bj (onE (e' 14) (e' 15) (e' 16)):=a17;rw[Qbp ho.2]at v17;have b18:=Z6 a18;simp only[Qm]at b18;refine⟨fun h=>by omega,fun _=>?_⟩;intro a19 _;have v19:e' 19=e' 8+1:=by
   have h:e' 19=Qw .add .i64 (e' 8) 1:=a19;rw[h];simp only[Qw,wr];omega
  show(0<=e' 19/\e' 19<=l.length)/\(l.length-e' 19).toNat<(l.length-e' 8).toNat;omega
 ·intro a10 _;have v10:e' 10=(l.length:Int):=by rw[<- d2];exact a10
  clear a9 b9 a10;refine⟨fun|[i,x,y,z]=>0<=i/\i<=l.length/\[x,y,z]=(Qch l n i.toNat).l|_=>False,fun|[i,_,_,_]=>(l.length-i).toNat|_=>0,⟨Int.le_refl _,(show(0:Int)<=l.length by omega),?_⟩,fun e'' he hkk hI=>?_⟩
  ·show[e' 0,e' 0,0]=(oJ R1).l;rw[q0,Xbr]
  ·obtain⟨i0,i1,i2⟩:0<=e'' 11/\e'' 11<=l.length/\[e'' 12,e'' 13,e'' 14]=(Qch l n (e'' 11).toNat).l:=hI;have v10:=(he 10 (by decide)).trans v10;have q0:=(he 0 (by decide)).trans q0;have q1:=(he 1 (by decide)).trans q1;have d2:=(congrArg dec (he 2 (by decide))).trans d2;have d3:=(congrArg dec (he 3 (by decide))).trans d3;clear he hkk;obtain⟨w12,w13,w14⟩:=l3 i2;intro a15 _;have b15:=Va a15;simp only[Qm]at b15;refine⟨fun hs=>?_,fun hs=>?_⟩
   ·have c15:e'' 11<l.length:=by omega
    intro a16 _ a17 _ a18 _;have v16:e'' 16=(l.length:Int):=by rw[<- d2];exact a16
    refine⟨Zb a17 i0,Zk a18 (by show e'' 11<e'' 16;omega),fun a19 _ a20 k20 a21 k21 a22 _=>?_⟩;have v19:e'' 19=l.getD (e'' 11).toNat 0:=by rw[<- d2];exact a19
    have hm:e'' 19∈l:=by rw[v19,getD_lt (by omega)];exact M9 _
    have v20:e'' 20=cX (e'' 19):=a20;have v21:e'' 21=cY (e'' 19):=a21;have v22:e'' 22=cZ (e'' 19):=a22;have ho:=hok _ hm;rw[<- v20,<- v21,<- v22]at ho;refine⟨trivial,fun a263 _ a264 _ a265 _ a407 _ a408 _ a409 _=>?_⟩;have r1:[e'' 263,e'' 264,e'' 265]=(rsE (e'' 20) (e'' 21) (e'' 22)).l:=by
     rw[<- Xc8 ⟨k20.1,ho.1.1⟩ ⟨k21.1,ho.1.2⟩,<- q0,show e'' 263=_ from a263,show e'' 264=_ from a264,show e'' 265=_ from a265];show[(if e'' 22=0 then[e'' 20,e'' 21,e'' 0]else[e'' 0,e'' 0,0]).getD 0 0,(if e'' 22=0 then[e'' 20,e'' 21,e'' 0]else[e'' 0,e'' 0,0]).getD 1 0,(if e'' 22=0 then[e'' 20,e'' 21,e'' 0]else[e'' 0,e'' 0,0]).getD 2 0]=_;split <;> rfl
    obtain⟨w263,w264,w265⟩:=l3 r1;have v407:e'' 407=(n.length:Int):=by rw[<- d3];exact a407
    refine⟨Zb a408 i0,Zk a409 (by show e'' 11<e'' 407;omega),fun a455 _=>⟨⟨q0,Qq w263,Qq w264,Qq w265⟩,fun a503 _ a504 _ a505 _=>?_⟩⟩;have v455:e'' 455=n.getD (e'' 11).toNat 0:=by rw[<- d3];exact a455
    have r2:[e'' 503,e'' 504,e'' 505]=(Xd R1 (ofJ (e'' 263) (e'' 264) (e'' 265)) 384 (e'' 455).toNat).l:=by
     rw[show e'' 503=_ from a503,show e'' 504=_ from a504,show e'' 505=_ from a505];rfl
    have r2:=r2.trans (Qtl (Qc5 r1) 384 _).l;obtain⟨w503,w504,w505⟩:=l3 r2;refine⟨⟨q0,⟨Qq w12,Qq w13,Qq w14⟩,Qq w503,Qq w504,Qq w505⟩,fun a551 _ a552 _ a553 _ a647 _=>?_⟩;have r3:[e'' 551,e'' 552,e'' 553]=(Xb R1 (ofJ (e'' 12) (e'' 13) (e'' 14)) (ofJ (e'' 503) (e'' 504) (e'' 505))).l:=by
     rw[show e'' 551=_ from a551,show e'' 552=_ from a552,show e'' 553=_ from a553];rfl
    have r3:=r3.trans ((Qgm (Qc5 i2) (Qc5 r2)).trans (Ql5 _).symm).l;have v647:e'' 647=e'' 11+1:=by
     have h:e'' 647=Qw .add .i64 (e'' 11) 1:=a647;rw[h];simp only[Qw,wr];omega
    show(0<=e'' 647/\e'' 647<=l.length/\[e'' 551,e'' 552,e'' 553]=(Qch l n (e'' 647).toNat).l)/\(l.length-e'' 647).toNat<(l.length-e'' 11).toNat;refine⟨⟨by omega,by omega,?_⟩,by omega⟩;rw[v647,show(e'' 11+1).toNat=(e'' 11).toNat+1 by omega,Qxz (by omega) hlen,<- v19,<- v455,r3,v20,v21,v22]
   ·refine⟨⟨Qq w12,Qq w13,Qq w14⟩,fun a16 _ a17 _ a18 _=>?_⟩;have r1:[e'' 16,e'' 17,e'' 18]=Qcy (ofJ (e'' 12) (e'' 13) (e'' 14)):=by
     rw[show e'' 16=_ from a16,show e'' 17=_ from a17,show e'' 18=_ from a18];rfl
    rw[Qsp (Qc5 i2),show(e'' 11).toNat=l.length by omega]at r1;show[e'' 16,e'' 17,e'' 18,0]=Qcy (Qch l n l.length)++[0]
    rw[<- r1];rfl
noncomputable def inC(c:Int):Int:=enc [Qo (cX c),Qo (cY c),cZ c]
theorem Zx4(c:Int):cX (inC c)=Qo (cX c):=by unfold inC;rw[cX,Qr];rfl
theorem Zwk(c:Int):cY (inC c)=Qo (cY c):=by unfold inC;rw[cY,Qr];rfl
theorem Zxb(c:Int):cZ (inC c)=cZ c:=by unfold inC;rw[cZ,Qr];rfl
noncomputable def Qjl(l n:List Int):J Int:=((l.zip n)).foldl (fun acc p=>J.md R1 (Xb R1 acc (Xd R1 (rsV (cX p.1) (cY p.1) (cZ p.1)) 384 p.2.toNat))) (oJ R1)
def onC(c:Int):Prop:=onV (cX c) (cY c) (cZ c)/\0<=cX c/\0<=cY c
theorem Zc8(F:J Int->J Int->Int->J Int):∀(l n:List Int) (a:J Int),(∀c∈l,onC c)->((l.map inC).zip n).foldl (fun acc p=>F acc (rsE (cX p.1) (cY p.1) (cZ p.1)) p.2) a=(l.zip n).foldl (fun acc p=>F acc (rsV (cX p.1) (cY p.1) (cZ p.1)) p.2) a
 |[],n,a,_=>rfl
 |c::l,[],a,_=>rfl
 |c::l,m::n,a,h=>by
  have hc:=h c (Mj ..);simp only[Mm,List.zip_cons_cons,List.foldl_cons];rw[Zx4,Zwk,Zxb,Zqq ⟨hc.2.1,hc.1.1.1⟩ ⟨hc.2.2,hc.1.1.2⟩];exact Zc8 F l n _ fun d hd=>h d (Md _ hd)
theorem Zln{l n:List Int}(h:∀c∈l,onC c):Qch (l.map inC) n (l.map inC).length=Qjl l n:=by
 unfold Qch Qjl;rw[O8 (by rw[List.length_zip];exact Nat.min_le_left _ _)];exact Zc8 (fun acc P m=>J.md R1 (Xb R1 acc (Xd R1 P 384 m.toNat))) l n (oJ R1) h
def Vg(P:J Int):List Int:=[(Qan P).1%bP,(Qan P).2.1%bP,(Qan P).2.2]
theorem Zby{P Q:J Int}(h:Jeq P Q):Vg P=Vg Q:=by
 have:=Qsp h;unfold Qcy at this;injection this with h1 h;injection h with h2 h;injection h with h3 h;unfold Vg;rw[Qb4 h1,Qb4 h2,h3]
noncomputable def U5(f:FuncId):K:={fn:=f,ext:=false,ins:=[.lst plK,.lst .num],outs:=[.agg Jn,oI],pre:=fun|[l,n]=>(dec l).length=(dec n).length/\(dec l).length<=1000/\∀c∈dec l,onV (cX c) (cY c) (cZ c)|_=>False,sem:=fun|[l,n]=>Vg (Qjl (dec l) (dec n))++[0]|_=>[] }
def Qc9(f:FuncId):K:={fn:=f,ext:=false,ins:=[.agg Jn,iN],outs:=[.agg Jn,oI],pre:=fun|[x,y,z,_]=>onV x y z|_=>False,sem:=fun|[x,y,z,n]=>Vg (Xd R1 (rsV x y z) 384 n.toNat)++[0]|_=>[] }
def Qv9(f:FuncId):K:={fn:=f,ext:=false,ins:=[.agg Jn,.agg Jn],outs:=[.agg Jn,oI],pre:=fun|[x,y,z,x',y',z']=>onV x y z/\onV x' y' z'|_=>False,sem:=fun|[x,y,z,x',y',z']=>Vg (Xb R1 (rsV x y z) (rsV x' y' z'))++[0]|_=>[] }
theorem Zqd{l:List Int}(h:plK.hasL l){c:Int}(hc:c∈l):0<=cX c/\0<=cY c/\(0<=cZ c/\cZ c<=1):=by
 have h1:Qlh [.num,.num,.bit] (dec c):=h.2 c hc;unfold cX cY cZ
 match hd:dec c,h1 with
 |[a,b,d],h1=>exact⟨h1.1.1,h1.2.1.1,h1.2.2.1⟩
def Xea:Qn:=(.l 2 kI (.llen (.v 0))
(.loop [.n 0,.n 0] [kI,(.lst (.tup .num [.num,.bit]))] 3
(.l 5 .bit (.c .lss (.v 3) (.v 2))
(.split 5
(.l 6 kI (.llen (.v 0))
(.l 7 .bit (.c .leq (.n 0) (.v 3))
(.l 8 .bit (.c .lss (.v 3) (.v 6))
(.nz (.v 7)
(.nz (.v 8)
(.l 9 .any (.lget (.v 0) (.v 3))
(.l 10 .num (.lget (.v 9) (.n 0))
(.l 11 .num (.lget (.v 9) (.n 1))
(.l 12 .bit (.lget (.v 9) (.n 2))
(.l 13 kI (.llen (.v 0))
(.l 14 kI (.llen (.v 1))
(.l 15 .bit (.c .eql (.v 13) (.v 14))
(.split 15
(xw 0 [.v 10,.v 11,.v 12] 16 U3
(.l 17 .bit (.not (.v 16))
(.split 17
(.ret [.n 0,.n 0,.n 0,.n 5])
(xw 1 [.v 10,.v 11,.v 12] 18 qka
(.l 21 .any (.lapp (.n 0) [.v 18,.v 19,.v 20])
(.l 22 kI (.llen (.v 4))
(.l 23 .bit (.c .lss (.v 22) (.n 4294967296))
(.nz (.v 23)
(.l 24 (.lst (.tup .num [.num,.bit])) (.lapp (.v 4) [.v 21])
(.l 25 kI (.b .add .i64 (.v 3) (.n 1))
(.back 0 [.v 25,.v 24])))))))))))
(xw 1 [.v 10,.v 11,.v 12] 16 qka
(.l 19 .any (.lapp (.n 0) [.v 16,.v 17,.v 18])
(.l 20 kI (.llen (.v 4))
(.l 21 .bit (.c .lss (.v 20) (.n 4294967296))
(.nz (.v 21)
(.l 22 (.lst (.tup .num [.num,.bit])) (.lapp (.v 4) [.v 19])
(.l 23 kI (.b .add .i64 (.v 3) (.n 1))
(.back 0 [.v 23,.v 22])))))))))))))))))))))
(xw 2 [] 6 Yr
(xw 3 [.v 6,.v 7,.v 4,.v 1] 8 qla
(xw 4 [.v 8,.v 9,.v 10] 12 qka
(.ret [.v 12,.v 13,.v 14,.v 11]))))))))
theorem Zp8(o:Fo)(f1 f2 f3 f4 f5 f:FuncId)(e:Nat->Int)(hk:Qy [.lst plK,.lst .num] [e 0,e 1])(hp:(U5 f).pre [e 0,e 1]):Xea.Xij [Qb5 f1,Qfm f2,Ux o f3,Qen o f4,Qjm f5] ⟨fun ys=>ys=(U5 f).sem [e 0,e 1],[]⟩ e:=by
 obtain⟨hlen,hll,hok⟩:(dec (e 0)).length=(dec (e 1)).length/\(dec (e 0)).length<=1000/\∀c∈dec (e 0),onV (cX c) (cY c) (cZ c):=hp;obtain⟨l,d0⟩:∃l,dec (e 0)=l:=⟨_,rfl⟩
 obtain⟨n,d1⟩:∃n,dec (e 1)=n:=⟨_,rfl⟩
 have hplk:plK.hasL l:=by rw[<- d0];exact hk.1
 have hr:(U5 f).sem [e 0,e 1]=Vg (Qjl l n)++[0]:=by rw[<- d0,<- d1];rfl
 rw[hr];rw[d0,d1]at hlen;rw[d0]at hok hll;have hon:∀c∈l,onC c:=fun c hc=>⟨hok c hc,(Zqd hplk hc).1,(Zqd hplk hc).2.1⟩
 clear hr hk hok;intro a2 _;have v2:e 2=(l.length:Int):=by rw[<- d0];exact a2
 refine⟨fun|[i,q]=>0<=i/\i<=l.length/\dec q=(l.take i.toNat).map inC|_=>False,fun|[i,_]=>(l.length-i).toNat|_=>0,⟨Int.le_refl _,(show(0:Int)<=l.length by omega),Qu⟩,fun e' he hkk hI=>?_⟩;obtain⟨i0,i1,d4⟩:0<=e' 3/\e' 3<=l.length/\dec (e' 4)=(l.take (e' 3).toNat).map inC:=hI;have v2:=(he 2 (by decide)).trans v2;have d0:=(congrArg dec (he 0 (by decide))).trans d0;have d1:=(congrArg dec (he 1 (by decide))).trans d1;clear he hkk a2;intro a5 _;have b5:=Va a5;simp only[Qm]at b5;refine⟨fun hs=>?_,fun hs=>?_⟩
 ·have c5:e' 3<l.length:=by omega
  intro a6 _ a7 _ a8 _;have v6:e' 6=(l.length:Int):=by rw[<- d0];exact a6
  refine⟨Zb a7 i0,Zk a8 (by show e' 3<e' 6;omega),fun a9 _ a10 _ a11 _ a12 _ a13 _ a14 _ a15 _=>?_⟩;have v9:e' 9=l.getD (e' 3).toNat 0:=by rw[<- d0];exact a9
  have hm:e' 9∈l:=by rw[v9,getD_lt (by omega)];exact M9 _
  have v10:e' 10=cX (e' 9):=a10;have v11:e' 11=cY (e' 9):=a11;have v12:e' 12=cZ (e' 9):=a12;have ho:=(hon _ hm).1;have v13:e' 13=(l.length:Int):=by rw[<- d0];exact a13
  have v14:e' 14=(n.length:Int):=by rw[<- d1];exact a14
  have b15:=Zi a15;simp only[Qm]at b15;refine⟨fun _=>?_,fun h=>by omega⟩;refine⟨trivial,fun a16 _ a17 _=>?_⟩;have v16:e' 16=bj (e' 10<bP/\e' 11<bP):=a16;rw[v10,v11,Qbp ho.1]at v16;have b17:=Z6 a17;simp only[Qm]at b17;refine⟨fun h=>by omega,fun _=>⟨trivial,fun a18 _ a19 _ a20 _ a21 _ a22 _ a23 _=>?_⟩⟩;have v18:e' 18=Qo (e' 10):=a18;have v19:e' 19=Qo (e' 11):=a19;have v20:e' 20=e' 12:=a20;have v21:e' 21=inC (e' 9):=by
   have h:e' 21=enc (dec 0++[e' 18,e' 19,e' 20]):=a21;rw[h,Qu,v18,v19,v20,v10,v11,v12];rfl
  have v22:e' 22=((dec (e' 4)).length:Int):=a22;rw[d4,Mn,Mi]at v22;refine⟨Zk a23 (by show e' 22<4294967296;omega),fun a24 _ a25 _=>?_⟩;have d24:dec (e' 24)=dec (e' 4)++[e' 21]:=by
   have h:e' 24=enc (dec (e' 4)++[e' 21]):=a24;rw[h,Qr]
  have v25:e' 25=e' 3+1:=by
   have h:e' 25=Qw .add .i64 (e' 3) 1:=a25;rw[h];simp only[Qw,wr];omega
  show(0<=e' 25/\e' 25<=l.length/\dec (e' 24)=(l.take (e' 25).toNat).map inC)/\(l.length-e' 25).toNat<(l.length-e' 3).toNat;refine⟨⟨by omega,by omega,?_⟩,by omega⟩;rw[v25,show(e' 3+1).toNat=(e' 3).toNat+1 by omega,d24,d4,v21,M8 (by omega),Kf,v9,getD_lt (by omega)];rfl
 ·rw[show(e' 3).toNat=l.length by omega,O8 (Nat.le_refl _)]at d4;refine⟨trivial,fun a6 _ a7 _=>?_⟩;have v6:e' 6=Qo 1:=a6;have v7:e' 7=Qo 4:=a7;have hg:Qq0 (l.map inC):=fun c hc=>by
   obtain⟨d,hd,rfl⟩:=Kz.1 hc;have h:=hon d hd;rw[Zx4,Zwk,Zxb];exact⟨⟨(Qe5 _).2,(Qe5 _).2⟩,(Qya ⟨h.2.1,h.1.1.1⟩ ⟨h.2.2,h.1.1.2⟩).2 h.1⟩
  refine⟨⟨v6,v7,(by show(dec (e' 4)).length=(dec (e' 1)).length;rw[d4,d1,Mn,hlen]),(by show Qq0 (dec (e' 4));rw[d4];exact hg)⟩,fun a8 _ a9 _ a10 _ a11 _=>?_⟩;obtain⟨G,hG⟩:∃G,G=Qjl l n:=⟨_,rfl⟩
  have hs:(Qen o f4).sem [e' 6,e' 7,e' 4,e' 1]=Qcy G++[0]:=by
   show Qcy (Qch (dec (e' 4)) (dec (e' 1)) (dec (e' 4)).length)++[0]=_;rw[d4,d1,Zln hon,hG]
  have v8:e' 8=Qo (Qan G).1:=by
   have h:e' 8=((Qen o f4).sem [e' 6,e' 7,e' 4,e' 1]).getD 0 0:=a8;rw[h,hs];rfl
  have v9:e' 9=Qo (Qan G).2.1:=by
   have h:e' 9=((Qen o f4).sem [e' 6,e' 7,e' 4,e' 1]).getD 1 0:=a9;rw[h,hs];rfl
  have v10:e' 10=(Qan G).2.2:=by
   have h:e' 10=((Qen o f4).sem [e' 6,e' 7,e' 4,e' 1]).getD 2 0:=a10;rw[h,hs];rfl
  have v11:e' 11=0:=by
   have h:e' 11=((Qen o f4).sem [e' 6,e' 7,e' 4,e' 1]).getD 3 0:=a11;rw[h,hs];rfl
  refine⟨⟨Qq v8,Qq v9⟩,fun a12 _ a13 _ a14 _=>?_⟩;have v12:e' 12=Ql (e' 8):=a12;have v13:e' 13=Ql (e' 9):=a13;have v14:e' 14=e' 10:=a14;show[e' 12,e' 13,e' 14,e' 11]=Vg (Qjl l n)++[0]
  rw[<- hG,v12,v13,v14,v8,v9,v10,v11,Z7,Z7];rfl
theorem Zwc(Q:J Int):Xb R1 (oJ R1) Q=Q:=Qhq (Qnl (by decide))
theorem Xhr{P:J Int}:Xd R1 P 384 0=oJ R1:=by unfold Xd;rw[if_pos rfl]
theorem Zsn(k:Nat)(h:k≠0):1<2^k:=Nat.one_lt_two_pow h
theorem Xfw(P:J Int):Jeq (Xd R1 P 384 1) P:=by
 have h1:(1:Nat)<2^384:=Zsn 384 (by decide);rw[Qmp (P:=P) (n:=1) (by decide) h1,if_pos rfl,show 1/2=0 from rfl,Xhr];rw[Qhq (Qnl (by decide))];exact Ql5 P
def Xf9:Qn:=(.l 4 .any (.lapp (.n 0) [.v 0,.v 1,.v 2])
(.l 5 (.lst (.tup .num [.num,.bit])) (.lapp (.n 0) [.v 4])
(.l 6 (.lst .num) (.lapp (.n 0) [.v 3])
(xw 0 [.v 5,.v 6] 7 qla
(.ret [.v 7,.v 8,.v 9,.v 10])))))
theorem Zl9(f1 f:FuncId)(e:Nat->Int)(hp:(Qc9 f).pre [e 0,e 1,e 2,e 3]):Xf9.Xij [U5 f1] ⟨fun ys=>ys=(Qc9 f).sem [e 0,e 1,e 2,e 3],[]⟩ e:=by
 have hon:onV (e 0) (e 1) (e 2):=hp;intro a4 _ a5 _ a6 _;have d4:dec (e 4)=[e 0,e 1,e 2]:=by
  have h:e 4=enc (dec 0++[e 0,e 1,e 2]):=a4;rw[h,Qr,Qu];rfl
 have d5:dec (e 5)=[e 4]:=by
  have h:e 5=enc (dec 0++[e 4]):=a5;rw[h,Qr,Qu];rfl
 have d6:dec (e 6)=[e 3]:=by
  have h:e 6=enc (dec 0++[e 3]):=a6;rw[h,Qr,Qu];rfl
 have x4:cX (e 4)=e 0:=by rw[cX,d4];rfl
 have y4:cY (e 4)=e 1:=by rw[cY,d4];rfl
 have z4:cZ (e 4)=e 2:=by rw[cZ,d4];rfl
 refine⟨⟨(by show(dec (e 5)).length=(dec (e 6)).length;rw[d5,d6];rfl),(by show(dec (e 5)).length<=1000;rw[d5];simp),(by
  show ∀c∈dec (e 5),_;rw[d5];intro c hc;rw[O5.1 hc,x4,y4,z4];exact hon)⟩,fun a7 _ a8 _ a9 _ a10 _=>?_⟩
 have hs:(U5 f1).sem [e 5,e 6]=Vg (Xd R1 (rsV (e 0) (e 1) (e 2)) 384 (e 3).toNat)++[0]:=by
  show Vg (Qjl (dec (e 5)) (dec (e 6)))++[0]=_;rw[d5,d6];show Vg (J.md R1 (Xb R1 (oJ R1) (Xd R1 (rsV (cX (e 4)) (cY (e 4)) (cZ (e 4))) 384 (e 3).toNat)))++[0]=_;rw[x4,y4,z4,Zwc,Zby (Ql5 _)]
 show[e 7,e 8,e 9,e 10]=(Qc9 f).sem [e 0,e 1,e 2,e 3];rw[show e 7=((U5 f1).sem [e 5,e 6]).getD 0 0 from a7,show e 8=((U5 f1).sem [e 5,e 6]).getD 1 0 from a8,show e 9=((U5 f1).sem [e 5,e 6]).getD 2 0 from a9,show e 10=((U5 f1).sem [e 5,e 6]).getD 3 0 from a10,hs];rfl
def Xd7:Qn:=(xw 1 [.n 1] 150 Q7
(xw 1 [.n 1] 198 Q7
(.l 294 .any (.lapp (.n 0) [.v 0,.v 1,.v 2])
(.l 295 .any (.lapp (.n 0) [.v 3,.v 4,.v 5])
(.l 296 (.lst (.tup .num [.num,.bit])) (.lapp (.n 0) [.v 294,.v 295])
(.l 297 (.lst .num) (.lapp (.n 0) [.v 150,.v 198])
(xw 0 [.v 296,.v 297] 298 qla
(.ret [.v 298,.v 299,.v 300,.v 301]))))))))
theorem Znz(f1 f2 f:FuncId)(e:Nat->Int)(hp:(Qv9 f).pre [e 0,e 1,e 2,e 3,e 4,e 5]):Xd7.Xij [U5 f1,kOf f2] ⟨fun ys=>ys=(Qv9 f).sem [e 0,e 1,e 2,e 3,e 4,e 5],[]⟩ e:=by
 obtain⟨hon,hon'⟩:onV (e 0) (e 1) (e 2)/\onV (e 3) (e 4) (e 5):=hp;refine⟨trivial,fun a150 _=>⟨trivial,fun a198 _ a294 _ a295 _ a296 _ a297 _=>?_⟩⟩;have v150:e 150=1:=a150;have v198:e 198=1:=a198;have d294:dec (e 294)=[e 0,e 1,e 2]:=by
  have h:e 294=enc (dec 0++[e 0,e 1,e 2]):=a294;rw[h,Qr,Qu];rfl
 have d295:dec (e 295)=[e 3,e 4,e 5]:=by
  have h:e 295=enc (dec 0++[e 3,e 4,e 5]):=a295;rw[h,Qr,Qu];rfl
 have d296:dec (e 296)=[e 294,e 295]:=by
  have h:e 296=enc (dec 0++[e 294,e 295]):=a296;rw[h,Qr,Qu];rfl
 have d297:dec (e 297)=[e 150,e 198]:=by
  have h:e 297=enc (dec 0++[e 150,e 198]):=a297;rw[h,Qr,Qu];rfl
 rw[v150,v198]at d297;have x1:cX (e 294)=e 0:=by rw[cX,d294];rfl
 have y1:cY (e 294)=e 1:=by rw[cY,d294];rfl
 have z1:cZ (e 294)=e 2:=by rw[cZ,d294];rfl
 have x2:cX (e 295)=e 3:=by rw[cX,d295];rfl
 have y2:cY (e 295)=e 4:=by rw[cY,d295];rfl
 have z2:cZ (e 295)=e 5:=by rw[cZ,d295];rfl
 refine⟨⟨(by show(dec (e 296)).length=(dec (e 297)).length;rw[d296,d297];rfl),(by show(dec (e 296)).length<=1000;rw[d296];simp),(by
  show ∀c∈dec (e 296),_;rw[d296];intro c hc;rcases O6.1 hc with rfl|hc
  ·rw[x1,y1,z1];exact hon
  ·rw[O5.1 hc,x2,y2,z2];exact hon')⟩,fun a298 _ a299 _ a300 _ a301 _=>?_⟩
 have hs:(U5 f1).sem [e 296,e 297]=Vg (Xb R1 (rsV (e 0) (e 1) (e 2)) (rsV (e 3) (e 4) (e 5)))++[0]:=by
  show Vg (Qjl (dec (e 296)) (dec (e 297)))++[0]=_;rw[d296,d297];show Vg (J.md R1 (Xb R1 (J.md R1 (Xb R1 (oJ R1) (Xd R1 (rsV (cX (e 294)) (cY (e 294)) (cZ (e 294))) 384 1))) (Xd R1 (rsV (cX (e 295)) (cY (e 295)) (cZ (e 295))) 384 1)))++[0]=_;rw[x1,y1,z1,x2,y2,z2,Zwc,Zby ((Ql5 _).trans (Qgm ((Ql5 _).trans (Xfw _)) (Xfw _)))]
 show[e 298,e 299,e 300,e 301]=(Qv9 f).sem [e 0,e 1,e 2,e 3,e 4,e 5];rw[show e 298=((U5 f1).sem [e 296,e 297]).getD 0 0 from a298,show e 299=((U5 f1).sem [e 296,e 297]).getD 1 0 from a299,show e 300=((U5 f1).sem [e 296,e 297]).getD 2 0 from a300,show e 301=((U5 f1).sem [e 296,e 297]).getD 3 0 from a301,hs];rfl
def Xhb:Int:=9940570264628428797
def sqP:Int:=2708263910654730174793787626328176511836455197166317677006154293982164122222515399004018013397331347120527951271750
theorem Xem:Wr bP Xhb sqP:=by unfold Wr mOk Z9;decide +kernel
theorem Zy9:bP<2^382:=Xem.1.2.2
abbrev iE2:Sh:=.agg [.num,.num]
abbrev oE2:Oh:=.agg [.num,.num]
def nrm(a b:Int):Int:=(a*a+b*b)^(bP-2).toNat
theorem Xe5{a A:Int}(h:a=A%bP):a<bP:=by rw[h];exact(Zl Q5).2
theorem U7{p a A:Int}(h:a%p=A%p):(-a)%p=(-A)%p:=by
 rw[<- Hu a,<- Hu A];exact Ye rfl h
abbrev E2:Type:=Int×Int
def PQ(x y:Int)(Y:E2):Prop:=x=Y.1%bP/\y=Y.2%bP
theorem PQ.l1{x y:Int}{Y:E2}(h:PQ x y Y):x<bP:=Xe5 h.1
theorem PQ.l2{x y:Int}{Y:E2}(h:PQ x y Y):y<bP:=Xe5 h.2
section
variable {α:Type}
def hT(R:Rg α)(t u:J α):α:=R.sub (R.mul u.x (R.mul t.z t.z)) t.x
end
def J.l2(P:J E2):List Int:=[P.x.1%bP,P.x.2%bP,P.y.1%bP,P.y.2%bP,P.z.1%bP,P.z.2%bP]
theorem Qca{e:Nat->Int}{v:Int}{i j:Nat}(h:v=(D.eqs [(.m i 0,.lit 0),(.m i 1,.lit 0),(.m i 2,.lit 0),(.m i 3,.lit 0),(.m i 4,.lit 0),(.m i 5,.lit 0),(.m j 0,.lit 0),(.m j 1,.lit 0),(.m j 2,.lit 0),(.m j 3,.lit 0),(.m j 4,.lit 0),(.m j 5,.lit 0)]).ev [] e)(hi:0<=e i/\e i<Qv)(hj:0<=e j/\e j<Qv):(v=1/\(e i=0/\e j=0))∨(v=0/\¬(e i=0/\e j=0)):=by
 simp only[D.ev,Lq,H9,Q3,Qp,Hy,Qiw,Oo,beq_iff_eq]at h;by_cases hc:e i=0/\e j=0
 ·left;rw[hc.1,hc.2]at h;simp[Q0]at h;exact⟨h,hc⟩
 ·right
  rw[if_neg (fun hh=>hc (by have:=Zz hi;have:=Zz hj;omega))]at h;exact⟨h,hc⟩
end Go.Sx



namespace Go.Sx
open Go Go.RowKit
abbrev oPt:Oh:=.agg [.int .u64,.int .u64,.bool]
abbrev iPt:Sh:=.agg [.int .u64,.int .u64,.bool]
def pOk(p:Int):Prop:=3<=p/\p<4611686018427387904
def Qgz(f:FuncId):K:={fn:=f,ext:=false,ins:=[iC,iU,iU],outs:=[oU],pre:=fun|[p,_,_,_,_,_,a,b]=>pOk p/\a<p/\b<p|_=>False,sem:=fun|[p,_,_,_,_,_,a,b]=>[(a+b)%p]|_=>[] }
def Qew(f:FuncId):K:={fn:=f,ext:=false,ins:=[iC,iU,iU],outs:=[oU],pre:=fun|[p,_,_,_,_,_,a,b]=>pOk p/\a<p/\b<p|_=>False,sem:=fun|[p,_,_,_,_,_,a,b]=>[(a-b)%p]|_=>[] }
def Bf(f:FuncId):K:={fn:=f,ext:=false,ins:=[iC,iU,iU],outs:=[oU],pre:=fun|[p,_,_,_,_,_,_,_]=>pOk p|_=>False,sem:=fun|[p,_,_,_,_,_,a,b]=>[a*b%p]|_=>[] }
def pwM(p a n:Int):Int:=((a.toNat^n.toNat%p.toNat:Nat):Int)
def Qoe(f:FuncId):K:={fn:=f,ext:=false,ins:=[iC,iU,iU],outs:=[oU],pre:=fun|[p,_,_,_,_,_,_,_]=>pOk p|_=>False,sem:=fun|[p,_,_,_,_,_,a,n]=>[pwM p a n]|_=>[] }
def Qb2(p a:Int):Int:=pwM p a (p-2)
def Qpy(f:FuncId):K:={fn:=f,ext:=false,ins:=[iC,iU],outs:=[oU],pre:=fun|[p,_,_,_,_,_,_]=>pOk p|_=>False,sem:=fun|[p,_,_,_,_,_,a]=>[Qb2 p a]|_=>[] }
def Yz(p x:Int):Int:=(x*x%p*x%p+x)%p
def Qbx(f:FuncId):K:={fn:=f,ext:=false,ins:=[iC,iU],outs:=[oU],pre:=fun|[p,_,_,_,_,_,x]=>pOk p/\x<p|_=>False,sem:=fun|[p,_,_,_,_,_,x]=>[Yz p x]|_=>[] }
def Bp(p x y z:Int):Prop:=if z=0 then x<p/\y<p/\y*y%p=Yz p x else x=0/\y=0
instance  (p x y z:Int):Decidable (Bp p x y z):=by unfold Bp;exact inferInstance
def Qo0(f:FuncId):K:={fn:=f,ext:=false,ins:=[iC,iPt],outs:=[oB],pre:=fun|[p,_,_,_,_,_,_,_,_]=>pOk p|_=>False,sem:=fun|[p,_,_,_,_,_,x,y,z]=>[bi (Bp p x y z)]|_=>[] }
def Y8(p x y x' y':Int):Int×Int :=
 if x≠x' then((y'-y)%p*Qb2 p ((x'-x)%p)%p,1)
 else if y≠y'∨y=0 then(0,0)
 else((((x*x%p+x*x%p)%p+x*x%p)%p+1)%p*Qb2 p ((y+y)%p)%p,1)
def Qd2(f:FuncId):K:={fn:=f,ext:=false,ins:=[iC,iPt,iPt],outs:=[oU,oB],pre:=fun|[p,_,_,_,_,_,x,y,_,x',y',_]=>pOk p/\x<p/\y<p/\x'<p/\y'<p|_=>False,sem:=fun|[p,_,_,_,_,_,x,y,_,x',y',_]=>[(Y8 p x y x' y').1,(Y8 p x y x' y').2]|_=>[] }
structure Pt where
 x:Int
 y:Int
 z:Int
 deriving DecidableEq
def Xv(p:Int)(a b:Pt):Pt :=
 if a.z≠0 then b else if b.z≠0 then a else
 let s:=Y8 p a.x a.y b.x b.y
 if s.2=0 then⟨0,0,1⟩else
 let x:=((s.1*s.1%p-a.x)%p-b.x)%p
 ⟨x,(s.1*((a.x-x)%p)%p-a.y)%p,0⟩
def Pt.l(a:Pt):List Int:=[a.x,a.y,a.z]
def Pt.lt(a:Pt)(p:Int):Prop:=(0<=a.x/\a.x<p)/\(0<=a.y/\a.y<p)
def Qlq(f:FuncId):K:={fn:=f,ext:=false,ins:=[iC,iPt,iPt],outs:=[oPt],pre:=fun|[p,_,_,_,_,_,x,y,_,x',y',_]=>pOk p/\x<p/\y<p/\x'<p/\y'<p|_=>False,sem:=fun|[p,_,_,_,_,_,x,y,z,x',y',z']=>(Xv p ⟨x,y,z⟩ ⟨x',y',z'⟩).l|_=>[] }
def Zs(p:Int)(a:Pt):Nat->Nat->Pt
 |0,_=>⟨0,0,1⟩
 |k+1,n=>if n=0 then⟨0,0,1⟩else
  let h:=Zs p a k (n/2)
  let d:=Xv p h h
  if n%2=1 then Xv p d a else d
def B8(f:FuncId):K:={fn:=f,ext:=false,ins:=[iC,iPt,iU],outs:=[oPt],pre:=fun|[p,_,_,_,_,_,x,y,_,_]=>pOk p/\x<p/\y<p|_=>False,sem:=fun|[p,_,_,_,_,_,x,y,z,n]=>(Zs p ⟨x,y,z⟩ 64 n.toNat).l|_=>[] }
def inP(p r x y z:Int):Prop:=Bp p x y z/\(Zs p ⟨x,y,z⟩ 64 r.toNat).z≠0
instance  (p r x y z:Int):Decidable (inP p r x y z):=by unfold inP;exact inferInstance
def Qyx(f:FuncId):K:={fn:=f,ext:=false,ins:=[iC,iPt],outs:=[oB],pre:=fun|[p,_,_,_,_,_,_,_,_]=>pOk p|_=>False,sem:=fun|[p,r,_,_,_,_,x,y,z]=>[bi (inP p r x y z)]|_=>[] }
def Qkl(f:FuncId):K:={fn:=f,ext:=false,ins:=[iN,iN],outs:=[oN,oN,oI],pre:=fun _=>True,sem:=fun|[a,b]=>if b=0 then[0,0,2]else[a/b,a%b,0]|_=>[] }
set_option maxRecDepth 100000
theorem Zz9{p a n:Int}(hp:0<p)(ha:0<=a):pwM p a n=a^n.toNat%p:=by
 unfold pwM;rw[H3,L0,Hf ha,Hf (by omega)]
def Zwn:Qn:=(.l 8 kU (.bin .add .u64 (.v 6) (.v 7))
(.l 9 kU (.bin .rem .u64 (.v 8) (.v 0))
(.nz (.v 0)
(.ret [.v 9]))))
theorem Zoj(f:FuncId)(e:Nat->Int)(hk:Qy [.int .u64,.int .u64,.int .u64,.int .u64,.int .u64,.bit,.int .u64,.int .u64] [e 0,e 1,e 2,e 3,e 4,e 5,e 6,e 7])(hp:(Qgz f).pre [e 0,e 1,e 2,e 3,e 4,e 5,e 6,e 7]):Zwn.Xij [] ⟨fun ys=>ys=(Qgz f).sem [e 0,e 1,e 2,e 3,e 4,e 5,e 6,e 7],[]⟩ e:=by
 obtain⟨⟨p0,p1⟩,p2,p3⟩:=hp;obtain⟨_,_,_,_,_,_,h6,h7,_⟩:=hk;have u6:=Zd h6;have u7:=Zd h7;simp only[Zwn,Qgz,Qn.Xij,xw,xws,Nat.reduceAdd,Oy,Oz,List.map,Qp,Qm,Q3,D.ev,O1,O2];intro a8 _ a9 _;have c8:e 8=e 6+e 7:=by rw[a8];simp only[Qw,wr];omega
 refine⟨by omega,?_⟩;rw[a9,c8];simp only[Qw];rw[M1 (by omega)]
def Zxw:Qn:=(.l 8 kU (.bin .add .u64 (.v 6) (.v 0))
(.l 9 kU (.bin .sub .u64 (.v 8) (.v 7))
(.l 10 kU (.bin .rem .u64 (.v 9) (.v 0))
(.nz (.v 0)
(.ret [.v 10])))))
theorem Zoo(f:FuncId)(e:Nat->Int)(hk:Qy [.int .u64,.int .u64,.int .u64,.int .u64,.int .u64,.bit,.int .u64,.int .u64] [e 0,e 1,e 2,e 3,e 4,e 5,e 6,e 7])(hp:(Qew f).pre [e 0,e 1,e 2,e 3,e 4,e 5,e 6,e 7]):Zxw.Xij [] ⟨fun ys=>ys=(Qew f).sem [e 0,e 1,e 2,e 3,e 4,e 5,e 6,e 7],[]⟩ e:=by
 obtain⟨⟨p0,p1⟩,p2,p3⟩:=hp;obtain⟨_,_,_,_,_,_,h6,h7,_⟩:=hk;have u6:=Zd h6;have u7:=Zd h7;simp only[Zxw,Qew,Qn.Xij,xw,xws,Nat.reduceAdd,Oy,Oz,List.map,Qp,Qm,Q3,D.ev,O1,O2];intro a8 _ a9 _ a10 _;have c8:e 8=e 6+e 0:=by rw[a8];simp only[Qw,wr];omega
 have c9:e 9=e 6+e 0-e 7:=by rw[a9,c8];simp only[Qw,wr];omega
 refine⟨by omega,?_⟩;rw[a10,c9];simp only[Qw];rw[M1 (by omega)];congr 1;exact md 1 (by omega)
def Zx7:Qn:=(xw 0 [.v 6,.v 7] 8 qfa
(xw 1 [.v 8,.v 9,.v 0] 10 qna
(.ret [.v 10])))
theorem Zqe(f1 f2 f:FuncId)(e:Nat->Int)(hp:(Bf f).pre [e 0,e 1,e 2,e 3,e 4,e 5,e 6,e 7]):Zx7.Xij [Wu f1,Qit f2] ⟨fun ys=>ys=(Bf f).sem [e 0,e 1,e 2,e 3,e 4,e 5,e 6,e 7],[]⟩ e:=by
 have p0:0<e 0:=by have:=hp.1;omega
 simp only[Zx7,Wu,Qit,Bf,Qn.Xij,xw,xws,Nat.reduceAdd,Oy,Oz,List.map,Qp,Qm,Q3,D.ev,O1,O2];refine⟨trivial,fun a1 _ a2 _=>⟨p0,fun a3 _=>?_⟩⟩;rw[a3,a1,a2];congr 2;generalize e 6*e 7=x;omega
theorem Zv4{v x:Int}{n:Nat}(h:v=Qw .shr .u64 x n)(hn:n<=63):v=x/2^n:=by
 rw[h];simp only[Qw,O9];rw[show min n IntKind.u64.bits=n by simp[IntKind.bits];omega];rw[Kj _ (by exact_mod_cast Nat.zero_le _)];simp
def Zxd:Qn:=(xw 0 [.v 7] 8 qoa
(.l 9 kI (.bin .sub .i64 (.v 8) (.lit 1))
(.loop [.v 9,.lit 1] [kI,kU] 10
(.l 12 .bit (.cmp .geq (.v 10) (.lit 0))
(.split 12
(xw 1 [.v 0,.v 1,.v 2,.v 3,.v 4,.v 5,.v 11,.v 11] 13 qna
(.l 14 .bit (.cmp .leq (.lit 0) (.v 10))
(.l 15 kU (.bin .shr .u64 (.v 7) (.v 10))
(.nz (.v 14)
(.l 16 kU (.bin .and .u64 (.v 15) (.lit 1))
(.l 17 .bit (.cmp .eql (.v 16) (.lit 1))
(.split 17
(xw 1 [.v 0,.v 1,.v 2,.v 3,.v 4,.v 5,.v 13,.v 6] 18 qna
(.l 19 kI (.bin .sub .i64 (.v 10) (.lit 1))
(.back 0 [.v 19,.v 18])))
(.l 18 kI (.bin .sub .i64 (.v 10) (.lit 1))
(.back 0 [.v 18,.v 13])))))))))
(.ret [.v 11]))))))
theorem Zmt(f1 f2 f:FuncId)(e:Nat->Int)(hk:Qy [.int .u64,.int .u64,.int .u64,.int .u64,.int .u64,.bit,.int .u64,.int .u64] [e 0,e 1,e 2,e 3,e 4,e 5,e 6,e 7])(hp:(Qoe f).pre [e 0,e 1,e 2,e 3,e 4,e 5,e 6,e 7]):Zxd.Xij [Bw f1,Bf f2] ⟨fun ys=>ys=(Qoe f).sem [e 0,e 1,e 2,e 3,e 4,e 5,e 6,e 7],[]⟩ e:=by
 have hp:pOk (e 0):=hp;have p0:0<e 0:=by have:=hp.1;omega
 obtain⟨_,_,_,_,_,_,h6,h7,_⟩:=hk;have u6:=Zd h6;have u7:=Zd h7;simp only[Zxd,Bw,Bf,Qoe,Qn.Xij,xw,xws,Nat.reduceAdd,Oy,Oz,List.map,Qp,Qm,Q3,D.ev,O1,O2];refine⟨trivial,fun a8 _ a9 _=>?_⟩;have b0:=Ub (e 7);have b1:=Wp 64 (e 7) u7.1 (by rw[Qnj];exact u7.2);have c9:e 9=Xa (e 7)-1:=by rw[a9,a8];simp only[Qw,wr];omega
 rw[Zz9 p0 u6.1];refine⟨fun l=>Ztw (e 0) (e 6) (e 7) l/\l.headD 0<=63,fun|[i,_]=>(i+1).toNat|_=>0,?_,fun e' he hkk hI=>?_⟩
 ·rw[c9];refine⟨⟨by omega,by omega,?_⟩,by show Xa (e 7)-1<=63;omega⟩;rw[Kt];have h1:e 7/2^(Xa (e 7)).toNat=0:=by
   by_cases hc:e 7<2^(Xa (e 7)).toNat
   ·exact L6 u7.1 hc
   ·have:=Qb3 (Xa (e 7)).toNat (e 7) (by omega);omega
  rw[h1,H5,H8];exact(Ox (by decide) (by have:=hp.1;omega)).symm
 ·obtain⟨⟨i1,i2,i3⟩,i4⟩:Ztw (e 0) (e 6) (e 7) [e' 10,e' 11]/\e' 10<=63:=hI;simp only[he 0 (by decide),he 1 (by decide),he 2 (by decide),he 3 (by decide),he 4 (by decide),he 5 (by decide),he 6 (by decide),he 7 (by decide)];intro a12 _;have b12:=Bt a12;refine⟨fun hs=>?_,fun hs=>?_⟩
  ·obtain⟨n,hi⟩:=Ow (show 0<=e' 10 by omega);rw[hi,show((n:Int)+1).toNat=n+1 by omega]at i3;refine⟨hp,fun a13 _ a14 _ a15 _=>⟨Zb a14 (by omega),fun a16 _ a17 _=>?_⟩⟩;have b17:=Zi a17;rw[hi]at a15;have c15:=Zv4 a15 (by omega);have hq:(0:Int)<2^n:=L8 (by decide);have u15:U (e' 15):=by
    rw[c15];exact⟨M4 u7.1 (by omega),Int.lt_of_le_of_lt (K5 _ u7.1) u7.2⟩
   have c16:=Qno a16 u15;rw[c15]at c16;refine⟨fun hs2=>?_,fun hs2=>?_⟩
   ·refine⟨hp,fun a18 _ a19 _=>?_⟩;have h19:e' 19=n-1:=by rw[a19];simp only[Qw,wr];omega
    show(Ztw (e 0) (e 6) (e 7) [e' 19,e' 18]/\e' 19<=63)/\(e' 19+1).toNat<(e' 10+1).toNat;rw[h19,hi];refine⟨⟨⟨by omega,by omega,?_⟩,by omega⟩,by omega⟩;rw[show((n:Int)-1+1).toNat=n by omega];exact Zfa u7.1 i3 a13 a18 (by omega)
   ·intro a18 _;have h18:e' 18=n-1:=by rw[a18];simp only[Qw,wr];omega
    show(Ztw (e 0) (e 6) (e 7) [e' 18,e' 13]/\e' 18<=63)/\(e' 18+1).toNat<(e' 10+1).toNat;rw[h18,hi];refine⟨⟨⟨by omega,by omega,?_⟩,by omega⟩,by omega⟩;rw[show((n:Int)-1+1).toNat=n by omega];exact Zf0 u7.1 i3 a13 (by omega)
  ·have h1:e' 10=-1:=by omega
   rw[i3,h1];show[e 6^(e 7/1).toNat%e 0]=_;rw[Hg]
def Zxg:Qn:=(.l 7 kU (.bin .sub .u64 (.v 0) (.lit 2))
(xw 0 [.v 0,.v 1,.v 2,.v 3,.v 4,.v 5,.v 6,.v 7] 8 qna
(.ret [.v 8])))
theorem Zlw(f1 f:FuncId)(e:Nat->Int)(hk:Qy [.int .u64,.int .u64,.int .u64,.int .u64,.int .u64,.bit,.int .u64] [e 0,e 1,e 2,e 3,e 4,e 5,e 6])(hp:(Qpy f).pre [e 0,e 1,e 2,e 3,e 4,e 5,e 6]):Zxg.Xij [Qoe f1] ⟨fun ys=>ys=(Qpy f).sem [e 0,e 1,e 2,e 3,e 4,e 5,e 6],[]⟩ e:=by
 have hp:pOk (e 0):=hp;have p0:=hp.1;have p1:=hp.2;simp only[Zxg,Qoe,Qpy,Qn.Xij,xw,xws,Nat.reduceAdd,Oy,Oz,List.map,Qp,Qm,Q3,D.ev,O1,O2];intro a7 _;have c7:e 7=e 0-2:=by rw[a7];simp only[Qw,wr];omega
 refine⟨hp,fun a8 _=>?_⟩;rw[a8,c7];rfl
def Zdi:Qn:=(xw 0 [.v 0,.v 1,.v 2,.v 3,.v 4,.v 5,.v 6,.v 6] 247 qna
(xw 0 [.v 0,.v 1,.v 2,.v 3,.v 4,.v 5,.v 247,.v 6] 343 qna
(xw 1 [.v 0,.v 1,.v 2,.v 3,.v 4,.v 5,.v 343,.v 6] 439 qna
(.ret [.v 439]))))
theorem Zae(f1 f2 f:FuncId)(e:Nat->Int)(hp:(Qbx f).pre [e 0,e 1,e 2,e 3,e 4,e 5,e 6]):Zdi.Xij [Bf f1,Qgz f2] ⟨fun ys=>ys=(Qbx f).sem [e 0,e 1,e 2,e 3,e 4,e 5,e 6],[]⟩ e:=by
 obtain⟨hp,hx⟩:pOk (e 0)/\e 6<e 0:=hp;have p0:=hp.1;simp only[Zdi,Bf,Qgz,Qbx,Qn.Xij,xw,xws,Nat.reduceAdd,Oy,Oz,List.map,Qp,Qm,Q3,D.ev,O1,O2];refine⟨hp,fun a1 _=>⟨hp,fun a2 _=>⟨⟨hp,by rw[a2];exact(Zl (by omega)).2,hx⟩,fun a3 _=>?_⟩⟩⟩;rw[a3,a2,a1];rfl
def Xdk:Qn:=(.split 8
(.l 9 .bit (.cmp .eql (.v 6) (.lit 0))
(.split 9
(.l 10 .bit (.cmp .eql (.v 7) (.lit 0))
(.ret [.v 10]))
(.ret [.lit 0])))
(.l 201 .bit (.cmp .lss (.v 6) (.v 0))
(.split 201
(.l 489 .bit (.cmp .lss (.v 7) (.v 0))
(.split 489
(xw 0 [.v 0,.v 1,.v 2,.v 3,.v 4,.v 5,.v 7,.v 7] 873 qna
(xw 1 [.v 0,.v 1,.v 2,.v 3,.v 4,.v 5,.v 6] 1065 qna
(.l 1113 .bit (.cmp .eql (.v 873) (.v 1065))
(.ret [.v 1113]))))
(.ret [.lit 0])))
(.ret [.lit 0]))))
theorem Zrv(f1 f2 f:FuncId)(e:Nat->Int)(hp:(Qo0 f).pre [e 0,e 1,e 2,e 3,e 4,e 5,e 6,e 7,e 8]):Xdk.Xij [Bf f1,Qbx f2] ⟨fun ys=>ys=(Qo0 f).sem [e 0,e 1,e 2,e 3,e 4,e 5,e 6,e 7,e 8],[]⟩ e:=by
 have hp:pOk (e 0):=hp;simp only[Xdk,Bf,Qbx,Qo0,Qn.Xij,xw,xws,Nat.reduceAdd,Oy,Oz,List.map,Qp,Qm,Q3,D.ev,O1,O2];unfold bi;refine⟨fun hz=>?_,fun hz=>?_⟩
 ·intro a9 _;have b9:=Zi a9;refine⟨fun h1=>?_,fun h1=>?_⟩
  ·intro a10 _;have b10:=Zi a10;have:Bp (e 0) (e 6) (e 7) (e 8)↔e 7=0:=by unfold Bp;rw[if_neg hz];constructor <;> intro h <;> omega
   simp only[this];congr 1;split <;> omega
  ·have:¬Bp (e 0) (e 6) (e 7) (e 8):=by unfold Bp;rw[if_neg hz];omega
   rw[if_neg this]
 ·intro a1 _;have b1:=Va a1;have hon:Bp (e 0) (e 6) (e 7) (e 8)↔e 6<e 0/\e 7<e 0/\e 7*e 7%e 0=Yz (e 0) (e 6):=by unfold Bp;rw[if_pos hz]
  refine⟨fun h1=>?_,fun h1=>?_⟩
  ·intro a2 _;have b2:=Va a2;refine⟨fun h2=>?_,fun h2=>?_⟩
   ·refine⟨hp,fun a3 _=>⟨⟨hp,by omega⟩,fun a4 _ a5 _=>?_⟩⟩;have b5:=Zi a5;rw[a3,a4]at b5;simp only[hon];congr 1;split
    ·rename_i h;rcases b5 with b5|b5
     ·exact b5.1
     ·exact absurd h.2.2 b5.2
    ·rename_i h;rcases b5 with b5|b5
     ·exact absurd ⟨by omega,by omega,b5.2⟩ h
     ·exact b5.1
   ·rw[if_neg (by rw[hon];omega)]
  ·rw[if_neg (by rw[hon];omega)]
def Zco:Qn:=(.l 12 .bit (.cmp .neq (.v 6) (.v 9))
(.split 12
(xw 0 [.v 0,.v 1,.v 2,.v 3,.v 4,.v 5,.v 10,.v 7] 301 qna
(xw 0 [.v 0,.v 1,.v 2,.v 3,.v 4,.v 5,.v 9,.v 6] 637 qna
(xw 1 [.v 0,.v 1,.v 2,.v 3,.v 4,.v 5,.v 637] 685 qna
(xw 2 [.v 0,.v 1,.v 2,.v 3,.v 4,.v 5,.v 301,.v 685] 733 qna
(.ret [.v 733,.lit 1])))))
(.l 13 .bit (.cmp .neq (.v 7) (.v 10))
(.split 13
(.ret [.lit 0,.lit 0])
(.l 14 .bit (.cmp .eql (.v 7) (.lit 0))
(.split 14
(.ret [.lit 0,.lit 0])
(xw 2 [.v 0,.v 1,.v 2,.v 3,.v 4,.v 5,.v 6,.v 6] 15 qna
(xw 3 [.v 0,.v 1,.v 2,.v 3,.v 4,.v 5,.v 15,.v 15] 304 qna
(xw 3 [.v 0,.v 1,.v 2,.v 3,.v 4,.v 5,.v 304,.v 15] 400 qna
(xw 3 [.v 0,.v 1,.v 2,.v 3,.v 4,.v 5,.v 400,.lit 1] 448 qna
(xw 3 [.v 0,.v 1,.v 2,.v 3,.v 4,.v 5,.v 7,.v 7] 784 qna
(xw 1 [.v 0,.v 1,.v 2,.v 3,.v 4,.v 5,.v 784] 832 qna
(xw 2 [.v 0,.v 1,.v 2,.v 3,.v 4,.v 5,.v 448,.v 832] 880 qna
(.ret [.v 880,.lit 1]))))))))))))))
theorem Qxn(f1 f2 f3 f4 f:FuncId)(e:Nat->Int)(hk:Qy [.int .u64,.int .u64,.int .u64,.int .u64,.int .u64,.bit,.int .u64,.int .u64,.bit,.int .u64,.int .u64,.bit] [e 0,e 1,e 2,e 3,e 4,e 5,e 6,e 7,e 8,e 9,e 10,e 11])(hp:(Qd2 f).pre [e 0,e 1,e 2,e 3,e 4,e 5,e 6,e 7,e 8,e 9,e 10,e 11]):Zco.Xij [Qew f1,Qpy f2,Bf f3,Qgz f4] ⟨fun ys=>ys=(Qd2 f).sem [e 0,e 1,e 2,e 3,e 4,e 5,e 6,e 7,e 8,e 9,e 10,e 11],[]⟩ e:=by
 obtain⟨hp,q1,q2,q3,q4⟩:=hp;have p0:0<e 0:=by have:=hp.1;omega
 have p3:=hp.1;have lt:∀x:Int,x%e 0<e 0:=fun x=>(Zl p0).2
 simp only[Zco,Qew,Qpy,Bf,Qgz,Qd2,Qn.Xij,xw,xws,Nat.reduceAdd,Oy,Oz,List.map,Qp,Qm,Q3,D.ev,O1,O2];intro a12 _;have b12:=Qaj a12;refine⟨fun h=>?_,fun h=>?_⟩
 ·refine⟨⟨hp,q4,q2⟩,fun a1 _=>⟨⟨hp,q3,q1⟩,fun a2 _=>⟨hp,fun a3 _=>⟨hp,fun a4 _=>?_⟩⟩⟩⟩;unfold Y8;rw[if_pos (by omega),a4,a1,a3,a2]
 ·intro a13 _;have b13:=Qaj a13;refine⟨fun h1=>?_,fun h1=>?_⟩
  ·unfold Y8;rw[if_neg (by omega),if_pos (by omega)]
  ·intro a14 _;have b14:=Zi a14;refine⟨fun h2=>?_,fun h2=>?_⟩
   ·unfold Y8;rw[if_neg (by omega),if_pos (by omega)]
   ·refine⟨hp,fun a1 _=>⟨⟨hp,by rw[a1];exact lt _,by rw[a1];exact lt _⟩,fun a2 _=>⟨⟨hp,by rw[a2];exact lt _,by rw[a1];exact lt _⟩,fun a3 _=>⟨⟨hp,by rw[a3];exact lt _,by omega⟩,fun a4 _=>⟨⟨hp,q2,q2⟩,fun a5 _=>⟨hp,fun a6 _=>⟨hp,fun a7 _=>?_⟩⟩⟩⟩⟩⟩⟩;unfold Y8;rw[if_neg (by omega),if_neg (by omega),a7,a4,a6,a3,a5,a2,a1]
def Zx2:Qn:=(.split 8
(.ret [.v 9,.v 10,.v 11])
(.split 11
(.ret [.v 6,.v 7,.v 8])
(xw 0 [.v 0,.v 1,.v 2,.v 3,.v 4,.v 5,.v 6,.v 7,.v 8,.v 9,.v 10,.v 11] 12 [kU,.bit]
(.l 14 .bit (.not (.v 13))
(.split 14
(.ret [.lit 0,.lit 0,.lit 1])
(xw 1 [.v 0,.v 1,.v 2,.v 3,.v 4,.v 5,.v 12,.v 12] 255 qna
(xw 2 [.v 0,.v 1,.v 2,.v 3,.v 4,.v 5,.v 255,.v 6] 399 qna
(xw 2 [.v 0,.v 1,.v 2,.v 3,.v 4,.v 5,.v 399,.v 9] 543 qna
(xw 2 [.v 0,.v 1,.v 2,.v 3,.v 4,.v 5,.v 6,.v 543] 1023 qna
(xw 1 [.v 0,.v 1,.v 2,.v 3,.v 4,.v 5,.v 12,.v 1023] 1071 qna
(xw 2 [.v 0,.v 1,.v 2,.v 3,.v 4,.v 5,.v 1071,.v 7] 1215 qna
(.ret [.v 543,.v 1215,.lit 0]))))))))))))
theorem Zqp(f1 f2 f3 f:FuncId)(e:Nat->Int)(hk:Qy [.int .u64,.int .u64,.int .u64,.int .u64,.int .u64,.bit,.int .u64,.int .u64,.bit,.int .u64,.int .u64,.bit] [e 0,e 1,e 2,e 3,e 4,e 5,e 6,e 7,e 8,e 9,e 10,e 11])(hp:(Qlq f).pre [e 0,e 1,e 2,e 3,e 4,e 5,e 6,e 7,e 8,e 9,e 10,e 11]):Zx2.Xij [Qd2 f1,Bf f2,Qew f3] ⟨fun ys=>ys=(Qlq f).sem [e 0,e 1,e 2,e 3,e 4,e 5,e 6,e 7,e 8,e 9,e 10,e 11],[]⟩ e:=by
 obtain⟨hp,q1,q2,q3,q4⟩:=hp;have p0:0<e 0:=by have:=hp.1;omega
 have lt:∀x:Int,x%e 0<e 0:=fun x=>(Zl p0).2
 simp only[Zx2,Qd2,Bf,Qew,Qlq,Qn.Xij,xw,xws,Nat.reduceAdd,Oy,Oz,List.map,Qp,Qm,Q3,D.ev,O1,O2];refine⟨fun h=>?_,fun h=>?_⟩
 ·unfold Xv Pt.l;rw[if_pos h]
 refine⟨fun h1=>?_,fun h1=>?_⟩
 ·unfold Xv Pt.l;rw[if_neg (by simpa using h),if_pos h1]
 refine⟨⟨hp,q1,q2,q3,q4⟩,fun a12 _ a13 _ a14 _=>?_⟩;have b14:=Z6 a14;refine⟨fun h2=>?_,fun h2=>?_⟩
 ·have hz:(Y8 (e 0) (e 6) (e 7) (e 9) (e 10)).2=0:=by rw[<- a13];omega
  unfold Xv Pt.l;rw[if_neg (by simpa using h),if_neg (by simpa using h1)];simp only[hz,if_true]
 ·have hz:¬(Y8 (e 0) (e 6) (e 7) (e 9) (e 10)).2=0:=by rw[<- a13];omega
  refine⟨hp,fun a1 _=>⟨⟨hp,by rw[a1];exact lt _,q1⟩,fun a2 _=>⟨⟨hp,by rw[a2];exact lt _,q3⟩,fun a3 _=>⟨⟨hp,q1,by rw[a3];exact lt _⟩,fun a4 _=>⟨hp,fun a5 _=>⟨⟨hp,by rw[a5];exact lt _,q2⟩,fun a6 _=>?_⟩⟩⟩⟩⟩⟩;unfold Xv Pt.l;rw[if_neg (by simpa using h),if_neg (by simpa using h1)];simp only[hz,if_false];rw[a6,a5,a4,a3,a2,a1,a12]
theorem Qqx{p:Int}(hp:0<p){a b:Pt}(ha:a.lt p)(hb:b.lt p):(Xv p a b).lt p:=by
 unfold Xv;split
 ·exact hb
 split
 ·exact ha
 simp only;split
 ·exact⟨⟨Int.le_refl _,hp⟩,Int.le_refl _,hp⟩
 ·exact⟨Zl hp,Zl hp⟩
theorem Zc1{p:Int}(hp:0<p){a:Pt}(ha:a.lt p):∀(k n:Nat),(Zs p a k n).lt p
 |0,n=>⟨⟨Int.le_refl _,hp⟩,Int.le_refl _,hp⟩
 |k+1,n=>by
  unfold Zs;split
  ·exact⟨⟨Int.le_refl _,hp⟩,Int.le_refl _,hp⟩
  ·simp only;have h:=Zc1 hp ha k (n/2);have hd:=Qqx hp h h;split
   ·exact Qqx hp hd ha
   ·exact hd
theorem Qqo{p:Int}{a:Pt}:∀(k n:Nat),n<2^k->Zs p a (k+1) n=Zs p a k n
 |0,n,h=>by
  have:n=0:=by simpa using h
  subst this;rfl
 |k+1,n,h=>by
  have ih:=Qqo (p:=p) (a:=a) k (n/2) (by rw[Nat.pow_succ]at h;omega);have e1:∀j,Zs p a (j+1) n=if n=0 then⟨0,0,1⟩else(if n%2=1 then Xv p (Xv p (Zs p a j (n/2)) (Zs p a j (n/2))) a else Xv p (Zs p a j (n/2)) (Zs p a j (n/2))):=fun j=>rfl
  rw[e1,e1,ih]
theorem Zhd{p:Int}{a:Pt}{n:Nat}(h:n<2^64):Zs p a 64 n=(if n%2=1 then Xv p (Xv p (Zs p a 64 (n/2)) (Zs p a 64 (n/2))) a else Xv p (Zs p a 64 (n/2)) (Zs p a 64 (n/2))):=by
 have hf:Zs p a 64 (n/2)=Zs p a 63 (n/2):=Qqo 63 (n/2) (by omega);rw[hf]
 conv=>lhs;unfold Zs
 split
 ·rename_i h0;subst h0;rfl
 ·rfl
def Qqw(p:Int)(a:Pt)(n:Int):List Int->Prop
 |[i,x,y,z]=>-1<=i/\i<=63/\(⟨x,y,z⟩:Pt)=Zs p a 64 (n/2^(i+1).toNat).toNat
 |_=>False
def Zej:Qn:=(xw 0 [.v 9] 10 qoa
(.l 11 kI (.bin .sub .i64 (.v 10) (.lit 1))
(.loop [.v 11,.lit 0,.lit 0,.lit 1] [kI,kU,kU,.bit] 12
(.l 16 .bit (.cmp .geq (.v 12) (.lit 0))
(.split 16
(xw 1 [.v 0,.v 1,.v 2,.v 3,.v 4,.v 5,.v 13,.v 14,.v 15,.v 13,.v 14,.v 15] 17 qra
(.l 20 .bit (.cmp .leq (.lit 0) (.v 12))
(.l 21 kU (.bin .shr .u64 (.v 9) (.v 12))
(.nz (.v 20)
(.l 22 kU (.bin .and .u64 (.v 21) (.lit 1))
(.l 23 .bit (.cmp .eql (.v 22) (.lit 1))
(.split 23
(xw 1 [.v 0,.v 1,.v 2,.v 3,.v 4,.v 5,.v 17,.v 18,.v 19,.v 6,.v 7,.v 8] 24 qra
(.l 27 kI (.bin .sub .i64 (.v 12) (.lit 1))
(.back 0 [.v 27,.v 24,.v 25,.v 26])))
(.l 24 kI (.bin .sub .i64 (.v 12) (.lit 1))
(.back 0 [.v 24,.v 17,.v 18,.v 19])))))))))
(.ret [.v 13,.v 14,.v 15]))))))
theorem Qxw(f1 f2 f:FuncId)(e:Nat->Int)(hk:Qy [.int .u64,.int .u64,.int .u64,.int .u64,.int .u64,.bit,.int .u64,.int .u64,.bit,.int .u64] [e 0,e 1,e 2,e 3,e 4,e 5,e 6,e 7,e 8,e 9])(hp:(B8 f).pre [e 0,e 1,e 2,e 3,e 4,e 5,e 6,e 7,e 8,e 9]):Zej.Xij [Bw f1,Qlq f2] ⟨fun ys=>ys=(B8 f).sem [e 0,e 1,e 2,e 3,e 4,e 5,e 6,e 7,e 8,e 9],[]⟩ e:=by
 obtain⟨hp,q1,q2⟩:=hp;have p0:0<e 0:=by have:=hp.1;omega
 obtain⟨_,_,_,_,_,_,h6,h7,h8,h9,_⟩:=hk;have u6:=Zd h6;have u7:=Zd h7;have u9:=Zd h9;have ha:(⟨e 6,e 7,e 8⟩:Pt).lt (e 0):=⟨⟨u6.1,q1⟩,u7.1,q2⟩
 simp only[Zej,Bw,Qlq,B8,Qn.Xij,xw,xws,Nat.reduceAdd,Oy,Oz,List.map,Qp,Qm,Q3,D.ev,O1,O2];refine⟨trivial,fun a10 _ a11 _=>?_⟩;have b0:=Ub (e 9);have b1:=Wp 64 (e 9) u9.1 (by rw[Qnj];exact u9.2);have c11:e 11=Xa (e 9)-1:=by rw[a11,a10];simp only[Qw,wr];omega
 refine⟨Qqw (e 0) ⟨e 6,e 7,e 8⟩ (e 9),fun|[i,_,_,_]=>(i+1).toNat|_=>0,?_,fun e' he hkk hI=>?_⟩
 ·rw[c11];refine⟨by omega,by omega,?_⟩;rw[Kt];have h1:e 9/2^(Xa (e 9)).toNat=0:=by
   by_cases hc:e 9<2^(Xa (e 9)).toNat
   ·exact L6 u9.1 hc
   ·have:=Qb3 (Xa (e 9)).toNat (e 9) (by omega);omega
  rw[h1];rfl
 ·obtain⟨i1,i2,i3⟩:Qqw (e 0) ⟨e 6,e 7,e 8⟩ (e 9) [e' 12,e' 13,e' 14,e' 15]:=hI;simp only[he 0 (by decide),he 1 (by decide),he 2 (by decide),he 3 (by decide),he 4 (by decide),he 5 (by decide),he 6 (by decide),he 7 (by decide),he 8 (by decide),he 9 (by decide)];intro a16 _;have b16:=Bt a16;refine⟨fun hs=>?_,fun hs=>?_⟩
  ·obtain⟨n,hi⟩:=Ow (show 0<=e' 12 by omega);rw[hi,show((n:Int)+1).toNat=n+1 by omega]at i3;have hq:(0:Int)<2^n:=L8 (by decide);have hn0:=M4 u9.1 (show(0:Int)<=2^n by omega);have hn1:e 9/2^n<18446744073709551616:=Int.lt_of_le_of_lt (K5 _ u9.1) u9.2;have hlt:=Zc1 p0 ha 64 (e 9/2^(n+1)).toNat;rw[<- i3]at hlt;have hst:=Zhd (p:=e 0) (a:=⟨e 6,e 7,e 8⟩) (n:=(e 9/2^n).toNat) (by omega);have hhalf:(e 9/2^n).toNat/2=(e 9/2^(n+1)).toNat:=by
    rw[M7,<- Ki (by omega)];omega
   rw[hhalf,<- i3]at hst;refine⟨⟨hp,hlt.1.2,hlt.2.2,hlt.1.2,hlt.2.2⟩,fun a17 _ a18 _ a19 _ a20 _ a21 _=>⟨Zb a20 (by omega),fun a22 _ a23 _=>?_⟩⟩;have b23:=Zi a23;rw[hi]at a21;have c21:=Zv4 a21 (by omega);have c22:=Qno a22 (by rw[c21];exact⟨hn0,hn1⟩);rw[c21]at c22;have hd:(⟨e' 17,e' 18,e' 19⟩:Pt)=Xv (e 0) ⟨e' 13,e' 14,e' 15⟩ ⟨e' 13,e' 14,e' 15⟩:=by rw[a17,a18,a19];rfl
   have hdl:=Qqx p0 hlt hlt;rw[<- hd]at hdl hst;refine⟨fun hs2=>?_,fun hs2=>?_⟩
   ·refine⟨⟨hp,hdl.1.2,hdl.2.2,q1,q2⟩,fun a24 _ a25 _ a26 _ a27 _=>?_⟩;have h27:e' 27=n-1:=by rw[a27];simp only[Qw,wr];omega
    show Qqw (e 0) ⟨e 6,e 7,e 8⟩ (e 9) [e' 27,e' 24,e' 25,e' 26]/\(e' 27+1).toNat<(e' 12+1).toNat;rw[h27,hi];refine⟨⟨by omega,by omega,?_⟩,by omega⟩;rw[show((n:Int)-1+1).toNat=n by omega,hst,if_pos (by omega),a24,a25,a26];rfl
   ·intro a24 _;have h24:e' 24=n-1:=by rw[a24];simp only[Qw,wr];omega
    show Qqw (e 0) ⟨e 6,e 7,e 8⟩ (e 9) [e' 24,e' 17,e' 18,e' 19]/\(e' 24+1).toNat<(e' 12+1).toNat;rw[h24,hi];refine⟨⟨by omega,by omega,?_⟩,by omega⟩;rw[show((n:Int)-1+1).toNat=n by omega,hst,if_neg (by omega)]
  ·have h1:e' 12=-1:=by omega
   rw[h1]at i3;have h2:(⟨e' 13,e' 14,e' 15⟩:Pt)=Zs (e 0) ⟨e 6,e 7,e 8⟩ 64 (e 9).toNat:=by
    rw[i3];congr 2;show e 9/1=e 9;rw[Hg]
   rw[<- h2];rfl
def Xdw:Qn:=(xw 0 [.v 0,.v 1,.v 2,.v 3,.v 4,.v 5,.v 6,.v 7,.v 8] 9 U3
(.split 9
(xw 1 [.v 0,.v 1,.v 2,.v 3,.v 4,.v 5,.v 6,.v 7,.v 8,.v 1] 10 qra
(.ret [.v 12]))
(.ret [.lit 0])))
theorem Ztt(f1 f2 f:FuncId)(e:Nat->Int)(hk:Qy [.int .u64,.int .u64,.int .u64,.int .u64,.int .u64,.bit,.int .u64,.int .u64,.bit] [e 0,e 1,e 2,e 3,e 4,e 5,e 6,e 7,e 8])(hp:(Qyx f).pre [e 0,e 1,e 2,e 3,e 4,e 5,e 6,e 7,e 8]):Xdw.Xij [Qo0 f1,B8 f2] ⟨fun ys=>ys=(Qyx f).sem [e 0,e 1,e 2,e 3,e 4,e 5,e 6,e 7,e 8],[]⟩ e:=by
 have hp:pOk (e 0):=hp;have p0:=hp.1;simp only[Xdw,Qo0,B8,Qyx,Qn.Xij,xw,xws,Nat.reduceAdd,Oy,Oz,List.map,Qp,Qm,Q3,D.ev,O1,O2];refine⟨hp,fun a9 _=>?_⟩;unfold bi at a9 ⊢;refine⟨fun h=>?_,fun h=>?_⟩
 ·have hon:Bp (e 0) (e 6) (e 7) (e 8):=by
   by_cases hc:Bp (e 0) (e 6) (e 7) (e 8)
   ·exact hc
   ·rw[if_neg hc]at a9;omega
  have hb:e 6<e 0/\e 7<e 0:=by
   unfold Bp at hon;split at hon <;> omega
  refine⟨⟨hp,hb.1,hb.2⟩,fun a10 _ a11 _ a12 k12=>?_⟩;have hz:e 12=(Zs (e 0) ⟨e 6,e 7,e 8⟩ 64 (e 1).toNat).z:=a12;have k12:0<=e 12/\e 12<=1:=k12;by_cases hc:(Zs (e 0) ⟨e 6,e 7,e 8⟩ 64 (e 1).toNat).z≠0
  ·rw[if_pos ⟨hon,hc⟩];congr 1;omega
  ·rw[if_neg (fun hh=>hc hh.2)];congr 1;omega
 ·have hon:¬Bp (e 0) (e 6) (e 7) (e 8):=fun hc=>by rw[if_pos hc]at a9;omega
  rw[if_neg (fun hh=>hon hh.1)]
end Go.Sx

namespace Go.Sx
open Go Go.RowKit
set_option maxRecDepth 100000
structure Hom {α β:Type} (Ra:Rg α) (Rb:Rg β) (S:α->β->Prop):Prop where
 add:∀ {a b c d},S a b->S c d->S (Ra.add a c) (Rb.add b d)
 sub:∀ {a b c d},S a b->S c d->S (Ra.sub a c) (Rb.sub b d)
 mul:∀ {a b c d},S a b->S c d->S (Ra.mul a c) (Rb.mul b d)
 md:∀ {a b},S a b->S (Ra.md a) (Rb.md b)
 isz:∀ {a b},S a b->Ra.isz a=Rb.isz b
 za:Ra.isz Ra.zero=true
 zb:Rb.isz Rb.zero=true
 ob:¬Rb.isz Rb.one=true
 m1:∀ {a b},S a b->S a (Rb.mul b (Rb.mul Rb.one Rb.one))
 m2:∀ {a b},S a b->S a (Rb.mul b (Rb.mul (Rb.mul Rb.one Rb.one) Rb.one))
 m3:∀ {a b h k},S a b->S h k->S (Ra.mul a h) (Rb.mul k (Rb.mul b Rb.one))
 dz:∀ {y z},Rb.isz y=true∨Rb.isz z=true->Rb.isz (Rb.add (Rb.mul y z) (Rb.mul y z))=true
 ma:∀ {a},Ra.isz (Ra.md a)=Ra.isz a
 mb:∀ {b},Rb.isz (Rb.md b)=Rb.isz b
section
variable {α β:Type}{Ra:Rg α}{Rb:Rg β}{S:α->β->Prop}
end
def S1(A:E2)(a:Int):Prop:=A.1%bP=a%bP/\A.2%bP=0
theorem one_ne:¬(1:Int)%bP=0:=by decide
theorem Qkv{x y:Int}(h:x%bP=0)(k:y%bP=0):(x+y)%bP=0:=by rw[Oai,h,k];rfl
theorem Zsz{x y:Int}(h:x%bP=0)(k:y%bP=0):(x-y)%bP=0:=by rw[Int.sub_emod,h,k];rfl
theorem Yx{x:Int}(y:Int)(h:x%bP=0):(x*y)%bP=0:=by rw[M3,h,K7];rfl
end Go.Sx

namespace Go.Sx
open Go Go.RowKit
set_option maxRecDepth 100000
theorem Xg5{v s c l:Int}(h:v=Qw .or .u64 s c)(hs:s=Qw .shl .u64 l 1)(hc:c=0∨c=1)(ul:U l):v=2*l%18446744073709551616+c:=by
 have h1:=Qjk 2 hs rfl;unfold U at *
 simp only[wr]at h1;rw[Qah (k:=1) (q:=l%9223372036854775808) h (by omega) (by omega) (by omega) (by omega)];omega
theorem Zs3{x c o0 o1 o2 o3 o4 o5:Int}(hx:0<=x/\x<Qv)(h0:o0=2*Q0 x 0%18446744073709551616+c)(h1:o1=2*Q0 x 1%18446744073709551616+Q0 x 0/9223372036854775808)
  (h2:o2=2*Q0 x 2%18446744073709551616+Q0 x 1/9223372036854775808) (h3:o3=2*Q0 x 3%18446744073709551616+Q0 x 2/9223372036854775808) (h4:o4=2*Q0 x 4%18446744073709551616+Q0 x 3/9223372036854775808)
  (h5:o5=2*Q0 x 5%18446744073709551616+Q0 x 4/9223372036854775808):Y2 [o0,o1,o2,o3,o4,o5]=2*x+c-Q0 x 5/9223372036854775808*Qv:=by
 have ex:=Zz hx;have l0:=Qs x 0;have l1:=Qs x 1;have l2:=Qs x 2;have l3:=Qs x 3;have l4:=Qs x 4;have l5:=Qs x 5;rw[Jq];generalize Q0 x 0=x0 at *
 generalize Q0 x 1=x1 at *
 generalize Q0 x 2=x2 at *
 generalize Q0 x 3=x3 at *
 generalize Q0 x 4=x4 at *
 generalize Q0 x 5=x5 at *
 unfold Qv;omega
theorem Zxt{i v:Int}(hi:0<=i/\i<384)(h:v=Qw .quo .i64 i 64):v=i/64:=by
 rw[h];simp only[Qw,wr];rw[Kh hi.1];omega
theorem Zyn{i v:Int}(hi:0<=i/\i<384)(h:v=Qw .rem .i64 i 64):v=i%64:=by
 rw[h];simp only[Qw];rw[M1 hi.1]
theorem Zrt{v r:Int}(hr:0<=r/\r<64)(h:v=Qw .shl .u64 1 r):v=2^r.toNat:=by
 rw[h];simp only[Qw,wr];rw[show min r.toNat IntKind.u64.bits=r.toNat by show min r.toNat 64=_;omega,Int.one_mul,L0];have:(2:Int)^r.toNat<2^64:=Int.pow_lt_pow_of_lt (by decide) (by omega);rw[Qnj]at this;exact Ox (Int.pow_nonneg (by decide)) this
theorem Zdy{q i k r s sh v p0 p1 p2 p3 p4 p5:Int}(hq:0<=q/\q<Qv)(hi:0<=i/\i<384)(hk:k=i/64)(hr:r=i%64)
  (hs:s=([(Q0 q 0),(Q0 q 1),(Q0 q 2),(Q0 q 3),(Q0 q 4),(Q0 q 5)]:List Int).getD k.toNat 0) (hsh:sh=Qw .shl .u64 1 r) (hv:v=Qw .or .u64 s sh)
  (h0:p0=if k=((0:Nat):Int)then v else Q0 q 0) (h1:p1=if k=((1:Nat):Int)then v else Q0 q 1) (h2:p2=if k=((2:Nat):Int)then v else Q0 q 2) (h3:p3=if k=((3:Nat):Int)then v else Q0 q 3) (h4:p4=if k=((4:Nat):Int)then v else Q0 q 4) (h5:p5=if k=((5:Nat):Int)then v else Q0 q 5)
  {Q:Int} (hd:q=2^(i+1).toNat*Q) (hQ:0<=Q):Y2 [p0,p1,p2,p3,p4,p5]=q+2^i.toNat:=by
 have hsl:s=Q0 q k.toNat:=by
  have:k=0∨k=1∨k=2∨k=3∨k=4∨k=5:=by omega
  rw[hs];rcases this with h|h|h|h|h|h <;> rw[h] <;> rfl
 have hsh':=Zrt (by omega) hsh;have hpr:(0:Int)<2^(r.toNat+1):=L8 (by decide);have hz:∃w,0<=w/\s=w*2^(r.toNat+1)/\s+2^r.toNat<18446744073709551616:=by
  have e1:q/2^(64*k.toNat)=2^(r.toNat+1)*Q:=by
   rw[hd,show(i+1).toNat=64*k.toNat+(r.toNat+1) by omega,L9,Kx];exact Int.mul_ediv_cancel_left _ (Int.ne_of_gt (L8 (by decide)))
  have e2:(18446744073709551616:Int)=2^(r.toNat+1)*2^(63-r.toNat):=by
   rw[<- L9,show r.toNat+1+(63-r.toNat)=64 by omega,Qnj]
  have e3:s=2^(r.toNat+1)*(Q%2^(63-r.toNat)):=by
   rw[hsl,Qrq,e1,e2,Int.mul_emod_mul_of_pos _ _ hpr]
  have hp2:(0:Int)<2^(63-r.toNat):=L8 (by decide);have hw0:=Mr Q (show(2:Int)^(63-r.toNat)≠0 by omega);have hw1:=Mt Q hp2;refine⟨Q%2^(63-r.toNat),hw0,by rw[e3,Mw],?_⟩;have h6:2^(r.toNat+1)*(Q%2^(63-r.toNat)+1)<=2^(r.toNat+1)*2^(63-r.toNat):=Int.mul_le_mul_of_nonneg_left (by omega) (by omega);rw[<- e2,Int.mul_add,<- e3,Ha,M7]at h6;have:(0:Int)<2^r.toNat:=L8 (by decide);omega
 obtain⟨w,w0,w1,w2⟩:=hz;have hvs:v=s+2^r.toNat:=by
  rw[hsh']at hv;refine Qah (k:=r.toNat+1) (q:=w) hv (by rw[w1,L0];rfl) w0 ⟨Int.pow_nonneg (by decide),?_⟩ w2;rw[L0];exact Int.pow_lt_pow_of_lt (by decide) (by omega)
 have e4:(2:Int)^i.toNat=2^(64*k.toNat)*2^r.toNat:=by rw[<- L9];congr 1;omega
 rw[hvs]at h0 h1 h2 h3 h4 h5;have ex:=Zz hq;rw[Jq,e4];clear hsh' hpr hd hsh hv e4 w2 w1 hvs hs;have:k=0∨k=1∨k=2∨k=3∨k=4∨k=5:=by omega
 rcases this with h|h|h|h|h|h <;> subst h
 ·simp only[hsl]at *
  rw[h0,h1,h2,h3,h4,h5];simp only[show((0:Int)).toNat=0 from rfl,Nat.mul_zero,H8]at *
  generalize (2:Int)^r.toNat=z at *
  simp at *
  omega
 ·simp only[hsl]at *
  rw[h0,h1,h2,h3,h4,h5];simp only[show((1:Int)).toNat=1 from rfl,Nat.mul_one,Qnj]at *
  generalize (2:Int)^r.toNat=z at *
  simp at *
  omega
 ·simp only[hsl]at *
  rw[h0,h1,h2,h3,h4,h5];simp only[show((2:Int)).toNat=2 from rfl,show 64*2=128 from rfl,Zzi]at *
  generalize (2:Int)^r.toNat=z at *
  simp at *
  omega
 ·simp only[hsl]at *
  rw[h0,h1,h2,h3,h4,h5];simp only[show((3:Int)).toNat=3 from rfl,show 64*3=192 from rfl,Xel]at *
  generalize (2:Int)^r.toNat=z at *
  simp at *
  omega
 ·simp only[hsl]at *
  rw[h0,h1,h2,h3,h4,h5];simp only[show((4:Int)).toNat=4 from rfl,show 64*4=256 from rfl,Xd3]at *
  generalize (2:Int)^r.toNat=z at *
  simp at *
  omega
 ·simp only[hsl]at *
  rw[h0,h1,h2,h3,h4,h5];simp only[show((5:Int)).toNat=5 from rfl,show 64*5=320 from rfl,Xdx]at *
  generalize (2:Int)^r.toNat=z at *
  simp at *
  omega
theorem Ze9{x:Int}(hx:0<=x/\x<Qv)(h:1<=Q0 x 5/9223372036854775808):Qv<=2*x:=by
 have ex:=Zz hx;have l0:=Qs x 0;have l1:=Qs x 1;have l2:=Qs x 2;have l3:=Qs x 3;have l4:=Qs x 4;generalize Q0 x 0=x0 at *
 generalize Q0 x 1=x1 at *
 generalize Q0 x 2=x2 at *
 generalize Q0 x 3=x3 at *
 generalize Q0 x 4=x4 at *
 generalize Q0 x 5=x5 at *
 unfold Qv;omega
def Zac(a b:Int):List Int->Prop
 |[i,q,l]=>-1<=i/\i<=383/\∃Q,0<=Q/\q=2^(i+1).toNat*Q/\0<=l/\l<b/\a/2^(i+1).toNat=Q*b+l
 |_=>False
theorem Ze0{a:Int}(ha:0<=a)(n:Nat):a/2^n=2*(a/2^(n+1))+a/2^n%2:=by
 have hp:(0:Int)<2^n:=L8 (by decide);rw[show a/2^(n+1)=a/2^n/2 by rw[M7,Ki (by omega)]];omega
theorem Zdk{a b q q' l l':Int}{n:Nat}(ha:0<=a)(hn:n<384){Q:Int}(h0:0<=Q)(h1:q=2^(n+1)*Q)(h4:a/2^(n+1)=Q*b+l)(hq:q'=q+2^n)(hl:l'=2*l+a/2^n%2-b)(hl0:0<=l')(hl1:l'<b):Zac a b [(n:Int)-1,q',l']:=by
 refine⟨by omega,by omega,2*Q+1,by omega,?_,hl0,hl1,?_⟩
 ·rw[show((n:Int)-1+1).toNat=n by omega,hq,h1,M7];grind
 ·rw[show((n:Int)-1+1).toNat=n by omega,Ze0 ha n,h4,hl];grind
theorem Zzm{a b q l l':Int}{n:Nat}(ha:0<=a)(hn:n<384){Q:Int}(h0:0<=Q)(h1:q=2^(n+1)*Q)(h4:a/2^(n+1)=Q*b+l)(hl:l'=2*l+a/2^n%2)(hl0:0<=l')(hl1:l'<b):Zac a b [(n:Int)-1,q,l']:=by
 refine⟨by omega,by omega,2*Q,by omega,?_,hl0,hl1,?_⟩
 ·rw[show((n:Int)-1+1).toNat=n by omega,h1,M7];grind
 ·rw[show((n:Int)-1+1).toNat=n by omega,Ze0 ha n,h4,hl];grind
def Ze4:Qn:=(.l 2 .bit (.eqs [((.m 1 0),(.lit 0)),((.m 1 1),(.lit 0)),((.m 1 2),(.lit 0)),((.m 1 3),(.lit 0)),((.m 1 4),(.lit 0)),((.m 1 5),(.lit 0))])
(.split 2
(.ret [.lit 0,.lit 0,.lit 2])
(xw 2 [.v 0] 3 qoa
(.l 4 kI (.bin .sub .i64 (.v 3) (.lit 1))
(.loop [.v 4,.lit 0,.lit 0] [kI,.num,.num] 5
(.l 8 .bit (.cmp .geq (.v 5) (.lit 0))
(.split 8
(.l 9 kU (.bin .shr .u64 (.m 7 5) (.lit 63))
(.l 10 kU (.bin .shl .u64 (.m 7 0) (.lit 1))
(.l 11 kU (.bin .shl .u64 (.m 7 1) (.lit 1))
(.l 396 kU (.bin .shr .u64 (.m 7 0) (.lit 63))
(.l 444 kU (.bin .or .u64 (.v 11) (.v 396))
(.l 588 kU (.bin .shl .u64 (.m 7 2) (.lit 1))
(.l 973 kU (.bin .shr .u64 (.m 7 1) (.lit 63))
(.l 1021 kU (.bin .or .u64 (.v 588) (.v 973))
(.l 1165 kU (.bin .shl .u64 (.m 7 3) (.lit 1))
(.l 1550 kU (.bin .shr .u64 (.m 7 2) (.lit 63))
(.l 1598 kU (.bin .or .u64 (.v 1165) (.v 1550))
(.l 1742 kU (.bin .shl .u64 (.m 7 4) (.lit 1))
(.l 2127 kU (.bin .shr .u64 (.m 7 3) (.lit 63))
(.l 2175 kU (.bin .or .u64 (.v 1742) (.v 2127))
(.l 2319 kU (.bin .shl .u64 (.m 7 5) (.lit 1))
(.l 2704 kU (.bin .shr .u64 (.m 7 4) (.lit 63))
(.l 2752 kU (.bin .or .u64 (.v 2319) (.v 2704))
(xw 3 [.v 0,.v 5] 3088 qoa
(.l 3136 kU (.conv .u64 (.v 3088))
(.l 3184 kU (.bin .or .u64 (.v 10) (.v 3136))
(.l 3328 .bit (.cmp .eql (.v 9) (.lit 1))
(.split 3328
(.l 3329 .num (.join [.v 3184,.v 444,.v 1021,.v 1598,.v 2175,.v 2752])
(xw 0 [.v 3329,.v 1] 3330 qja
(.l 3380 kI (.bin .quo .i64 (.v 5) (.lit 64))
(.l 3428 .bit (.cmp .leq (.lit 0) (.v 3380))
(.l 3429 .bit (.cmp .lss (.v 3380) (.lit 6))
(.nz (.v 3428)
(.nz (.v 3429)
(.l 3476 kU (.sel (.v 3380) [.m 6 0,.m 6 1,.m 6 2,.m 6 3,.m 6 4,.m 6 5])
(.l 3572 kI (.bin .rem .i64 (.v 5) (.lit 64))
(.l 3620 .bit (.cmp .leq (.lit 0) (.v 3572))
(.l 3621 kU (.bin .shl .u64 (.lit 1) (.v 3572))
(.nz (.v 3620)
(.l 3668 kU (.bin .or .u64 (.v 3476) (.v 3621))
(.l 3716 .bit (.cmp .leq (.lit 0) (.v 3380))
(.l 3717 .bit (.cmp .lss (.v 3380) (.lit 6))
(.nz (.v 3716)
(.nz (.v 3717)
(.l 3764 kU (.put (.v 3380) 0 (.v 3668) (.m 6 0))
(.l 3765 kU (.put (.v 3380) 1 (.v 3668) (.m 6 1))
(.l 3766 kU (.put (.v 3380) 2 (.v 3668) (.m 6 2))
(.l 3767 kU (.put (.v 3380) 3 (.v 3668) (.m 6 3))
(.l 3768 kU (.put (.v 3380) 4 (.v 3668) (.m 6 4))
(.l 3769 kU (.put (.v 3380) 5 (.v 3668) (.m 6 5))
(.l 3812 kI (.bin .sub .i64 (.v 5) (.lit 1))
(.l 3813 .num (.join [.v 3764,.v 3765,.v 3766,.v 3767,.v 3768,.v 3769])
(.back 0 [.v 3812,.v 3813,.v 3330]))))))))))))))))))))))))))
(.l 3329 .num (.join [.v 3184,.v 444,.v 1021,.v 1598,.v 2175,.v 2752])
(xw 1 [.v 3329,.v 1] 3330 qoa
(.l 3331 .bit (.cmp .geq (.v 3330) (.lit 0))
(.split 3331
(.l 3332 .num (.join [.v 3184,.v 444,.v 1021,.v 1598,.v 2175,.v 2752])
(xw 0 [.v 3332,.v 1] 3333 qja
(.l 3383 kI (.bin .quo .i64 (.v 5) (.lit 64))
(.l 3431 .bit (.cmp .leq (.lit 0) (.v 3383))
(.l 3432 .bit (.cmp .lss (.v 3383) (.lit 6))
(.nz (.v 3431)
(.nz (.v 3432)
(.l 3479 kU (.sel (.v 3383) [.m 6 0,.m 6 1,.m 6 2,.m 6 3,.m 6 4,.m 6 5])
(.l 3575 kI (.bin .rem .i64 (.v 5) (.lit 64))
(.l 3623 .bit (.cmp .leq (.lit 0) (.v 3575))
(.l 3624 kU (.bin .shl .u64 (.lit 1) (.v 3575))
(.nz (.v 3623)
(.l 3671 kU (.bin .or .u64 (.v 3479) (.v 3624))
(.l 3719 .bit (.cmp .leq (.lit 0) (.v 3383))
(.l 3720 .bit (.cmp .lss (.v 3383) (.lit 6))
(.nz (.v 3719)
(.nz (.v 3720)
(.l 3767 kU (.put (.v 3383) 0 (.v 3671) (.m 6 0))
(.l 3768 kU (.put (.v 3383) 1 (.v 3671) (.m 6 1))
(.l 3769 kU (.put (.v 3383) 2 (.v 3671) (.m 6 2))
(.l 3770 kU (.put (.v 3383) 3 (.v 3671) (.m 6 3))
(.l 3771 kU (.put (.v 3383) 4 (.v 3671) (.m 6 4))
(.l 3772 kU (.put (.v 3383) 5 (.v 3671) (.m 6 5))
(.l 3815 kI (.bin .sub .i64 (.v 5) (.lit 1))
(.l 3816 .num (.join [.v 3767,.v 3768,.v 3769,.v 3770,.v 3771,.v 3772])
(.back 0 [.v 3815,.v 3816,.v 3333]))))))))))))))))))))))))))
(.l 3332 kI (.bin .sub .i64 (.v 5) (.lit 1))
(.l 3333 .num (.join [.v 3184,.v 444,.v 1021,.v 1598,.v 2175,.v 2752])
(.back 0 [.v 3332,.v 6,.v 3333])))))))))))))))))))))))))))))
(.ret [.v 6,.v 7,.lit 0]))))))))
theorem Qzz(f1 f2 f3 f4 f:FuncId)(e:Nat->Int)(hk:Qy [.num,.num] [e 0,e 1]):Ze4.Xij [Qdg f1,Yj f2,Qeu f3,Qwd f4] ⟨fun ys=>ys=(Qkl f).sem [e 0,e 1],[]⟩ e:=by
 obtain⟨u0,u1,_⟩:=hk;simp only[KK.has]at u0 u1;simp only[Ze4,Qdg,Yj,Qeu,Qwd,Qkl,Qn.Xij,xw,xws,Nat.reduceAdd,Oy,Oz,List.map,Qp,Qm,Q3,D.ev,O1,O2];intro a2 _;have b2:=Qao a2 u1;refine⟨fun h=>?_,fun h=>?_⟩
 ·rw[if_pos (by omega)]
 have hb:¬e 1=0:=by omega
 rw[if_neg hb];refine⟨trivial,fun a3 _ a4 _=>?_⟩;have b0:=Ub (e 0);have b1:=Wp 384 (e 0) u0.1 (by rw[show(2:Int)^384=Qv by decide +kernel];exact u0.2);have c4:e 4=Xa (e 0)-1:=by rw[a4,a3];simp only[Qw,wr];omega
 refine⟨Zac (e 0) (e 1),fun|[i,_,_]=>(i+1).toNat|_=>0,?_,fun e' he hkk hI=>?_⟩
 ·rw[c4];refine⟨by omega,by omega,0,Int.le_refl _,by rw[H7],Int.le_refl _,by omega,?_⟩;rw[Kt,K7];by_cases hc:e 0<2^(Xa (e 0)).toNat
  ·exact L6 u0.1 hc
  ·have:=Qb3 (Xa (e 0)).toNat (e 0) (by omega);omega
 obtain⟨i1,i2,Q,q1,q2,q3,q4,q5⟩:Zac (e 0) (e 1) [e' 5,e' 6,e' 7]:=hI;obtain⟨_,v6,v7,_⟩:Qy [.int .i64,.num,.num] [e' 5,e' 6,e' 7]:=hkk;simp only[KK.has]at v6 v7;rw[he 0 (by decide),he 1 (by decide)];intro a8 _;have b8:=Bt a8;refine⟨fun hs=>?_,fun hs=>?_⟩
 ·obtain⟨n,hi⟩:=Ow (show 0<=e' 5 by omega);have q2n:=q2;have q5n:=q5;rw[hi,show((n:Int)+1).toNat=n+1 by omega]at q2n q5n;have z:=Qes e';intro a9 _ a10 _ a11 _ a12 _ a13 _ a14 _ a15 _ a16 _ a17 _ a18 _ a19 _ a20 _ a21 _ a22 _ a23 _ a24 _ a25 _;refine⟨trivial,fun a26 _ a27 _ a28 _ a29 _=>?_⟩;have b29:=Zi a29;have c9:=Vy 9223372036854775808 a9 (by decide) (by decide);have hbit:e' 3088=e 0/2^n%2:=by rw[a26,if_pos (by omega),hi,O9]
  have hbit01:e 0/2^n%2=0∨e 0/2^n%2=1:=by omega
  have c27:e' 3136=e 0/2^n%2:=by rw[a27,hbit];simp only[wr];omega
  rw[c27]at a28;have hJ:=Zs3 v7 (Xg5 a28 a10 hbit01 (z 7 0)) (Qot a13 a11 a12 (z _ _) (z _ _)) (Qot a16 a14 a15 (z _ _) (z _ _)) (Qot a19 a17 a18 (z _ _) (z _ _)) (Qot a22 a20 a21 (z _ _) (z _ _)) (Qot a25 a23 a24 (z _ _) (z _ _));rw[<- c9]at hJ;have l5:=Qs (e' 7) 5;have hi5:0<=e' 5/\e' 5<384:=by omega
  generalize hbb:e 0/2^n%2=bb at *
  refine⟨fun h1=>?_,fun h1=>?_⟩
  ·intro a30 _;refine⟨trivial,fun a31 _ a32 _ a33 _ a34 _ a35 _=>?_⟩;have c33:=Zxt hi5 a33;refine⟨Zb a34 (by omega),Zk a35 (by omega),fun a36 _ a37 _ a38 _ a39 _=>?_⟩;have c37:=Zyn hi5 a37;refine⟨Zb a38 (by omega),fun a40 _ a41 _ a42 _=>⟨Zb a41 (by omega),Zk a42 (by omega),fun p0 _ p1 _ p2 _ p3 _ p4 _ p5 _ a49 _ a50 _=>?_⟩⟩;have hq:=Zdy v6 hi5 c33 c37 a36 a39 a40 p0 p1 p2 p3 p4 p5 q2 q1;rw[<- a50]at hq;have h49:e' 3812=n-1:=by rw[a49];simp only[Qw,wr];omega
   show Zac (e 0) (e 1) [e' 3812,e' 3813,e' 3330]/\(e' 3812+1).toNat<(e' 5+1).toNat;rw[h49];rw[hi,O9]at hq;have e9:e' 9=1:=by omega
   rw[a30,hJ,e9,Int.one_mul]at a31;have c31:e' 3330=2*e' 7+bb-e 1:=by
    rw[a31,show 2*e' 7+bb-Qv-e 1=(2*e' 7+bb-e 1)-Qv by omega,Int.sub_emod_right];refine Ox ?_ (by omega);have hx:=(Ze9 v7 (by omega:1<=Q0 (e' 7) 5/9223372036854775808))
    omega
   have hx:=(Ze9 v7 (by omega:1<=Q0 (e' 7) 5/9223372036854775808))
   exact⟨Zdk u0.1 (by omega) q1 q2n q5n hq (by rw[hbb];exact c31) (by omega) (by omega),by omega⟩
  ·intro a30 _;have e9:e' 9=0:=by
    have:e' 9=0∨e' 9=1:=by omega
    omega
   rw[hJ,e9,K7,Int.sub_zero]at a30;refine⟨trivial,fun a31 _ a32 _=>?_⟩;have b32:=Qnx a31 a32;refine⟨fun h2=>?_,fun h2=>?_⟩
   ·intro a33' _;rw[hJ,e9,K7,Int.sub_zero]at a33';refine⟨trivial,fun a34' k34 a35' _ a33 _ a34 _ a35 _=>?_⟩;have c33:=Zxt hi5 a33;refine⟨Zb a34 (by omega),Zk a35 (by omega),fun a36 _ a37 _ a38 _ a39 _=>?_⟩;have c37:=Zyn hi5 a37;refine⟨Zb a38 (by omega),fun a40 _ a41 _ a42 _=>⟨Zb a41 (by omega),Zk a42 (by omega),fun p0 _ p1 _ p2 _ p3 _ p4 _ p5 _ a49 _ a50 _=>?_⟩⟩;have hq:=Zdy v6 hi5 c33 c37 a36 a39 a40 p0 p1 p2 p3 p4 p5 q2 q1;rw[<- a50]at hq;have h49:e' 3815=n-1:=by rw[a49];simp only[Qw,wr];omega
    show Zac (e 0) (e 1) [e' 3815,e' 3816,e' 3333]/\(e' 3815+1).toNat<(e' 5+1).toNat;rw[h49];rw[hi,O9]at hq;have c34:e' 3333=2*e' 7+bb-e 1:=by
     rw[a34',a33'];exact Ox (by omega) (by omega)
    exact⟨Zdk u0.1 (by omega) q1 q2n q5n hq (by rw[hbb];exact c34) (by omega) (by omega),by omega⟩
   ·intro a33 _ a34 _;rw[hJ,e9,K7,Int.sub_zero]at a34;have h33:e' 3332=n-1:=by rw[a33];simp only[Qw,wr];omega
    show Zac (e 0) (e 1) [e' 3332,e' 6,e' 3333]/\(e' 3332+1).toNat<(e' 5+1).toNat;rw[h33];exact⟨Zzm u0.1 (by omega) q1 q2n q5n (by rw[hbb];exact a34) (by omega) (by omega),by omega⟩
 ·have h1:e' 5=-1:=by omega
  rw[h1]at q2 q5;have q2':e' 6=Q:=by
   rw[q2];show 1*Q=Q;omega
  have q5':e 0=Q*e 1+e' 7:=by
   have:e 0/1=Q*e 1+e' 7:=q5;rwa[Hg]at this
  have hd:e 0/e 1=Q/\e 0%e 1=e' 7:=by
   rw[q5',Int.add_comm,Int.add_mul_ediv_right _ _ hb,Int.add_mul_emod_self_right,L6 q3 q4,Ox q3 q4];exact⟨by omega,rfl⟩
  rw[hd.1,hd.2,q2']
def X4(l:List Int):Int:=l.foldl (fun a b=>256*a+b) 0
theorem Xhl{a k s:Int}(hk:0<=k/\k<6)(hs:s=([Q0 a 0,Q0 a 1,Q0 a 2,Q0 a 3,Q0 a 4,Q0 a 5]:List Int).getD k.toNat 0):s=Q0 a k.toNat:=by
 have:k=0∨k=1∨k=2∨k=3∨k=4∨k=5:=by omega
 rw[hs];rcases this with h|h|h|h|h|h <;> rw[h] <;> rfl
theorem Xe7{r:Nat}(h:r<=64):min r IntKind.u64.bits=r:=by show min r 64=r;omega
theorem Xgs{i v:Int}(d:Int)(hd:0<d)(hi:0<=i/\i<9223372036854775808)(h:v=Qw .quo .i64 i d):v=i/d:=by
 have h0:0<=i/d:=M4 hi.1 (by omega);have h1:i/d<=i:=K5 _ hi.1;rw[h];simp only[Qw,wr];rw[Kh hi.1];omega
theorem Xhn{i v:Int}(d:Int)(hi:0<=i)(h:v=Qw .rem .i64 i d):v=i%d:=by
 rw[h];simp only[Qw];rw[M1 hi]
theorem Xg9{r v:Int}(hr:0<=r/\r<8)(h:v=Qw .mul .i64 8 r):v=8*r:=by
 rw[h];simp only[Qw,wr];omega
theorem Zqw{a b v:Int}(h:v=Qw .sub .i64 a b)(h0:-9223372036854775808<=a-b/\a-b<=9223372036854775807):v=a-b:=by
 rw[h];simp only[Qw,wr];omega
theorem Zi3{a b v:Int}(h:v=Qw .add .i64 a b)(h0:-9223372036854775808<=a+b/\a+b<=9223372036854775807):v=a+b:=by
 rw[h];simp only[Qw,wr];omega
theorem Zhr{q k v d p0 p1 p2 p3 p4 p5:Int}(hq:0<=q/\q<Qv)(hk:0<=k/\k<6)(hv:v=Q0 q k.toNat+d)
  (h0:p0=if k=((0:Nat):Int)then v else Q0 q 0) (h1:p1=if k=((1:Nat):Int)then v else Q0 q 1) (h2:p2=if k=((2:Nat):Int)then v else Q0 q 2) (h3:p3=if k=((3:Nat):Int)then v else Q0 q 3) (h4:p4=if k=((4:Nat):Int)then v else Q0 q 4) (h5:p5=if k=((5:Nat):Int)then v else Q0 q 5) :
  Y2 [p0,p1,p2,p3,p4,p5]=q+d*2^(64*k.toNat):=by
 have ex:=Zz hq;rw[Jq];have:k=0∨k=1∨k=2∨k=3∨k=4∨k=5:=by omega
 have p0':(2:Int)^(64*0)=1:=rfl;have p1':(2:Int)^(64*1)=18446744073709551616:=Qnj;have p2':(2:Int)^(64*2)=340282366920938463463374607431768211456:=Zzi;have p3':(2:Int)^(64*3)=6277101735386680763835789423207666416102355444464034512896:=by decide +kernel
 have p4':(2:Int)^(64*4)=115792089237316195423570985008687907853269984665640564039457584007913129639936:=by decide +kernel
 have p5':(2:Int)^(64*5)=2135987035920910082395021706169552114602704522356652769947041607822219725780640550022962086936576:=by decide +kernel
 rcases this with h|h|h|h|h|h <;> subst h
 ·rw[show(0:Int).toNat=0 from rfl]at *
  rw[p0',h0,h1,h2,h3,h4,h5];simp[hv];omega
 ·rw[show(1:Int).toNat=1 from rfl]at *
  rw[p1',h0,h1,h2,h3,h4,h5];simp[hv];omega
 ·rw[show(2:Int).toNat=2 from rfl]at *
  rw[p2',h0,h1,h2,h3,h4,h5];simp[hv];omega
 ·rw[show(3:Int).toNat=3 from rfl]at *
  rw[p3',h0,h1,h2,h3,h4,h5];simp[hv];omega
 ·rw[show(4:Int).toNat=4 from rfl]at *
  rw[p4',h0,h1,h2,h3,h4,h5];simp[hv];omega
 ·rw[show(5:Int).toNat=5 from rfl]at *
  rw[p5',h0,h1,h2,h3,h4,h5];simp[hv];omega
theorem Xa3{v c m:Int}(hc:0<=c)(hm:0<=m/\m<=64)(h:v=Qw .shl .u64 c m)(hlt:c*2^m.toNat<18446744073709551616):v=c*2^m.toNat:=by
 have h1:=Qjk _ h rfl;rw[Xe7 (by omega),L0]at h1;have:(0:Int)<=c*2^m.toNat:=Ks hc (Int.pow_nonneg (by decide));rw[h1];show c*2^m.toNat%18446744073709551616=_;exact Ox this hlt
theorem Zp5{q i k r m s sh v c p0 p1 p2 p3 p4 p5:Int}(hq:0<=q/\q<Qv)(hi:0<=i/\i<48)(hk:k=i/8)(hr:r=i%8)(hm:m=8*r)(hc:0<=c/\c<=255)
  (hs:s=([Q0 q 0,Q0 q 1,Q0 q 2,Q0 q 3,Q0 q 4,Q0 q 5]:List Int).getD k.toNat 0) (hsh:sh=Qw .shl .u64 c m) (hv:v=Qw .or .u64 s sh)
  (h0:p0=if k=((0:Nat):Int)then v else Q0 q 0) (h1:p1=if k=((1:Nat):Int)then v else Q0 q 1) (h2:p2=if k=((2:Nat):Int)then v else Q0 q 2) (h3:p3=if k=((3:Nat):Int)then v else Q0 q 3) (h4:p4=if k=((4:Nat):Int)then v else Q0 q 4) (h5:p5=if k=((5:Nat):Int)then v else Q0 q 5)
  {Q:Int} (hd:q=2^(8*(i+1).toNat)*Q) (hQ:0<=Q):Y2 [p0,p1,p2,p3,p4,p5]=q+c*2^(8*i.toNat):=by
 have hsl:=Xhl (by omega) hs;have hpr:(0:Int)<2^(8*r.toNat):=L8 (by decide);have e8:(2:Int)^(8*r.toNat+8)=2^(8*r.toNat)*256:=by rw[L9];rfl
 have e1:q/2^(64*k.toNat)=2^(8*r.toNat+8)*Q:=by
  rw[hd,show 8*(i+1).toNat=64*k.toNat+(8*r.toNat+8) by omega,L9,Kx];exact Int.mul_ediv_cancel_left _ (Int.ne_of_gt (L8 (by decide)))
 have e2:(18446744073709551616:Int)=2^(8*r.toNat+8)*2^(56-8*r.toNat):=by
  rw[<- L9,show 8*r.toNat+8+(56-8*r.toNat)=64 by omega,Qnj]
 have e3:s=2^(8*r.toNat+8)*(Q%2^(56-8*r.toNat)):=by
  rw[hsl,Qrq,e1,e2,Int.mul_emod_mul_of_pos _ _ (by rw[e8];omega)]
 have hp2:(0:Int)<2^(56-8*r.toNat):=L8 (by decide);have hw0:=Mr Q (show(2:Int)^(56-8*r.toNat)≠0 by omega);have hw1:=Mt Q hp2;have h6:2^(8*r.toNat+8)*(Q%2^(56-8*r.toNat)+1)<=2^(8*r.toNat+8)*2^(56-8*r.toNat):=Int.mul_le_mul_of_nonneg_left (by omega) (by rw[e8];omega);rw[<- e2,Int.mul_add,<- e3,Ha,e8]at h6;have hcb:c*2^(8*r.toNat)<=255*2^(8*r.toNat):=Mz hc.2 (by omega);have hs0:0<=s:=by rw[hsl];exact(Qs q _).1
 have hc0:0<=c*2^(8*r.toNat):=Ks hc.1 (by omega);have hm':m.toNat=8*r.toNat:=by omega
 have hsh':=Xa3 hc.1 (by omega) hsh (by rw[hm'];omega);rw[hm']at hsh';have hvs:v=s+c*2^(8*r.toNat):=by
  rw[hsh']at hv;refine Qah (k:=8*r.toNat+8) (q:=Q%2^(56-8*r.toNat)) hv (by rw[L0,e3,Mw];rfl) hw0 ⟨hc0,?_⟩ (by omega);rw[L0];show _<(2:Int)^(8*r.toNat+8);rw[e8];omega
 have:=Zhr (d:=c*2^(8*r.toNat)) hq (by omega) (hvs.trans (by rw[hsl])) h0 h1 h2 h3 h4 h5;rw[this,Kx,<- L9,show 8*r.toNat+64*k.toNat=8*i.toNat by omega]
noncomputable def Qs6(f:FuncId):K:={fn:=f,ext:=false,ins:=[.lst (.int .u8)],outs:=[oN,oI],pre:=fun _=>True,sem:=fun|[l]=>if(dec l).length<=48 then[X4 (dec l),0]else[0,3]|_=>[] }
theorem Zip(l:List Int)(c:Int):X4 (l++[c])=256*X4 l+c:=by simp[X4]
theorem Qof{l:List Int}{i:Nat}(h:i<l.length):X4 (l.take (i+1))=256*X4 (l.take i)+l.getD i 0:=by
 rw[M8 h,Zip,Ov,O4 h];rfl
theorem Zia{l:List Int}(h:∀z∈l,(0:Int)<=z/\z<=255):0<=X4 l/\X4 l<2^(8*l.length):=by
 suffices hs:∀n,n<=l.length->0<=X4 (l.take n)/\X4 (l.take n)<2^(8*n) by
  have:=hs l.length (Nat.le_refl _);rwa[O8 (Nat.le_refl _)]at this
 intro n
 induction n with
 |zero=>intro _;exact⟨Int.le_refl _,(show(0:Int)<1 by decide)⟩
 |succ n ih =>
  intro hn;obtain⟨h1,h2⟩:=ih (by omega);have hz:=h _ (M9 (show n<l.length by omega));rw[Qof (by omega),Ov,O4 (by omega),Kk,show 8*(n+1)=8*n+8 by omega,L9,show(2:Int)^8=256 from rfl];omega
theorem Xf2{l:List Int}(h:(LK.int .u8).hasL l){i:Nat}(hi:i<l.length):0<=l.getD i 0/\l.getD i 0<=255:=by
 rw[Ov,O4 hi];exact h.2 _ (M9 hi)
theorem Zfu{l:List Int}{i:Nat}{o o':Int}(hl:(LK.int .u8).hasL l)(hi:i<l.length)(ho:o=X4 (l.take i)*2^(8*(l.length-i)))(ho':o'=o+l.getD i 0*2^(8*(l.length-1-i))):o'=X4 (l.take (i+1))*2^(8*(l.length-(i+1))):=by
 rw[ho',ho,Qof hi,show 8*(l.length-i)=8*(l.length-1-i)+8 by omega,show 8*(l.length-(i+1))=8*(l.length-1-i) by omega,L9,show(2:Int)^8=256 from rfl];generalize (2:Int)^(8*(l.length-1-i))=z
 grind
theorem Zqy{l:List Int}{i:Nat}{o:Int}(hi:i<l.length)(ho:o=X4 (l.take i)*2^(8*(l.length-i))){k:Int}(hk:k=l.length-1-i):o=2^(8*(k+1).toNat)*X4 (l.take i):=by
 rw[ho,Mw,show l.length-i=(k+1).toNat by omega]
theorem Zmm{l:List Int}(h:(LK.int .u8).hasL l)(n:Nat):0<=X4 (l.take n):=(Zia fun z hz=>h.2 z (Hv hz)).1
def Zlp:Qn:=(.l 1 kI (.llen (.v 0))
(.l 2 .bit (.c .gtr (.v 1) (.n 48))
(.split 2
(.ret [.n 0,.n 3])
(.l 3 kI (.llen (.v 0))
(.loop [.n 0,.n 0] [kI,.num] 4
(.l 6 .bit (.c .lss (.v 4) (.v 3))
(.split 6
(.l 7 kI (.llen (.v 0))
(.l 8 .bit (.c .leq (.n 0) (.v 4))
(.l 9 .bit (.c .lss (.v 4) (.v 7))
(.nz (.v 8)
(.nz (.v 9)
(.l 10 kB (.lget (.v 0) (.v 4))
(.l 11 kI (.llen (.v 0))
(.l 12 kI (.b .sub .i64 (.v 11) (.n 1))
(.l 13 kI (.b .sub .i64 (.v 12) (.v 4))
(.l 62 kI (.b .quo .i64 (.v 13) (.n 8))
(.l 110 .bit (.c .leq (.n 0) (.v 62))
(.l 111 .bit (.c .lss (.v 62) (.n 6))
(.nz (.v 110)
(.nz (.v 111)
(.l 158 kU (.sel (.v 62) [.m 5 0,.m 5 1,.m 5 2,.m 5 3,.m 5 4,.m 5 5])
(.l 350 kI (.b .rem .i64 (.v 13) (.n 8))
(.l 398 kI (.b .mul .i64 (.n 8) (.v 350))
(.l 446 .bit (.c .leq (.n 0) (.v 398))
(.l 447 kU (.b .shl .u64 (.v 10) (.v 398))
(.nz (.v 446)
(.l 494 kU (.b .or .u64 (.v 158) (.v 447))
(.l 542 .bit (.c .leq (.n 0) (.v 62))
(.l 543 .bit (.c .lss (.v 62) (.n 6))
(.nz (.v 542)
(.nz (.v 543)
(.l 590 kU (.put (.v 62) 0 (.v 494) (.m 5 0))
(.l 591 kU (.put (.v 62) 1 (.v 494) (.m 5 1))
(.l 592 kU (.put (.v 62) 2 (.v 494) (.m 5 2))
(.l 593 kU (.put (.v 62) 3 (.v 494) (.m 5 3))
(.l 594 kU (.put (.v 62) 4 (.v 494) (.m 5 4))
(.l 595 kU (.put (.v 62) 5 (.v 494) (.m 5 5))
(.l 638 kI (.b .add .i64 (.v 4) (.n 1))
(.l 639 .num (.join [.v 590,.v 591,.v 592,.v 593,.v 594,.v 595])
(.back 0 [.v 638,.v 639]))))))))))))))))))))))))))))))))))
(.ret [.v 5,.n 0]))))))))
theorem Zg7(f:FuncId)(e:Nat->Int)(hk:Qy [.lst (.int .u8)] [e 0]):Zlp.Xij [] ⟨fun ys=>ys=(Qs6 f).sem [e 0],[]⟩ e:=by
 obtain⟨l,d0⟩:∃l,dec (e 0)=l:=⟨_,rfl⟩
 have hl:(LK.int .u8).hasL l:=by rw[<- d0];exact hk.1
 show Zlp.Xij _ ⟨fun ys=>ys=if(dec (e 0)).length<=48 then[X4 (dec (e 0)),0]else[0,3],[]⟩ e;rw[d0];clear hk;intro a1 _ a2 _;have v1:e 1=(l.length:Int):=by rw[<- d0];exact a1
 have b2:=Qnw a2;simp only[Qm,Qp]at b2;refine⟨fun h=>?_,fun h=>?_⟩
 ·have:=Zc b2 h;rw[if_neg (by omega)];rfl
 have hn:l.length<=48:=by have:=Xf b2 h;omega
 rw[if_pos hn];intro a3 _;have v3:e 3=(l.length:Int):=by rw[<- d0];exact a3
 refine⟨fun|[i,o]=>(0<=i/\i<=l.length)/\o=X4 (l.take i.toNat)*2^(8*(l.length-i.toNat))|_=>False,fun|[i,_]=>(l.length-i).toNat|_=>0,⟨⟨Int.le_refl _,(show(0:Int)<=l.length by omega)⟩,(show(0:Int)=0*_ by rw[K7])⟩,fun e' he hkk hI=>?_⟩;obtain⟨⟨i0,i1⟩,q5⟩:(0<=e' 4/\e' 4<=l.length)/\e' 5=X4 (l.take (e' 4).toNat)*2^(8*(l.length-(e' 4).toNat)):=hI;have k5:0<=e' 5/\e' 5<Qv:=hkk.2.1;have d0:=(congrArg dec (he 0 (by decide))).trans d0;have v3:=(he 3 (by decide)).trans v3;clear he hkk a1 a2 a3 v1 b2 h;intro a6 _;have b6:=Va a6;simp only[Qm]at b6;refine⟨fun h=>?_,fun h=>?_⟩
 ·have c6:e' 4<l.length:=by have:=Zc b6 h;omega
  intro a7 _ a8 _ a9 _;have v7:e' 7=(l.length:Int):=by rw[<- d0];exact a7
  refine⟨Zb a8 i0,Zk a9 (by show e' 4<e' 7;omega),fun a10 _ a11 _ a12 _ a13 _ a62 _ a110 _ a111 _=>?_⟩;have v10:e' 10=l.getD (e' 4).toNat 0:=by rw[<- d0];exact a10
  have v11:e' 11=(l.length:Int):=by rw[<- d0];exact a11
  have v12:=Zqw (a:=e' 11) (b:=1) a12 (by omega);have v13:=Zqw (a:=e' 12) (b:=e' 4) a13 (by omega);have v62:=Xgs (i:=e' 13) 8 (by decide) (by omega) a62;refine⟨Zb a110 (by show 0<=e' 62;omega),Zk a111 (by show e' 62<6;omega),fun a158 _ a350 _ a398 _ a446 _ a447 _=>?_⟩;have v350:=Xhn (i:=e' 13) 8 (by omega) a350;have v398:=Xg9 (r:=e' 350) (by omega) a398;refine⟨Zb a446 (by show 0<=e' 398;omega),fun a494 _ a542 _ a543 _=>⟨Zb a542 (by show 0<=e' 62;omega),Zk a543 (by show e' 62<6;omega),fun a590 _ a591 _ a592 _ a593 _ a594 _ a595 _ a638 _ a639 _=>?_⟩⟩;have hc:=Xf2 hl (i:=(e' 4).toNat) (by omega);rw[<- v10]at hc;have hp:=Zp5 k5 (i:=e' 13) (by omega) v62 v350 v398 hc a158 a447 a494 a590 a591 a592 a593 a594 a595 (Zqy (by omega) q5 (by omega)) (Zmm hl _);have v638:=Zi3 (a:=e' 4) (b:=1) a638 (by omega);show((0<=e' 638/\e' 638<=l.length)/\e' 639=X4 (l.take (e' 638).toNat)*2^(8*(l.length-(e' 638).toNat)))/\(l.length-e' 638).toNat<(l.length-e' 4).toNat;refine⟨⟨by omega,?_⟩,by omega⟩;rw[show(e' 638).toNat=(e' 4).toNat+1 by omega];refine Zfu hl (by omega) q5 ?_;rw[<- v10,show l.length-1-(e' 4).toNat=(e' 13).toNat by omega];exact(show e' 639=Y2 [e' 590,e' 591,e' 592,e' 593,e' 594,e' 595]from a639).trans hp
 ·have c6:e' 4=l.length:=by have:=Xf b6 h;omega
  show[e' 5,0]=[X4 l,0]
  rw[q5,c6,O9,O8 (Nat.le_refl _),Nat.sub_self,Nat.mul_zero,H8,Ha]
end Go.Sx

namespace Go.Sx
open Go Go.RowKit
set_option maxRecDepth 100000
noncomputable def Qrw(f:FuncId):K:={fn:=f,ext:=false,ins:=[iN],outs:=[oB],pre:=fun _=>True,sem:=fun|[a]=>[bj (a<bP)]|_=>[] }
end Go.Sx
