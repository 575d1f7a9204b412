/- Part Gj of the proof. -/
import Derived.Test.YtlloonffibabfaaGreatDoorGi
set_option linter.unusedVariables false
set_option linter.unusedSimpArgs false
namespace Go.Sx
open Go Go.RowKit
set_option maxRecDepth 100000
def Qr7(im ia b:Nat)(x low n0 y0 y1 y2 y3 y4 y5 n1 n2 n3 n4 n5 t0 t1 t2 t3 t4 t5 t6:A)(k:A->A->A->A->A->A->A->Qn):Qn :=
 Qpz im ia x [(y0,t0,b,b+2,b+5),(y1,t1,b+8,b+10,b+13),(y2,t2,b+16,b+18,b+21),(y3,t3,b+24,b+26,b+29),(y4,t4,b+32,b+34,b+37),(y5,t5,b+40,b+42,b+45)] (.lit 0) fun c =>
 .l (b+48) (.int .u64) (.bin .add .u64 t6 c)
 (.l (b+49) (.int .u64) (.bin .mul .u64 (.v (b+5)) low)
 (.req im [.v (b+49),n0] (.l (b+50) (.int .u64) (.app im 0 [.v (b+49),n0]) (.l (b+51) (.int .u64) (.app im 1 [.v (b+49),n0])
 (.req ia [.v (b+51),.v (b+5),.lit 0] (.l (b+52) (.int .u64) (.app ia 0 [.v (b+51),.v (b+5),.lit 0]) (.l (b+53) (.int .u64) (.app ia 1 [.v (b+51),.v (b+5),.lit 0])
 (.l (b+54) (.int .u64) (.bin .add .u64 (.v (b+50)) (.v (b+53)))
 (Qpz im ia (.v (b+49)) [(n1,.v (b+13),b+55,b+57,b+60),(n2,.v (b+21),b+63,b+65,b+68),(n3,.v (b+29),b+71,b+73,b+76),(n4,.v (b+37),b+79,b+81,b+84),(n5,.v (b+45),b+87,b+89,b+92)] (.v (b+54)) fun c' =>
 .req ia [.v (b+48),c',.lit 0] (.l (b+95) (.int .u64) (.app ia 0 [.v (b+48),c',.lit 0]) (.l (b+96) (.int .u64) (.app ia 1 [.v (b+48),c',.lit 0])
 (k (.v (b+60)) (.v (b+68)) (.v (b+76)) (.v (b+84)) (.v (b+92)) (.v (b+95)) (.v (b+96))))))))))))))
theorem Qrn{xB qn0 qJ V jl l0 j5 t6 c s6 h l' cc ca j2 c' t5' t6' jt:Int}
  (hqz:(qn0+l0)%18446744073709551616=0) (hqn:0<=qn0/\qn0<=18446744073709551615*18446744073709551615)
  (hV:V=jt+Qv*t6) (u6:U t6) (hjl:jl=l0+18446744073709551616*j5) (hj5:0<=j5) (ul:U l0) (uc:U c) (uc':U c') (hb:V+xB<Qv*18446744073709551616)
  (S1:jl+Qv*c=xB+jt+0) (a1:s6=wr .u64 (t6+c))
  (m1:h=qn0/18446744073709551616) (m2:l'=qn0%18446744073709551616) (m4:cc=(l'+l0+0)/18446744073709551616) (m5:ca=wr .u64 (h+cc))
  (S2:j2+2135987035920910082395021706169552114602704522356652769947041607822219725780640550022962086936576*c'=qJ+j5+ca)
  (b1:t5'=(s6+c'+0)%18446744073709551616) (b2:t6'=(s6+c'+0)/18446744073709551616) :
  18446744073709551616*(j2+2135987035920910082395021706169552114602704522356652769947041607822219725780640550022962086936576*t5'+Qv*t6')=V+xB+(qn0+18446744073709551616*qJ)/\U t5'/\0<=t6'/\t6'<=2:=by
 unfold U Qv at *
 simp only[wr]at *
 omega
section
variable {T:List K}{f g:FuncId}{im ia b:Nat}{G:Gl}{e:Nat->Int}
theorem Vo{x low n0 y0 y1 y2 y3 y4 y5 n1 n2 n3 n4 n5 t0 t1 t2 t3 t4 t5 t6:A}{k:A->A->A->A->A->A->A->Qn}{B N V:Int}(hm:T[im]?=some (Wu f))(ha:T[ia]?=some (X1 g))(bx:U (x.ev e))
  (hy:Qbb e [y0,y1,y2,y3,y4,y5]) (hn:Qbb e [n0,n1,n2,n3,n4,n5]) (ht:Qbb e [t0,t1,t2,t3,t4,t5,t6])
  (hB:B=jo e [y0,y1,y2,y3,y4,y5]) (hN:N=jo e [n0,n1,n2,n3,n4,n5]) (hV:V=jo e [t0,t1,t2,t3,t4,t5]+Qv*t6.ev e) (hVB:V<B+N) (hBN:B+N<Qv)
  (hl:n0.ev e*low.ev e%18446744073709551616=18446744073709551615)
  (hk:∀ V' q,Qbb e [.v (b+60),.v (b+68),.v (b+76),.v (b+84),.v (b+92),.v (b+95),.v (b+96)] ->
   V'=jo e [.v (b+60),.v (b+68),.v (b+76),.v (b+84),.v (b+92),.v (b+95)]+Qv*e (b+96)->V'<B+N->0<=V'->0<=q/\q<18446744073709551616->18446744073709551616*V'=V+x.ev e*B+q*N ->
   (k (.v (b+60)) (.v (b+68)) (.v (b+76)) (.v (b+84)) (.v (b+92)) (.v (b+95)) (.v (b+96))).Xij T G e) :
  (Qr7 im ia b x low n0 y0 y1 y2 y3 y4 y5 n1 n2 n3 n4 n5 t0 t1 t2 t3 t4 t5 t6 k).Xij T G e:=by
 unfold Qr7;obtain⟨ht0,ht1,ht2,ht3,ht4,ht5,ht6,_⟩:=ht;obtain⟨hn0,hn1,hn2,hn3,hn4,hn5,_⟩:=hn;have hB0:0<=B:=by
  obtain⟨z0,z1,z2,z3,z4,z5,_⟩:=hy;unfold U at z0 z1 z2 z3 z4 z5;rw[hB];simp only[jo];omega
 have hN0:0<=N:=by
  unfold U at hn0 hn1 hn2 hn3 hn4 hn5;rw[hN];simp only[jo];omega
 have hxb:A.ev e x*B<=18446744073709551615*B:=Mz (by have:=bx.2;omega) hB0;refine Br hm ha bx _ _ _ hy ⟨ht0,ht1,ht2,ht3,ht4,ht5,trivial⟩ (by show U 0;unfold U;omega) fun g1 g2 g3=>?_
 simp only[List.map,Qhc,O0,Mf,Qbb,Qm]at g1 g2 g3;obtain⟨l0,l1,l2,l3,l4,l5,_⟩:=g1;simp only[Qhc];have ht6':=ht6;refine fun a1 k1 a3 k3=>⟨by simp only[hm,Wu],fun a4 _ a5 _=>⟨by simp only[ha,X1,List.map,Qp];omega,fun _ _ a7 _ a8 k8=>?_⟩⟩
 have k3':U (e (b+49)):=Zd k3;have k8':U (e (b+54)):=Zd k8;refine Br hm ha (by exact k3') _ _ _ ⟨hn1,hn2,hn3,hn4,hn5,trivial⟩ ⟨l1,l2,l3,l4,l5,trivial⟩ (by exact k8') fun p1 p2 p3=>?_
 simp only[List.map,Qhc,O0,Mf,Qbb,Qm]at p1 p2 p3;obtain⟨r1,r2,r3,r4,r5,_⟩:=p1;simp only[Qhc];refine⟨by simp only[ha,X1,List.map,Qp];omega,fun b1 _ b2 _=>?_⟩;simp only[D.ev,ha,hm,X1,Wu,List.map,O1,O2,Qm,Qp,Qw]at a1 a3 a4 a5 a7 a8 b1 b2;have hz:=Zqi a3 hl;have e6:Qvl (0+1+1+1+1+1+1)=Qv:=by decide +kernel
 have e5:Qvl (0+1+1+1+1+1)=2135987035920910082395021706169552114602704522356652769947041607822219725780640550022962086936576:=by decide +kernel
 rw[e6,show(A.lit 0).ev e=0 from rfl]at g3;rw[e5]at p3;have hqn:=Qyi k3' hn0;have hxB:A.ev e x*jo e [y0,y1,y2,y3,y4,y5]=A.ev e x*B:=by rw[hB]
 have hvx:V+A.ev e x*jo e [y0,y1,y2,y3,y4,y5]<Qv*18446744073709551616:=by
  rw[hxB];generalize A.ev e x*B=z at *
  clear g3 p3 hz a1 a3 a4 a5 a7 a8 b1 b2 hqn hV hN hB hk;unfold Qv at *
  omega
 have hj5:0<=jo e [.v (b+13),.v (b+21),.v (b+29),.v (b+37),.v (b+45)]:=by
  unfold U at l1 l2 l3 l4 l5;simp only[jo,Qm];omega
 obtain⟨s1,s2,s3,s4⟩:=Qrn hz hqn hV ht6 (show jo e [.v (b+5),.v (b+13),.v (b+21),.v (b+29),.v (b+37),.v (b+45)]=_ from rfl) hj5 l0 g2 p2 hvx g3 a1 a4 a5 a7 a8 p3 b1 b2;have hqN:e (b+49)*N=e (b+49)*n0.ev e+18446744073709551616*(e (b+49)*jo e [n1,n2,n3,n4,n5]):=by
  rw[hN,show jo e [n0,n1,n2,n3,n4,n5]=n0.ev e+18446744073709551616*jo e [n1,n2,n3,n4,n5]from rfl,Int.mul_add,Int.mul_left_comm]
 rw[<- hqN]at s1;have s1':18446744073709551616*(jo e [.v (b+60),.v (b+68),.v (b+76),.v (b+84),.v (b+92),.v (b+95)]+Qv*e (b+96))=V+A.ev e x*B+e (b+49)*N:=by
  rw[hxB]at s1;rw[<- s1];simp only[jo,Qm];omega
 have m2:e (b+49)*N<=18446744073709551615*N:=Mz (by have:=k3'.2;omega) hN0;refine hk _ _ ⟨r1,r2,r3,r4,r5,s2,by exact⟨s3,by show e (b+96)<_;omega⟩,trivial⟩ rfl ?_ ?_ k3' s1'
 ·generalize jo e [.v (b+60),.v (b+68),.v (b+76),.v (b+84),.v (b+92),.v (b+95)]+Qv*e (b+96)=V' at *
  omega
 ·unfold U at r1 r2 r3 r4 r5 s2;have s3':0<=e (b+96):=s3;unfold Qv;simp only[jo,Qm];omega
end
def Qfa(i b:Nat)(t0 t1 t2 t3 t4 t5 t6:A)(k:A->A->A->A->A->A->A->Qn):Qn :=
 Qr7 1 0 b (.m 1 i) (.lit 9940570264628428797) (.lit 13402431016077863595) (.m 0 0) (.m 0 1) (.m 0 2) (.m 0 3) (.m 0 4) (.m 0 5) (.lit 2210141511517208575) (.lit 7435674573564081700) (.lit 7239337960414712511) (.lit 5412103778470702295) (.lit 1873798617647539866) t0 t1 t2 t3 t4 t5 t6 k
def Zw6:Qn :=
 Qfa 0 2 (.lit 0) (.lit 0) (.lit 0) (.lit 0) (.lit 0) (.lit 0) (.lit 0) fun t0 t1 t2 t3 t4 t5 t6 =>
 Qfa 1 99 t0 t1 t2 t3 t4 t5 t6 fun t0 t1 t2 t3 t4 t5 t6 =>
 Qfa 2 196 t0 t1 t2 t3 t4 t5 t6 fun t0 t1 t2 t3 t4 t5 t6 =>
 Qfa 3 293 t0 t1 t2 t3 t4 t5 t6 fun t0 t1 t2 t3 t4 t5 t6 =>
 Qfa 4 390 t0 t1 t2 t3 t4 t5 t6 fun t0 t1 t2 t3 t4 t5 t6 =>
 Qfa 5 487 t0 t1 t2 t3 t4 t5 t6 fun t0 t1 t2 t3 t4 t5 _ =>
 (.l 584 .num (.join [t0,t1,t2,t3,t4,t5])
 (.req 2 [.v 584]
 (.l 585 .num (.app 2 0 [.v 584])
 (.ret [.v 585]))))
theorem Zmc:jo (fun _=>0) [.lit 13402431016077863595,.lit 2210141511517208575,.lit 7435674573564081700,.lit 7239337960414712511,.lit 5412103778470702295,.lit 1873798617647539866]=bP:=by decide
theorem Zg9(f1 f2 f3 f:FuncId)(e:Nat->Int)(hk:Qy [.num,.num] [e 0,e 1])(hp:(Qft f).pre [e 0,e 1]) :
  Zw6.Xij [X1 f1,Wu f2,Qiu f3] ⟨fun ys=>ys=(Qft f).sem [e 0,e 1],[]⟩ e:=by
 obtain⟨h0,h1,_⟩:=hk;have hab:e 0<bP:=hp;have hx:∀i j,U ((A.m i j).ev e):=Qes e;have hb6:=jo6 h0 e 0 rfl;have hn6:jo e [.lit 13402431016077863595,.lit 2210141511517208575,.lit 7435674573564081700,.lit 7239337960414712511,.lit 5412103778470702295,.lit 1873798617647539866]=bP:=Zmc;have hB:Qbb e [.m 0 0,.m 0 1,.m 0 2,.m 0 3,.m 0 4,.m 0 5]:=⟨hx _ _,hx _ _,hx _ _,hx _ _,hx _ _,hx _ _,trivial⟩
 have hN:Qbb e [.lit 13402431016077863595,.lit 2210141511517208575,.lit 7435674573564081700,.lit 7239337960414712511,.lit 5412103778470702295,.lit 1873798617647539866]:=by
  refine⟨?_,?_,?_,?_,?_,?_,trivial⟩ <;> (show U _;simp only[Qp,U];decide)
 have hl0:(A.lit 13402431016077863595).ev e*(A.lit 9940570264628428797).ev e%18446744073709551616=18446744073709551615:=by simp only[Qp];decide
 have hz:U ((A.lit 0).ev e):=by show U 0;unfold U;omega
 have hbn:e 0+bP<Qv:=by have:=Zey;omega
 have hb0:0<=e 0:=h0.1;have hbp:=Q5;unfold Zw6 Qfa;refine Vo (V:=0) rfl rfl (hx _ _) hB hN ⟨hz,hz,hz,hz,hz,hz,hz,trivial⟩ hb6.symm hn6.symm (by simp only[jo,Qp];omega) (by omega) hbn hl0 fun V1 q0 t1 v1 b1 _ k1 E1=>?_
 refine Vo rfl rfl (hx _ _) hB hN t1 hb6.symm hn6.symm v1 b1 hbn hl0 fun V2 q1 t2 v2 b2 _ k2 E2=>?_
 refine Vo rfl rfl (hx _ _) hB hN t2 hb6.symm hn6.symm v2 b2 hbn hl0 fun V3 q2 t3 v3 b3 _ k3 E3=>?_
 refine Vo rfl rfl (hx _ _) hB hN t3 hb6.symm hn6.symm v3 b3 hbn hl0 fun V4 q3 t4 v4 b4 _ k4 E4=>?_
 refine Vo rfl rfl (hx _ _) hB hN t4 hb6.symm hn6.symm v4 b4 hbn hl0 fun V5 q4 t5 v5 b5 _ k5 E5=>?_
 refine Vo rfl rfl (hx _ _) hB hN t5 hb6.symm hn6.symm v5 b5 hbn hl0 fun V6 q5 t6 v6 b6 p6 k6 E6=>?_
 have ha:e 1=wd (Q0 (e 1) 0) (Q0 (e 1) 1) (Q0 (e 1) 2) (Q0 (e 1) 3) (Q0 (e 1) 4) (Q0 (e 1) 5):=Zz h1;have Jy:=Quo E1 E2 E3 E4 E5 E6 ha;have hq:=Zwr k1 k2 k3 k4 k5 k6;have hlt:=Zbr h1 h0 hq (by decide) (.inr hab) Jy;have hmv:=Quc Bj Jy;obtain⟨u0,u1,u2,u3,u4,u5,u6,_⟩:=t6;have hv6:e 583=0/\V6=jo e [.v 547,.v 555,.v 563,.v 571,.v 579,.v 582]:=by
  have hj:0<=jo e [.v 547,.v 555,.v 563,.v 571,.v 579,.v 582]:=by
   have w0:U (e 547):=u0;have w1:U (e 555):=u1;have w2:U (e 563):=u2;have w3:U (e 571):=u3;have w4:U (e 579):=u4;have w5:U (e 582):=u5;unfold U at w0 w1 w2 w3 w4 w5;simp only[jo,Qm];omega
  have hu:0<=e 583:=u6.1;have hv6':V6=jo e [.v 547,.v 555,.v 563,.v 571,.v 579,.v 582]+Qv*e 583:=v6;have hN2:=Zey;generalize jo e [.v 547,.v 555,.v 563,.v 571,.v 579,.v 582]=J at *
  unfold Qv at hv6' hN2;omega
 refine fun c1 _=>⟨trivial,fun c2 _=>?_⟩
 have c1':e 584=V6:=by
  rw[c1,hv6.2];exact Qr9 e [.v 547,.v 555,.v 563,.v 571,.v 579,.v 582]
 have c2':e 585=if bP<=e 584 then e 584-bP else e 584:=c2
 show[e 585]=[Xs bP (e 0) (e 1)]
 have hcm:Xs bP (e 0) (e 1)=Xs bP (e 1) (e 0):=by unfold Xs;rw[Mw (e 0)]
 rw[c2',c1',hcm,<- hmv];congr 1;split
 ·exact(Jd 1 (by omega) (by omega) (by omega)).symm
 ·exact(Ox p6 (by omega)).symm
theorem Zz4{v s p:Int}(h:v=if p<=s then s-p else s)(h0:0<=s)(h1:s<2*p):v=s%p:=by
 rw[h];split
 ·exact(Jd 1 (by omega) (by omega) (by omega)).symm
 ·exact(Ox h0 (by omega)).symm
theorem Qcg{s c x y i:Int}(hs:s=(x-y-i)%18446744073709551616)(hc:c=if x<y+i then 1 else 0)(hx:0<=x/\x<18446744073709551616)(hy:0<=y/\y<18446744073709551616)(hi:0<=i/\i<=1) :
  s=x-y-i+18446744073709551616*c/\(0<=c/\c<=1)/\(0<=s/\s<18446744073709551616):=by split at hc <;> omega
theorem Qcj{s c x y i:Int}(hs:s=(x+y+i)%18446744073709551616)(hc:c=(x+y+i)/18446744073709551616)(hx:0<=x/\x<18446744073709551616)(hy:0<=y/\y<18446744073709551616)(hi:0<=i/\i<=1) :
  s+18446744073709551616*c=x+y+i/\(0<=c/\c<=1)/\(0<=s/\s<18446744073709551616):=by omega
theorem Xeh{x0 x1 x2 x3 x4 x5 y0 y1 y2 y3 y4 y5 s0 s1 s2 s3 s4 s5 c0 c1 c2 c3 c4 c5:Int}(h0:s0=x0-y0-0+18446744073709551616*c0)(h1:s1=x1-y1-c0+18446744073709551616*c1)(h2:s2=x2-y2-c1+18446744073709551616*c2)(h3:s3=x3-y3-c2+18446744073709551616*c3)(h4:s4=x4-y4-c3+18446744073709551616*c4)(h5:s5=x5-y5-c4+18446744073709551616*c5) :
  s0+18446744073709551616*(s1+18446744073709551616*(s2+18446744073709551616*(s3+18446744073709551616*(s4+18446744073709551616*s5))))=(x0+18446744073709551616*(x1+18446744073709551616*(x2+18446744073709551616*(x3+18446744073709551616*(x4+18446744073709551616*x5)))))-(y0+18446744073709551616*(y1+18446744073709551616*(y2+18446744073709551616*(y3+18446744073709551616*(y4+18446744073709551616*y5)))))+39402006196394479212279040100143613805079739270465446667948293404245721771497210611414266254884915640806627990306816*c5:=by omega
theorem Xe2{x0 x1 x2 x3 x4 x5 y0 y1 y2 y3 y4 y5 s0 s1 s2 s3 s4 s5 c0 c1 c2 c3 c4 c5:Int}(h0:s0+18446744073709551616*c0=x0+y0+0)(h1:s1+18446744073709551616*c1=x1+y1+c0)(h2:s2+18446744073709551616*c2=x2+y2+c1)(h3:s3+18446744073709551616*c3=x3+y3+c2)(h4:s4+18446744073709551616*c4=x4+y4+c3)(h5:s5+18446744073709551616*c5=x5+y5+c4) :
  s0+18446744073709551616*(s1+18446744073709551616*(s2+18446744073709551616*(s3+18446744073709551616*(s4+18446744073709551616*s5))))+39402006196394479212279040100143613805079739270465446667948293404245721771497210611414266254884915640806627990306816*c5=(x0+18446744073709551616*(x1+18446744073709551616*(x2+18446744073709551616*(x3+18446744073709551616*(x4+18446744073709551616*x5)))))+(y0+18446744073709551616*(y1+18446744073709551616*(y2+18446744073709551616*(y3+18446744073709551616*(y4+18446744073709551616*y5))))):=by omega
theorem Zs6{s0 s1 s2 s3 s4 s5:Int}(h0:0<=s0/\s0<18446744073709551616)(h1:0<=s1/\s1<18446744073709551616)(h2:0<=s2/\s2<18446744073709551616)(h3:0<=s3/\s3<18446744073709551616)(h4:0<=s4/\s4<18446744073709551616)(h5:0<=s5/\s5<18446744073709551616) :
  0<=s0+18446744073709551616*(s1+18446744073709551616*(s2+18446744073709551616*(s3+18446744073709551616*(s4+18446744073709551616*s5))))/\s0+18446744073709551616*(s1+18446744073709551616*(s2+18446744073709551616*(s3+18446744073709551616*(s4+18446744073709551616*s5))))<39402006196394479212279040100143613805079739270465446667948293404245721771497210611414266254884915640806627990306816:=by omega
theorem z01:(0:Int)<=0/\(0:Int)<=1:=by decide
theorem Zw9:bP=13402431016077863595+18446744073709551616*(2210141511517208575+18446744073709551616*(7435674573564081700+18446744073709551616*(7239337960414712511+18446744073709551616*(5412103778470702295+18446744073709551616*1873798617647539866)))):=by decide
theorem Qcf{n:Int}(h:decide (0<=n/\n<18446744073709551616)=true):0<=n/\n<18446744073709551616:=of_decide_eq_true h
def Zqz:Qn:=(xw 0 [.m 0 0,.lit 13402431016077863595,.lit 0] 385 qfa
(xw 0 [.m 0 1,.lit 2210141511517208575,.v 386] 1105 qfa
(xw 0 [.m 0 2,.lit 7435674573564081700,.v 1106] 1825 qfa
(xw 0 [.m 0 3,.lit 7239337960414712511,.v 1826] 2545 qfa
(xw 0 [.m 0 4,.lit 5412103778470702295,.v 2546] 3265 qfa
(xw 0 [.m 0 5,.lit 1873798617647539866,.v 3266] 3985 qfa
(.l 4321 .bit (.cmp .eql (.v 3986) (.lit 1))
(.split 4321
(.ret [.v 0])
(.l 4322 .num (.join [.v 385,.v 1105,.v 1825,.v 2545,.v 3265,.v 3985])
(.ret [.v 4322]))))))))))
theorem Zgu(f1 f:FuncId)(e:Nat->Int)(hk:Qy [.num] [e 0]):Zqz.Xij [Qb6 f1] ⟨fun ys=>ys=(Qiu f).sem [e 0],[]⟩ e:=by
 obtain⟨ha,_⟩:=hk;have ea:=Zz ha;have hb:=Zw9;have l0_0:=Qs (e 0) 0;have l0_1:=Qs (e 0) 1;have l0_2:=Qs (e 0) 2;have l0_3:=Qs (e 0) 3;have l0_4:=Qs (e 0) 4;have l0_5:=Qs (e 0) 5;have p_0:(0:Int)<=13402431016077863595/\(13402431016077863595:Int)<18446744073709551616:=Qcf (by decide);have p_1:(0:Int)<=2210141511517208575/\(2210141511517208575:Int)<18446744073709551616:=Qcf (by decide);have p_2:(0:Int)<=7435674573564081700/\(7435674573564081700:Int)<18446744073709551616:=Qcf (by decide);have p_3:(0:Int)<=7239337960414712511/\(7239337960414712511:Int)<18446744073709551616:=Qcf (by decide);have p_4:(0:Int)<=5412103778470702295/\(5412103778470702295:Int)<18446744073709551616:=Qcf (by decide);have p_5:(0:Int)<=1873798617647539866/\(1873798617647539866:Int)<18446744073709551616:=Qcf (by decide);simp only[Zqz,Qb6,Qiu,KK.has,Jq,Qn.Xij,xw,xws,Nat.reduceAdd,Oy,Oz,List.map,Qp,Qm,Q3,D.ev,O1,O2];generalize Q0 (e 0) 0=x00 at *
 generalize Q0 (e 0) 1=x01 at *
 generalize Q0 (e 0) 2=x02 at *
 generalize Q0 (e 0) 3=x03 at *
 generalize Q0 (e 0) 4=x04 at *
 generalize Q0 (e 0) 5=x05 at *
 refine⟨z01,fun as0 _ at0 _=>?_⟩;obtain⟨ap0,aq0,ar0⟩:=Qcg as0 at0 l0_0 p_0 z01;clear as0 at0;refine⟨aq0,fun as1 _ at1 _=>?_⟩;obtain⟨ap1,aq1,ar1⟩:=Qcg as1 at1 l0_1 p_1 aq0;clear as1 at1;refine⟨aq1,fun as2 _ at2 _=>?_⟩;obtain⟨ap2,aq2,ar2⟩:=Qcg as2 at2 l0_2 p_2 aq1;clear as2 at2;refine⟨aq2,fun as3 _ at3 _=>?_⟩;obtain⟨ap3,aq3,ar3⟩:=Qcg as3 at3 l0_3 p_3 aq2;clear as3 at3;refine⟨aq3,fun as4 _ at4 _=>?_⟩;obtain⟨ap4,aq4,ar4⟩:=Qcg as4 at4 l0_4 p_4 aq3;clear as4 at4;refine⟨aq4,fun as5 _ at5 _=>?_⟩;obtain⟨ap5,aq5,ar5⟩:=Qcg as5 at5 l0_5 p_5 aq4;clear as5 at5;have tot:=Xeh ap0 ap1 ap2 ap3 ap4 ap5;have rg:=Zs6 ar0 ar1 ar2 ar3 ar4 ar5;rw[<- ea,<- hb]at tot;intro h1 _;have h1:=Zi h1;refine⟨fun n=>?_,fun n=>?_⟩
 ·rw[if_neg (by clear ea hb ap0 ap1 ap2 ap3 ap4 ap5 ar0 ar1 ar2 ar3 ar4 ar5;omega)]
 ·intro h2 h3;rw[<- h2]at tot;rw[if_pos (by clear ea hb ap0 ap1 ap2 ap3 ap4 ap5 ar0 ar1 ar2 ar3 ar4 ar5;omega)];congr 1;clear ea hb ap0 ap1 ap2 ap3 ap4 ap5 ar0 ar1 ar2 ar3 ar4 ar5;omega
def Zwl:Qn:=(xw 0 [.m 0 0,.m 1 0,.lit 0] 386 qfa
(xw 0 [.m 0 1,.m 1 1,.v 387] 1106 qfa
(xw 0 [.m 0 2,.m 1 2,.v 1107] 1826 qfa
(xw 0 [.m 0 3,.m 1 3,.v 1827] 2546 qfa
(xw 0 [.m 0 4,.m 1 4,.v 2547] 3266 qfa
(xw 0 [.m 0 5,.m 1 5,.v 3267] 3986 qfa
(.l 4322 .num (.join [.v 386,.v 1106,.v 1826,.v 2546,.v 3266,.v 3986])
(xw 1 [.v 4322] 4323 Q7
(.ret [.v 4323])))))))))
theorem Zph(f1 f2 f:FuncId)(e:Nat->Int)(hk:Qy [.num,.num] [e 0,e 1])(hp:(B9 f).pre [e 0,e 1]):Zwl.Xij [X1 f1,Qiu f2] ⟨fun ys=>ys=(B9 f).sem [e 0,e 1],[]⟩ e:=by
 obtain⟨ha,hb,_⟩:=hk;obtain⟨u0,u1⟩:e 0<bP/\e 1<bP:=hp;have v0:0<=e 0:=ha.1;have v1:0<=e 1:=hb.1;have ea:=Zz ha;have eb:=Zz hb;have hP:=Zey;have l0_0:=Qs (e 0) 0;have l0_1:=Qs (e 0) 1;have l0_2:=Qs (e 0) 2;have l0_3:=Qs (e 0) 3;have l0_4:=Qs (e 0) 4;have l0_5:=Qs (e 0) 5;have l1_0:=Qs (e 1) 0;have l1_1:=Qs (e 1) 1;have l1_2:=Qs (e 1) 2;have l1_3:=Qs (e 1) 3;have l1_4:=Qs (e 1) 4;have l1_5:=Qs (e 1) 5;simp only[Zwl,X1,Qiu,B9,KK.has,Jq,Qn.Xij,xw,xws,Nat.reduceAdd,Oy,Oz,List.map,Qp,Qm,Q3,D.ev,O1,O2];generalize Q0 (e 0) 0=x00 at *
 generalize Q0 (e 0) 1=x01 at *
 generalize Q0 (e 0) 2=x02 at *
 generalize Q0 (e 0) 3=x03 at *
 generalize Q0 (e 0) 4=x04 at *
 generalize Q0 (e 0) 5=x05 at *
 generalize Q0 (e 1) 0=x10 at *
 generalize Q0 (e 1) 1=x11 at *
 generalize Q0 (e 1) 2=x12 at *
 generalize Q0 (e 1) 3=x13 at *
 generalize Q0 (e 1) 4=x14 at *
 generalize Q0 (e 1) 5=x15 at *
 refine⟨z01,fun as0 _ at0 _=>?_⟩;obtain⟨ap0,aq0,ar0⟩:=Qcj as0 at0 l0_0 l1_0 z01;clear as0 at0;refine⟨aq0,fun as1 _ at1 _=>?_⟩;obtain⟨ap1,aq1,ar1⟩:=Qcj as1 at1 l0_1 l1_1 aq0;clear as1 at1;refine⟨aq1,fun as2 _ at2 _=>?_⟩;obtain⟨ap2,aq2,ar2⟩:=Qcj as2 at2 l0_2 l1_2 aq1;clear as2 at2;refine⟨aq2,fun as3 _ at3 _=>?_⟩;obtain⟨ap3,aq3,ar3⟩:=Qcj as3 at3 l0_3 l1_3 aq2;clear as3 at3;refine⟨aq3,fun as4 _ at4 _=>?_⟩;obtain⟨ap4,aq4,ar4⟩:=Qcj as4 at4 l0_4 l1_4 aq3;clear as4 at4;refine⟨aq4,fun as5 _ at5 _=>?_⟩;obtain⟨ap5,aq5,ar5⟩:=Qcj as5 at5 l0_5 l1_5 aq4;clear as5 at5;have tot:=Xe2 ap0 ap1 ap2 ap3 ap4 ap5;have rg:=Zs6 ar0 ar1 ar2 ar3 ar4 ar5;rw[<- ea,<- eb]at tot;intro h1 h2;refine⟨trivial,fun h3 _=>?_⟩;rw[<- h1]at tot rg;clear ea eb h1 ap0 ap1 ap2 ap3 ap4 ap5 ar0 ar1 ar2 ar3 ar4 ar5;have hs:e 4322=e 0+e 1:=by unfold Qv at hP;omega
 have h4:=Zz4 h3 (by omega) (by omega);rw[hs]at h4;rw[Xfs h4 (X9 v0 u0) (X9 v1 u1)]
def Zyd:Qn:=(xw 0 [.m 0 0,.m 1 0,.lit 0] 386 qfa
(xw 0 [.m 0 1,.m 1 1,.v 387] 1106 qfa
(xw 0 [.m 0 2,.m 1 2,.v 1107] 1826 qfa
(xw 0 [.m 0 3,.m 1 3,.v 1827] 2546 qfa
(xw 0 [.m 0 4,.m 1 4,.v 2547] 3266 qfa
(xw 0 [.m 0 5,.m 1 5,.v 3267] 3986 qfa
(.l 4322 .bit (.cmp .eql (.v 3987) (.lit 1))
(.split 4322
(xw 1 [.v 386,.lit 13402431016077863595,.lit 0] 4707 qfa
(xw 1 [.v 1106,.lit 2210141511517208575,.v 4708] 5427 qfa
(xw 1 [.v 1826,.lit 7435674573564081700,.v 5428] 6147 qfa
(xw 1 [.v 2546,.lit 7239337960414712511,.v 6148] 6867 qfa
(xw 1 [.v 3266,.lit 5412103778470702295,.v 6868] 7587 qfa
(xw 1 [.v 3986,.lit 1873798617647539866,.v 7588] 8307 qfa
(.l 8643 .num (.join [.v 4707,.v 5427,.v 6147,.v 6867,.v 7587,.v 8307])
(.ret [.v 8643]))))))))
(.l 4323 .num (.join [.v 386,.v 1106,.v 1826,.v 2546,.v 3266,.v 3986])
(.ret [.v 4323]))))))))))
theorem Zmx(f1 f2 f:FuncId)(e:Nat->Int)(hk:Qy [.num,.num] [e 0,e 1])(hp:(Qef f).pre [e 0,e 1]):Zyd.Xij [Qb6 f1,X1 f2] ⟨fun ys=>ys=(Qef f).sem [e 0,e 1],[]⟩ e:=by
 obtain⟨ha,hb,_⟩:=hk;obtain⟨u0,u1⟩:e 0<bP/\e 1<bP:=hp;have v0:0<=e 0:=ha.1;have v1:0<=e 1:=hb.1;have ea:=Zz ha;have eb:=Zz hb;have hP:=Zey;have hW:=Zw9;have l0_0:=Qs (e 0) 0;have l0_1:=Qs (e 0) 1;have l0_2:=Qs (e 0) 2;have l0_3:=Qs (e 0) 3;have l0_4:=Qs (e 0) 4;have l0_5:=Qs (e 0) 5;have l1_0:=Qs (e 1) 0;have l1_1:=Qs (e 1) 1;have l1_2:=Qs (e 1) 2;have l1_3:=Qs (e 1) 3;have l1_4:=Qs (e 1) 4;have l1_5:=Qs (e 1) 5;have p_0:(0:Int)<=13402431016077863595/\(13402431016077863595:Int)<18446744073709551616:=Qcf (by decide);have p_1:(0:Int)<=2210141511517208575/\(2210141511517208575:Int)<18446744073709551616:=Qcf (by decide);have p_2:(0:Int)<=7435674573564081700/\(7435674573564081700:Int)<18446744073709551616:=Qcf (by decide);have p_3:(0:Int)<=7239337960414712511/\(7239337960414712511:Int)<18446744073709551616:=Qcf (by decide);have p_4:(0:Int)<=5412103778470702295/\(5412103778470702295:Int)<18446744073709551616:=Qcf (by decide);have p_5:(0:Int)<=1873798617647539866/\(1873798617647539866:Int)<18446744073709551616:=Qcf (by decide);simp only[Zyd,Qb6,X1,Qef,KK.has,Jq,Qn.Xij,xw,xws,Nat.reduceAdd,Oy,Oz,List.map,Qp,Qm,Q3,D.ev,O1,O2];generalize Q0 (e 0) 0=x00 at *
 generalize Q0 (e 0) 1=x01 at *
 generalize Q0 (e 0) 2=x02 at *
 generalize Q0 (e 0) 3=x03 at *
 generalize Q0 (e 0) 4=x04 at *
 generalize Q0 (e 0) 5=x05 at *
 generalize Q0 (e 1) 0=x10 at *
 generalize Q0 (e 1) 1=x11 at *
 generalize Q0 (e 1) 2=x12 at *
 generalize Q0 (e 1) 3=x13 at *
 generalize Q0 (e 1) 4=x14 at *
 generalize Q0 (e 1) 5=x15 at *
 refine⟨z01,fun as0 _ at0 _=>?_⟩;obtain⟨ap0,aq0,ar0⟩:=Qcg as0 at0 l0_0 l1_0 z01;clear as0 at0;refine⟨aq0,fun as1 _ at1 _=>?_⟩;obtain⟨ap1,aq1,ar1⟩:=Qcg as1 at1 l0_1 l1_1 aq0;clear as1 at1;refine⟨aq1,fun as2 _ at2 _=>?_⟩;obtain⟨ap2,aq2,ar2⟩:=Qcg as2 at2 l0_2 l1_2 aq1;clear as2 at2;refine⟨aq2,fun as3 _ at3 _=>?_⟩;obtain⟨ap3,aq3,ar3⟩:=Qcg as3 at3 l0_3 l1_3 aq2;clear as3 at3;refine⟨aq3,fun as4 _ at4 _=>?_⟩;obtain⟨ap4,aq4,ar4⟩:=Qcg as4 at4 l0_4 l1_4 aq3;clear as4 at4;refine⟨aq4,fun as5 _ at5 _=>?_⟩;obtain⟨ap5,aq5,ar5⟩:=Qcg as5 at5 l0_5 l1_5 aq4;clear as5 at5;have tot:=Xeh ap0 ap1 ap2 ap3 ap4 ap5;have rg:=Zs6 ar0 ar1 ar2 ar3 ar4 ar5;rw[<- ea,<- eb]at tot;intro h1 _;have h1:=Zi h1;have Jy:∀v:Int,v=(e 0-e 1)%bP->[v]=[Qo (Ql (e 0)-Ql (e 1))]:=fun v hv=>by rw[Xdb hv (X9 v0 u0) (X9 v1 u1)]
 refine⟨fun n=>?_,fun n=>?_⟩
 ·have hc:e 3987=1:=by
   rcases h1 with⟨_,h⟩|⟨h,_⟩
   ·exact h
   ·exact absurd h n
  refine⟨z01,fun bs0 _ bt0 _=>?_⟩;obtain⟨bp0,bq0,br0⟩:=Qcj bs0 bt0 ar0 p_0 z01;clear bs0 bt0;refine⟨bq0,fun bs1 _ bt1 _=>?_⟩;obtain⟨bp1,bq1,br1⟩:=Qcj bs1 bt1 ar1 p_1 bq0;clear bs1 bt1;refine⟨bq1,fun bs2 _ bt2 _=>?_⟩;obtain⟨bp2,bq2,br2⟩:=Qcj bs2 bt2 ar2 p_2 bq1;clear bs2 bt2;refine⟨bq2,fun bs3 _ bt3 _=>?_⟩;obtain⟨bp3,bq3,br3⟩:=Qcj bs3 bt3 ar3 p_3 bq2;clear bs3 bt3;refine⟨bq3,fun bs4 _ bt4 _=>?_⟩;obtain⟨bp4,bq4,br4⟩:=Qcj bs4 bt4 ar4 p_4 bq3;clear bs4 bt4;refine⟨bq4,fun bs5 _ bt5 _=>?_⟩;obtain⟨bp5,bq5,br5⟩:=Qcj bs5 bt5 ar5 p_5 bq4;clear bs5 bt5;have tot2:=Xe2 bp0 bp1 bp2 bp3 bp4 bp5;have rg2:=Zs6 br0 br1 br2 br3 br4 br5;rw[<- hW,tot]at tot2;intro h2 h3;refine Jy _ ?_;rw[<- h2]at tot2 rg2;rw[tot]at rg;have b6:=bq5;clear ap0 ap1 ap2 ap3 ap4 ap5 ar0 ar1 ar2 ar3 ar4 ar5 bp0 bp1 bp2 bp3 bp4 bp5 br0 br1 br2 br3 br4 br5 ea eb h2 hW tot h3;unfold Qv at hP;have hs:e 8643=e 0-e 1+bP:=by omega
  rw[hs];exact(Jd (-1) (by omega) (by omega) (by omega)).symm
 ·have hc:e 3987=0:=by
   rcases h1 with⟨h,_⟩|⟨_,h⟩
   ·exact absurd (h.symm.trans n) (by decide)
   ·have:=aq5;clear tot rg ea eb hW;rcases this with⟨q1,q2⟩;rcases Int.lt_or_le 0 (e 3987)with z|z;exact absurd (show e 3987=1 from Int.le_antisymm q2 z) h;exact Int.le_antisymm z q1
  intro h2 h3;refine Jy _ ?_;rw[<- h2]at tot rg;clear ap0 ap1 ap2 ap3 ap4 ap5 ar0 ar1 ar2 ar3 ar4 ar5 ea eb h2 hW h3;have hs:e 4323=e 0-e 1:=by omega
  rw[hs];exact(Ox (by omega) (by omega)).symm
def Xc6:Qn:=(xw 0 [.lit 0,.v 0] 1 Q7
(.ret [.v 1]))
theorem Zqa(f1 f:FuncId)(e:Nat->Int)(hk:Qy [.num] [e 0])(hp:(Qjv f).pre [e 0]):Xc6.Xij [Qef f1] ⟨fun ys=>ys=(Qjv f).sem [e 0],[]⟩ e:=by
 have u0:e 0<bP:=hp;refine⟨⟨Q5,u0⟩,fun a1 _=>?_⟩;show[e 1]=[Qo (-Ql (e 0))]
 rw[show e 1=Qo (Ql 0-Ql (e 0))from a1,show Ql 0=0 by unfold Ql;rw[K7];rfl,Hu]
theorem Qwa{P:Program}{f:FuncId}(h:(Qft f).ok P):(U4 f).ok P:=by
 intro w hG args xs hin hp;have hx:∃a b,xs=[a,b]:=by
  match xs,hp with
  |[a,b],_=>exact⟨a,b,rfl⟩
 obtain⟨a,b,rfl⟩:=hx;have hp':a<bP/\b<bP:=hp;have h1:=Qik _ _ _ hin;have ka:0<=a:=h1.1.1;have kb:0<=b:=h1.2.1.1;have h2:=h w hG args [a,b] hin hp'.1;have e1:(Qft f).sem [a,b]=(U4 f).sem [a,b]:=by
  show[Xs bP a b]=[Qo (Ql a*Ql b)]
  rw[Zja rfl (X9 ka hp'.1) (X9 kb hp'.2)]
 rw[<- e1];exact h2
def Qxy(f:FuncId):K:={fn:=f,ext:=false,ins:=[],outs:=[oN],pre:=fun _=>True,sem:=fun _=>[Z9 bP] }
def Qju(f:FuncId):K:={fn:=f,ext:=false,ins:=[],outs:=[oN],pre:=fun _=>True,sem:=fun _=>[Qo 1] }
def Zzc:Qn:=(.ret [.lit 2708263910654730174793787626328176511836455197166317677006154293982164122222515399004018013397331347120527951271750])
theorem Zg3(f:FuncId)(e:Nat->Int):Zzc.Xij [] ⟨fun ys=>ys=(Qxy f).sem [],[]⟩ e:=by
 show[(_:Int)]=[Z9 bP]
 rw[show Z9 bP=2708263910654730174793787626328176511836455197166317677006154293982164122222515399004018013397331347120527951271750 by decide +kernel];rfl
def Xey:Qn:=(.ret [.lit 3380320199399472671518931668520476396067793891014375699959770179129436917079669831430077592723774664465579537268733])
theorem Zo3(f:FuncId)(e:Nat->Int):Xey.Xij [] ⟨fun ys=>ys=(Qju f).sem [],[]⟩ e:=by
 show[(3380320199399472671518931668520476396067793891014375699959770179129436917079669831430077592723774664465579537268733:Int)]=[Qo 1]
 rw[show Qo 1=Qv%bP by unfold Qo;rw[Int.one_mul]];decide +kernel
def Xg7:Qn:=(xw 1 [] 1 Q7
(xw 0 [.v 1,.v 0] 97 Q7
(.ret [.v 97])))
theorem Zrk(f1 f2 f:FuncId)(e:Nat->Int)(hk:Qy [.num] [e 0]):Xg7.Xij [Qft f1,Qxy f2] ⟨fun ys=>ys=(Zhe f).sem [e 0],[]⟩ e:=by
 refine⟨trivial,fun a1 _=>⟨?_,fun a2 _=>?_⟩⟩
 ·show e 1<bP;rw[show e 1=Z9 bP from a1];exact(Qhf Q5).2
 ·show[e 97]=[Qo (e 0)]
  rw[show e 97=Xs bP (e 1) (e 0)from a2,show e 1=Z9 bP from a1,Xap]
def Xbu:Qn:=(xw 0 [.v 0,.lit 1] 1 Q7
(.ret [.v 1]))
theorem Zib(f1 f:FuncId)(e:Nat->Int)(hk:Qy [.num] [e 0])(hp:(Qod f).pre [e 0]):Xbu.Xij [Qft f1] ⟨fun ys=>ys=(Qod f).sem [e 0],[]⟩ e:=by
 have u0:e 0<bP:=hp;refine⟨u0,fun a1 _=>?_⟩;show[e 1]=[Ql (e 0)]
 rw[show e 1=Xs bP (e 0) 1 from a1,Zlg]
theorem Zhn{N x a b:Int}(h:∃z,N*x=1+a*z)(hb:∃c,a*a=b*c)(hW:∃d,18446744073709551616=b*d) :
  ∃z,N*(x*((2-N*x%18446744073709551616)%18446744073709551616)%18446744073709551616)=1+b*z:=by
 obtain⟨z,hz⟩:=h;obtain⟨c,hc⟩:=hb;obtain⟨d,hd⟩:=hW;obtain⟨t1,h1⟩:=Wd (x:=N*x) (n:=18446744073709551616);obtain⟨t2,h2⟩:=Wd (x:=2-N*x%18446744073709551616) (n:=18446744073709551616);obtain⟨t3,h3⟩:=Wd (x:=x*((2-N*x%18446744073709551616)%18446744073709551616)) (n:=18446744073709551616);rw[h3,h2,h1];generalize (18446744073709551616:Int)=W at *
 subst hd;refine⟨d*(N*t3+N*x*t2-N*x*t1)-c*z*z,?_⟩;have e1:N*x*(N*x)=(1+a*z)*(1+a*z):=by rw[hz]
 have e2:(1+a*z)*(1+a*z)=1+2*(a*z)+b*c*z*z:=by rw[<- hc];grind
 grind
theorem sq8{n:Int}(h:n%2=1):∃z,n*n=1+8*z:=by
 rcases Int.emod_two_eq (n/2)with h3|h3
 ·have h4:n=4*(n/2/2)+1:=by omega
  generalize n/2/2=q at *
  exact⟨q*(2*q)+q,by subst h4;grind⟩
 ·have h4:n=4*(n/2/2)+3:=by omega
  generalize n/2/2=q at *
  exact⟨q*(2*q)+3*q+1,by subst h4;grind⟩
theorem Qa3{l x a b y:Int}{k:Nat}(h1:a=l*x%18446744073709551616)(h2:b=(2-a)%18446744073709551616)(h3:y=x*b%18446744073709551616):Qir l (k+1) x=Qir l k y:=by
 rw[h3,h2,h1];rfl
theorem Zh2{n:Int}(h:n%2=1):∃z,n*Qir n 6 n=1+18446744073709551616*z:=by
 have s0:=sq8 h;have s1:=Zhn s0 (b:=64) ⟨1,by decide⟩ ⟨288230376151711744,by decide⟩;have s2:=Zhn s1 (b:=4096) ⟨1,by decide⟩ ⟨4503599627370496,by decide⟩;have s3:=Zhn s2 (b:=16777216) ⟨1,by decide⟩ ⟨1099511627776,by decide⟩;have s4:=Zhn s3 (b:=281474976710656) ⟨1,by decide⟩ ⟨65536,by decide⟩;have s5:=Zhn s4 (b:=18446744073709551616) ⟨4294967296,by decide⟩ ⟨1,by decide⟩;exact Zhn s5 (b:=18446744073709551616) ⟨18446744073709551616,by decide⟩ ⟨1,by decide⟩
theorem Zmo{n:Int}(h:n%2=1):n*Qeh n%18446744073709551616=18446744073709551615:=by
 obtain⟨z,hz⟩:=Zh2 (n:=n%18446744073709551616) (by omega);unfold Qeh;generalize Qir (n%18446744073709551616) 6 (n%18446744073709551616)=x at *
 obtain⟨t1,h1⟩:=Wd (x:=-x) (n:=18446744073709551616);obtain⟨t2,h2⟩:=Wd (x:=n) (n:=18446744073709551616);rw[h1];rw[h2]at hz;refine Jd (n*t1+t2*x-z-1) ?_ (by decide) (by decide)
 grind
theorem Qgh{n:Int}(h:n%2=1)(h3:3<=n)(hl:n<2^382):Wr n (Qeh n) (Z9 n):=⟨⟨Zmo h,h3,hl⟩,rfl⟩
theorem Zkl{x o0 o1 o2 o3 o4 o5:Int}(hx:0<=x/\x<Qv)(hs:2*x<Qv)(h0:o0=2*Q0 x 0%18446744073709551616)(h1:o1=2*Q0 x 1%18446744073709551616+Q0 x 0/9223372036854775808)
  (h2:o2=2*Q0 x 2%18446744073709551616+Q0 x 1/9223372036854775808) (h3:o3=2*Q0 x 3%18446744073709551616+Q0 x 2/9223372036854775808) (h4:o4=2*Q0 x 4%18446744073709551616+Q0 x 3/9223372036854775808)
  (h5:o5=2*Q0 x 5%18446744073709551616+Q0 x 4/9223372036854775808):Y2 [o0,o1,o2,o3,o4,o5]=2*x:=by
 have ex:=Zz hx;have l0:=Qs x 0;have l1:=Qs x 1;have l2:=Qs x 2;have l3:=Qs x 3;have l4:=Qs x 4;have l5:=Qs x 5;rw[Jq];generalize Q0 x 0=x0 at *
 generalize Q0 x 1=x1 at *
 generalize Q0 x 2=x2 at *
 generalize Q0 x 3=x3 at *
 generalize Q0 x 4=x4 at *
 generalize Q0 x 5=x5 at *
 unfold Qv at hs;omega
def Xet:Qn:=(.l 97 kU (.bin .and .u64 (.m 0 0) (.lit 1))
(.l 145 .bit (.cmp .eql (.v 97) (.lit 0))
(.split 145
(.bad 402 "")
(xw 0 [.v 0] 289 qoa
(.l 337 .bit (.cmp .gtr (.v 289) (.lit 382))
(.split 337
(.bad 402 "")
(xw 3 [.lit 3] 529 Q7
(xw 1 [.v 0,.v 529] 577 qoa
(.l 625 .bit (.cmp .lss (.v 577) (.lit 0))
(.split 625
(.bad 402 "")
(.l 721 kU (.bin .mul .u64 (.m 0 0) (.m 0 0))
(.l 722 kU (.bin .sub .u64 (.lit 2) (.v 721))
(.l 723 kU (.bin .mul .u64 (.m 0 0) (.v 722))
(.l 724 kU (.bin .mul .u64 (.m 0 0) (.v 723))
(.l 725 kU (.bin .sub .u64 (.lit 2) (.v 724))
(.l 726 kU (.bin .mul .u64 (.v 723) (.v 725))
(.l 727 kU (.bin .mul .u64 (.m 0 0) (.v 726))
(.l 728 kU (.bin .sub .u64 (.lit 2) (.v 727))
(.l 729 kU (.bin .mul .u64 (.v 726) (.v 728))
(.l 730 kU (.bin .mul .u64 (.m 0 0) (.v 729))
(.l 731 kU (.bin .sub .u64 (.lit 2) (.v 730))
(.l 732 kU (.bin .mul .u64 (.v 729) (.v 731))
(.l 733 kU (.bin .mul .u64 (.m 0 0) (.v 732))
(.l 734 kU (.bin .sub .u64 (.lit 2) (.v 733))
(.l 735 kU (.bin .mul .u64 (.v 732) (.v 734))
(.l 736 kU (.bin .mul .u64 (.m 0 0) (.v 735))
(.l 737 kU (.bin .sub .u64 (.lit 2) (.v 736))
(.l 738 kU (.bin .mul .u64 (.v 735) (.v 737))
(.l 739 kU (.bin .sub .u64 (.lit 0) (.v 738))
(xw 3 [.lit 1] 740 Q7
(.loop [.v 740,.lit 0] [.num,kI] 741
(.l 743 .bit (.cmp .lss (.v 742) (.lit 768))
(.split 743
(.l 744 kU (.bin .shl .u64 (.m 741 0) (.lit 1))
(.l 745 kU (.bin .shl .u64 (.m 741 1) (.lit 1))
(.l 1130 kU (.bin .shr .u64 (.m 741 0) (.lit 63))
(.l 1178 kU (.bin .or .u64 (.v 745) (.v 1130))
(.l 1322 kU (.bin .shl .u64 (.m 741 2) (.lit 1))
(.l 1707 kU (.bin .shr .u64 (.m 741 1) (.lit 63))
(.l 1755 kU (.bin .or .u64 (.v 1322) (.v 1707))
(.l 1899 kU (.bin .shl .u64 (.m 741 3) (.lit 1))
(.l 2284 kU (.bin .shr .u64 (.m 741 2) (.lit 63))
(.l 2332 kU (.bin .or .u64 (.v 1899) (.v 2284))
(.l 2476 kU (.bin .shl .u64 (.m 741 4) (.lit 1))
(.l 2861 kU (.bin .shr .u64 (.m 741 3) (.lit 63))
(.l 2909 kU (.bin .or .u64 (.v 2476) (.v 2861))
(.l 3053 kU (.bin .shl .u64 (.m 741 5) (.lit 1))
(.l 3438 kU (.bin .shr .u64 (.m 741 4) (.lit 63))
(.l 3486 kU (.bin .or .u64 (.v 3053) (.v 3438))
(.l 3630 .num (.join [.v 744,.v 1178,.v 1755,.v 2332,.v 2909,.v 3486])
(xw 2 [.v 0,.v 739,.lit 0,.v 3630] 3631 Q7
(.l 3632 kI (.bin .add .i64 (.v 742) (.lit 1))
(.back 0 [.v 3631,.v 3632]))))))))))))))))))))
(.ret [.v 0,.v 739,.v 741]))))))))))))))))))))))))))))))))))
theorem Znm{n i x:Int}(hn:3<=n)(hi:0<=i)(hx:x=2^i.toNat%n):(if n<=2*x then 2*x-n else 2*x)=2^(i+1).toNat%n:=by
 have h1:(i+1).toNat=i.toNat+1:=by omega
 obtain⟨z,hz⟩:=Wd (x:=(2:Int)^i.toNat) (n:=n);have hb:=Zl (x:=(2:Int)^i.toNat) (n:=n) (by omega);rw[h1,M7];rw[<- hx]at hb hz;have key:2^i.toNat*2%n=2*x%n:=md (-(2*z)) (by rw[hz];grind);rw[key];split
 ·exact(Jd 1 (by omega) (by omega) (by omega)).symm
 ·exact(Ox (by omega) (by omega)).symm
theorem Xd9{v x:Int}(h:v=Qw .shl .u64 x 1):v=2*x%18446744073709551616:=by
 have:=Qjk 2 h rfl;simp only[wr]at this;omega
theorem Zun(f1 f2 f3 f4 f:FuncId)(te:TypeId)(e:Nat->Int)(hk:Qy [.num] [e 0])(hp:(Qgb f te).pre [e 0]):Xet.Xij [Qeu f1,Yj f2,Qjh f3,kOf f4] ⟨fun ys=>ys=(Qgb f te).sem [e 0],[]⟩ e:=by
 obtain⟨hodd,hn3,hn⟩:=hp;have h0:=hk.1;have z:=Qes e;have hl:2*e 0<Qv:=by rw[Xa2]at hn;unfold Qv;omega
 simp only[KK.has]at h0;have e00:Q0 (e 0) 0=e 0%18446744073709551616:=Qp8 _;simp only[Xet,Qeu,Yj,Qjh,kOf,Qgb,Qn.Xij,xw,xws,Nat.reduceAdd,Oy,Oz,List.map,Qp,Qm,Q3,D.ev,O1,O2];intro a1 _ a2 _;have b1:=Qno a1 (z 0 0);have b2:=Zi a2;refine⟨fun n=>by clear a1 z;omega,fun n=>⟨trivial,fun a3 _ a4 _=>?_⟩⟩;have b4:=Qnw a4;have hb:=Wp 382 (e 0) h0.1 hn;rw[<- a3]at hb;refine⟨fun n=>by clear a1 z;omega,fun n=>⟨trivial,fun a5 _=>⟨trivial,fun a6 _ a7 _=>?_⟩⟩⟩;have b7:=Va a7;rw[a5]at a6;have b6:¬e 577<0:=by rw[a6];rw[if_neg (by clear a1 z;omega)];split <;> decide
 refine⟨fun n=>by clear a1 z;omega,fun n=>?_⟩;intro c1 _ c2 _ c3 _ c4 _ c5 _ c6 _ c7 _ c8 _ c9 _ c10 _ c11 _ c12 _ c13 _ c14 _ c15 _ c16 _ c17 _ c18 _ c19 _;have hlow:e 739=Qeh (e 0):=by
  simp only[Qw,wr]at c1 c2 c3 c4 c5 c6 c7 c8 c9 c10 c11 c12 c13 c14 c15 c16 c17 c18 c19;unfold Qeh;rw[<- e00,Qa3 c1 c2 c3,Qa3 c4 c5 c6,Qa3 c7 c8 c9,Qa3 c10 c11 c12,Qa3 c13 c14 c15,Qa3 c16 c17 c18,c19,Hu];rfl
 clear c1 c2 c3 c4 c5 c6 c7 c8 c9 c10 c11 c12 c13 c14 c15 c16 c17 c18 c19;refine⟨trivial,fun d1 _=>?_⟩;refine⟨fun|[x,i]=>0<=i/\i<=768/\x=2^i.toNat%e 0|_=>False,fun|[_,i]=>(768-i).toNat|_=>0,?_,fun e' he hkk hI=>?_⟩
 ·refine⟨by decide,by decide,?_⟩;rw[d1];show(1:Int)=1%e 0;symm;exact Ox (by decide) (by omega)
 ·obtain⟨i0,i1,i2⟩:0<=e' 742/\e' 742<=768/\e' 741=2^(e' 742).toNat%e 0:=hI;have hx:=Zl (x:=(2:Int)^(e' 742).toNat) (n:=e 0) (by omega);rw[<- i2]at hx;intro g1 _;have g2:=Va g1;refine⟨fun n=>?_,fun n=>?_⟩
  ·intro s0 _ s1 _ r1 _ o1 _ s2 _ r2 _ o2 _ s3 _ r3 _ o3 _ s4 _ r4 _ o4 _ s5 _ r5 _ o5 _ oj _;have zz:=Qes e';have hj:=Zkl (x:=e' 741) (by constructor <;> (clear s0 s1 r1 o1 s2 r2 o2 s3 r3 o3 s4 r4 o4 s5 r5 o5 oj z zz;omega)) (by clear s0 s1 r1 o1 s2 r2 o2 s3 r3 o3 s4 r4 o4 s5 r5 o5 oj z zz;omega) (Xd9 s0) (Qot o1 s1 r1 (zz _ _) (zz _ _)) (Qot o2 s2 r2 (zz _ _) (zz _ _)) (Qot o3 s3 r3 (zz _ _) (zz _ _)) (Qot o4 s4 r4 (zz _ _) (zz _ _)) (Qot o5 s5 r5 (zz _ _) (zz _ _));rw[<- oj]at hj;clear oj s0 s1 r1 o1 s2 r2 o2 s3 r3 o3 s4 r4 o4 s5 r5 o5 z zz;refine⟨trivial,fun k1 _ k2 _=>?_⟩;rw[he 0 (by decide),hj]at k1;have hi:e' 3632=e' 742+1:=by rw[k2];simp only[Qw,wr];omega
   show(0<=e' 3632/\e' 3632<=768/\e' 3631=2^(e' 3632).toNat%e 0)/\(768-e' 3632).toNat<(768-e' 742).toNat;rw[hi,k1,Znm hn3 i0 i2];exact⟨⟨by omega,by omega,rfl⟩,by omega⟩
  ·have hi:e' 742=768:=by omega
   rw[he 0 (by decide),he 739 (by decide),hlow,i2,hi];rfl
theorem Qrd{x y:Int}(hx:0<=x/\x<Qv)(hy:0<=y/\y<Qv)(h:Q0 x 0=Q0 y 0/\Q0 x 1=Q0 y 1/\Q0 x 2=Q0 y 2/\Q0 x 3=Q0 y 3/\Q0 x 4=Q0 y 4/\Q0 x 5=Q0 y 5):x=y:=by
 have:=Zz hx;have:=Zz hy;omega
theorem Qmx{e:Nat->Int}{v:Int}{i j:Nat}(h:v=(D.eqs [(.m i 0,.m j 0),(.m i 1,.m j 1),(.m i 2,.m j 2),(.m i 3,.m j 3),(.m i 4,.m j 4),(.m i 5,.m j 5)]).ev [] e)(hi:0<=e i/\e i<Qv)(hj:0<=e j/\e j<Qv):(v=1/\e i=e j)∨(v=0/\¬e i=e j):=by
 simp only[D.ev,Lq,H9,Q3,Hy,Qiw,Oo,beq_iff_eq]at h;by_cases hc:e i=e j
 ·left;rw[hc]at h;simp at h;exact⟨h,hc⟩
 ·right
  rw[if_neg (fun hh=>hc (Qrd hi hj hh))]at h;exact⟨h,hc⟩
theorem Qao{e:Nat->Int}{v:Int}{i:Nat}(h:v=(D.eqs [(.m i 0,.lit 0),(.m i 1,.lit 0),(.m i 2,.lit 0),(.m i 3,.lit 0),(.m i 4,.lit 0),(.m i 5,.lit 0)]).ev [] e)(hi:0<=e i/\e i<Qv):(v=1/\e i=0)∨(v=0/\¬e i=0):=by
 simp only[D.ev,Lq,H9,Q3,Qp,Hy,Qiw,Oo,beq_iff_eq]at h;by_cases hc:e i=0
 ·left;rw[hc]at h;simp[Q0]at h;exact⟨h,hc⟩
 ·right
  rw[if_neg (fun hh=>hc (by have:=Zz hi;omega))]at h;exact⟨h,hc⟩
theorem Zj9{s:Int}(h:Y5 s):Xr s%2=1/\3<=Xr s/\Xr s<2^382:=by
 obtain⟨h0,h1⟩:=h;have:s=0∨s=1∨s=2:=by omega
 rw[Xa2];rcases this with h|h|h <;> subst h <;> decide
def Zox:Qn:=(.l 1 .bit (.cmp .eql (.v 0) (.lit 0))
(.split 1
(.ret [.lit 52435875175126190479447740508185965837690552500527637822603658699938581184513])
(.l 2 .bit (.cmp .eql (.v 0) (.lit 1))
(.split 2
(.ret [.lit 65521])
(.l 3 .bit (.cmp .eql (.v 0) (.lit 2))
(.split 3
(.ret [.lit 72057594037927889])
(.ret [.lit 0])))))))
theorem Zgh(f:FuncId)(e:Nat->Int)(hk:Qy [.int .i64] [e 0])(hp:(Wl f).pre [e 0]):Zox.Xij [] ⟨fun ys=>ys=(Wl f).sem [e 0],[]⟩ e:=by
 obtain⟨p0,p1⟩:=hp;simp only[Zox,Wl,Qn.Xij,xw,xws,Nat.reduceAdd,Oy,Oz,List.map,Qp,Qm,Q3,D.ev,O1,O2];intro a1 _;have b1:=Zi a1;refine⟨fun n=>?_,fun n=>?_⟩
 ·have:e 0=0:=by omega
  rw[this];rfl
 intro a2 _;have b2:=Zi a2;refine⟨fun n=>?_,fun n=>?_⟩
 ·have:e 0=1:=by omega
  rw[this];rfl
 intro a3 _;have b3:=Zi a3;refine⟨fun n=>?_,fun n=>?_⟩
 ·have:e 0=2:=by omega
  rw[this];rfl
 ·omega
def Zc6:Qn:=(.l 1 .bit (.cmp .eql (.v 0) (.lit 0))
(.split 1
(xw 0 [.v 0] 2 Q7
(.ret [.v 2,.lit 0]))
(.l 2 .bit (.cmp .eql (.v 0) (.lit 1))
(.split 2
(xw 0 [.v 0] 3 Q7
(.ret [.v 3,.lit 0]))
(.l 3 .bit (.cmp .eql (.v 0) (.lit 2))
(.l 4 .bit (.not (.v 3))
(.split 4
(.ret [.lit 0,.lit 2])
(xw 0 [.v 0] 5 Q7
(.ret [.v 5,.lit 0])))))))))
theorem Qzt(f1 f:FuncId)(e:Nat->Int)(hk:Qy [.int .i64] [e 0]):Zc6.Xij [Wl f1] ⟨fun ys=>ys=(Qgn f).sem [e 0],[]⟩ e:=by
 simp only[Zc6,Wl,Qgn,Qn.Xij,xw,xws,Nat.reduceAdd,Oy,Oz,List.map,Qp,Qm,Q3,D.ev,O1,O2];intro a1 _;have b1:=Zi a1;refine⟨fun n=>?_,fun n=>?_⟩
 ·have hs:Y5 (e 0):=by unfold Y5;omega
  exact⟨hs,fun a _=>by rw[if_pos hs,a]⟩
 intro a2 _;have b2:=Zi a2;refine⟨fun n=>?_,fun n=>?_⟩
 ·have hs:Y5 (e 0):=by unfold Y5;omega
  exact⟨hs,fun a _=>by rw[if_pos hs,a]⟩
 intro a3 _ a4 _;have b3:=Zi a3;have b4:=Z6 a4;refine⟨fun n=>?_,fun n=>?_⟩
 ·rw[if_neg (by unfold Y5;omega)]
 ·have hs:Y5 (e 0):=by unfold Y5;omega
  exact⟨hs,fun a _=>by rw[if_pos hs,a]⟩
def br2(b:Nat):Qn:=(.req 0 [.v 0]
(.l b .num (.app 0 0 [.v 0])
(.req 1 [.v 1,(.v b)]
(.l (b+1) (.int .i64) (.app 1 0 [.v 1,(.v b)])
(.l (b+2) .bit (.cmp .geq (.v (b+1)) (.lit 0))
(.split (b+2)
 (.ret [.lit 0,.lit 2])
 (.req 1 [.v 2,(.v b)]
 (.l (b+3) (.int .i64) (.app 1 0 [.v 2,(.v b)])
 (.l (b+4) .bit (.cmp .geq (.v (b+3)) (.lit 0))
 (.split (b+4)
 (.ret [.lit 0,.lit 2])
 (.req 2 [(.v b)]
 (.l (b+5) .num (.app 2 0 [(.v b)])
 (.l (b+6) (.int .u64) (.app 2 1 [(.v b)])
 (.l (b+7) .num (.app 2 2 [(.v b)])
 (.req 3 [(.v (b+5)),(.v (b+6)),(.v (b+7)),.v 1,.v 2]
 (.l (b+8) .num (.app 3 0 [(.v (b+5)),(.v (b+6)),(.v (b+7)),.v 1,.v 2])
 (.ret [(.v (b+8)),.lit 0])))))))))))))))))
def tS2:Qn:=(.l 3 .bit (.cmp .eql (.v 0) (.lit 0))
(.split 3
(br2 4)
(.l 4 .bit (.cmp .eql (.v 0) (.lit 1))
(.split 4
(br2 5)
(.l 5 .bit (.cmp .eql (.v 0) (.lit 2))
(.l 6 .bit (.not (.v 5))
(.split 6
(.ret [.lit 0,.lit 2])
(br2 7))))))))
theorem Qnx{a b v w:Int}(h:v=if a<b then -1 else if a=b then 0 else 1)(hw:w=X6 (Ur .geq v 0)):(w=1/\b<=a)∨(w=0/\a<b):=by
 have:=Bt hw;split at h
 ·omega
 ·split at h <;> omega
theorem Qlu{Y:K}{op:Int->Int->Int}(f0 f1 f2:FuncId)(te:TypeId)(hpre:∀n l w a b,Wr n l w->Y.pre [n,l,w,a,b])(hsem:∀n l w a b,Y.sem [n,l,w,a,b]=[op a b%n])(e:Nat->Int)(hs:Y5 (e 0))(b:Nat) :
  (br2 b).Xij [Wl f0,Yj f1,Qgb f2 te,Y] ⟨fun ys=>ys=Qu2 op [e 0,e 1,e 2],[]⟩ e:=by
 simp only[br2,Wl,Yj,Qgb,Qu2,hsem,Qn.Xij,xw,xws,Nat.reduceAdd,Oy,Oz,List.map,Qp,Qm,Q3,D.ev,O1,O2];refine⟨hs,fun a0 _=>⟨trivial,fun a1 _ a2 _=>?_⟩⟩;have b2:=Qnx a1 a2;rw[a0]at b2;refine⟨fun n=>by rw[if_neg (by omega)],fun n=>⟨trivial,fun a3 _ a4 _=>?_⟩⟩;have b4:=Qnx a3 a4;rw[a0]at b4;refine⟨fun n'=>by rw[if_neg (by omega)],fun n'=>?_⟩;obtain⟨r1,r2,r3⟩:=Zj9 hs;rw[a0];refine⟨⟨r1,r2,r3⟩,fun a5 _ a6 _ a7 _=>⟨hpre _ _ _ _ _ (by rw[a5,a6,a7];exact Qgh r1 r2 r3),fun a8 _=>?_⟩⟩;rw[if_pos ⟨hs,by omega,by omega⟩,a8,a5]
theorem Xar{Y:K}{op:Int->Int->Int}(f0 f1 f2 f:FuncId)(te:TypeId)(hpre:∀n l w a b,Wr n l w->Y.pre [n,l,w,a,b])(hsem:∀n l w a b,Y.sem [n,l,w,a,b]=[op a b%n])(e:Nat->Int) :
  tS2.Xij [Wl f0,Yj f1,Qgb f2 te,Y] ⟨fun ys=>ys=(kS2 f op).sem [e 0,e 1,e 2],[]⟩ e:=by
 unfold tS2;intro a1 _;have b1:=Zi a1;simp only[Qm,Qp]at b1;refine⟨fun n=>Qlu f0 f1 f2 te hpre hsem e (by unfold Y5;omega) _,fun n=>?_⟩;intro a2 _;have b2:=Zi a2;simp only[Qm,Qp]at b2;refine⟨fun n=>Qlu f0 f1 f2 te hpre hsem e (by unfold Y5;omega) _,fun n=>?_⟩;intro a3 _ a4 _;have b3:=Zi a3;have b4:=Z6 a4;simp only[Qm,Qp]at b3 b4;refine⟨fun n=>?_,fun n=>Qlu f0 f1 f2 te hpre hsem e (by unfold Y5;omega) _⟩;show[(0:Int),2]=Qu2 op [e 0,e 1,e 2];simp only[Qu2];rw[if_neg (by unfold Y5;omega)]
def br1(b:Nat)(j:Bool):Qn:=(.req 0 [.v 0]
 (.l b .num (.app 0 0 [.v 0])
 (.req 1 [.v 1,(.v b)]
 (.l (b+1) (.int .i64) (.app 1 0 [.v 1,(.v b)])
 (.l (b+2) .bit (.cmp .geq (.v (b+1)) (.lit 0))
 (.split (b+2)
  (.ret [.lit 0,.lit 2])
  (.req 2 [(.v b)]
  (.l (b+3) .num (.app 2 0 [(.v b)])
  (.l (b+4) (.int .u64) (.app 2 1 [(.v b)])
  (.l (b+5) .num (.app 2 2 [(.v b)])
  (.req 3 [(.v (b+3)),(.v (b+4)),(.v (b+5)),.v 1]
  (.l (b+6) .num (.app 3 0 [(.v (b+3)),(.v (b+4)),(.v (b+5)),.v 1])
   (if j then(.l (b+7) (.int .i64) (.app 3 1 [(.v (b+3)),(.v (b+4)),(.v (b+5)),.v 1]) (.ret [(.v (b+6)),(.v (b+7))]))else(.ret [(.v (b+6)),.lit 0]))))))))))))))
def tS1(j:Bool):Qn:=(.l 2 .bit (.cmp .eql (.v 0) (.lit 0))
(.split 2 (br1 3 j)
(.l 3 .bit (.cmp .eql (.v 0) (.lit 1))
(.split 3 (br1 4 j)
(.l 4 .bit (.cmp .eql (.v 0) (.lit 2))
(.l 5 .bit (.not (.v 4))
(.split 5
 (.ret [.lit 0,.lit 2])
 (br1 6 j))))))))
theorem Ztu(f0 f1 f2 f3 f:FuncId)(te:TypeId)(e:Nat->Int)(hs:Y5 (e 0))(b:Nat) :
  (br1 b true).Xij [Wl f0,Yj f1,Qgb f2 te,Qn2 f3] ⟨fun ys=>ys=(Qdm f).sem [e 0,e 1],[]⟩ e:=by
 simp only[br1,Wl,Yj,Qgb,Qn2,Qdm,if_true,Qn.Xij,xw,xws,Nat.reduceAdd,Oy,Oz,List.map,Qp,Qm,Q3,D.ev,O1,O2];refine⟨hs,fun a0 _=>⟨trivial,fun a1 _ a2 _=>?_⟩⟩;have b2:=Qnx a1 a2;rw[a0]at b2;refine⟨fun n=>by rw[if_neg (by omega)],fun n=>?_⟩;obtain⟨r1,r2,r3⟩:=Zj9 hs;rw[a0];refine⟨⟨r1,r2,r3⟩,fun a5 _ a6 _ a7 _=>⟨by rw[a5,a6,a7];exact Qgh r1 r2 r3,fun a8 _ a9 _=>?_⟩⟩;rw[if_pos ⟨hs,by omega⟩,a8,a9,a5]
theorem Zsm{T:List K}{G:Gl}{j:Bool}(e:Nat->Int)(hb:Y5 (e 0)->∀b,(br1 b j).Xij T G e)(hn:¬Y5 (e 0)->G.goal [0,2]):(tS1 j).Xij T G e:=by
 unfold tS1;intro a1 _;have b1:=Zi a1;simp only[Qm,Qp]at b1;refine⟨fun n=>hb (by unfold Y5;omega) _,fun n=>?_⟩;intro a2 _;have b2:=Zi a2;simp only[Qm,Qp]at b2;refine⟨fun n=>hb (by unfold Y5;omega) _,fun n=>?_⟩;intro a3 _ a4 _;have b3:=Zi a3;have b4:=Z6 a4;simp only[Qm,Qp]at b3 b4;exact⟨fun n=>hn (by unfold Y5;omega),fun n=>hb (by unfold Y5;omega) _⟩
theorem Zp9(f0 f1 f2 f3 f:FuncId)(te:TypeId)(e:Nat->Int):(tS1 true).Xij [Wl f0,Yj f1,Qgb f2 te,Qn2 f3] ⟨fun ys=>ys=(Qdm f).sem [e 0,e 1],[]⟩ e :=
 Zsm e (fun hs b=>Ztu f0 f1 f2 f3 f te e hs b) fun hn=>by simp only[Qdm];rw[if_neg (fun h=>hn h.1)]
def Zye:Qn:=(.l 1 kU (.bin .shl .u64 (.m 0 1) (.lit 63))
(.l 386 kU (.bin .shr .u64 (.m 0 0) (.lit 1))
(.l 434 kU (.bin .or .u64 (.v 1) (.v 386))
(.l 578 kU (.bin .shl .u64 (.m 0 2) (.lit 63))
(.l 963 kU (.bin .shr .u64 (.m 0 1) (.lit 1))
(.l 1011 kU (.bin .or .u64 (.v 578) (.v 963))
(.l 1155 kU (.bin .shl .u64 (.m 0 3) (.lit 63))
(.l 1540 kU (.bin .shr .u64 (.m 0 2) (.lit 1))
(.l 1588 kU (.bin .or .u64 (.v 1155) (.v 1540))
(.l 1732 kU (.bin .shl .u64 (.m 0 4) (.lit 63))
(.l 2117 kU (.bin .shr .u64 (.m 0 3) (.lit 1))
(.l 2165 kU (.bin .or .u64 (.v 1732) (.v 2117))
(.l 2309 kU (.bin .shl .u64 (.m 0 5) (.lit 63))
(.l 2694 kU (.bin .shr .u64 (.m 0 4) (.lit 1))
(.l 2742 kU (.bin .or .u64 (.v 2309) (.v 2694))
(.l 3270 kU (.bin .shr .u64 (.m 0 5) (.lit 1))
(.l 3318 kU (.bin .or .u64 (.lit 0) (.v 3270))
(.l 3462 .num (.join [.v 434,.v 1011,.v 1588,.v 2165,.v 2742,.v 3318])
(.ret [.v 3462])))))))))))))))))))
theorem Zq2(f:FuncId)(e:Nat->Int)(hk:Qy [.num] [e 0]):Zye.Xij [] ⟨fun ys=>ys=(Qu7 f).sem [e 0],[]⟩ e:=by
 have h0:=hk.1;have z:=Qes e;simp only[Zye,Qu7,Qn.Xij,xw,xws,Nat.reduceAdd,Oy,Oz,List.map,Qp,Qm,Q3,D.ev,O1,O2];intro s1 _ r1 _ o1 _ s2 _ r2 _ o2 _ s3 _ r3 _ o3 _ s4 _ r4 _ o4 _ s5 _ r5 _ o5 _ r6 _ o6 _ aj _;have hj:=Qis h0 (Bm o1 s1 r1 (z _ _) (z _ _)) (Bm o2 s2 r2 (z _ _) (z _ _)) (Bm o3 s3 r3 (z _ _) (z _ _)) (Bm o4 s4 r4 (z _ _) (z _ _)) (Bm o5 s5 r5 (z _ _) (z _ _)) (Zzf o6 r6 (z _ _));rw[<- aj]at hj;rw[hj]
theorem Xd0{a b n:Int}(ha:0<=a/\a<n)(hb:0<=b/\b<n)(z:Int)(h:a=b+n*z):a=b:=by
 have:=md z h;rwa[Ox ha.1 ha.2,Ox hb.1 hb.2]at this
theorem md1{x n:Int}(h:x%n=1):∃z,x=1+n*z:=⟨x/n,by have:=Ls x n;omega⟩
theorem Zd8{n a y:Int}(h0:0<=y/\y<n)(h:a*y%n=1):Zhs n a=y/\∃y,0<=y/\y<n/\a*y%n=1:=by
 have hex:∃y,0<=y/\y<n/\a*y%n=1:=⟨y,h0.1,h0.2,h⟩
 refine⟨?_,hex⟩;unfold Zhs;rw[dif_pos hex];obtain⟨c0,c1,c2⟩:=hex.choose_spec;generalize hex.choose=c at *
 obtain⟨s,hs⟩:=md1 h;obtain⟨t,ht⟩:=md1 c2;refine Xd0 ⟨c0,c1⟩ h0 (t*y-c*s) ?_;have e1:c*(a*y)=c*(1+n*s):=by rw[hs]
 have e2:y*(a*c)=y*(1+n*t):=by rw[ht]
 grind
theorem Zgd{n a:Int}(h:¬ ∃y,0<=y/\y<n/\a*y%n=1):Zhs n a=0:=by unfold Zhs;rw[dif_neg h]
def Zxm:Qn:=(.l 4 .bit (.cmp .eql (.v 1) (.lit 0))
(.split 4
(.ret [.lit 0,.lit 1])
(xw 1 [.v 0,.v 1,.v 2,.v 3] 101 Q7
(xw 0 [.lit 1] 533 Q7
(.loop [.v 101,.v 0,.v 533,.lit 0] [.num,.num,.num,.num] 534
(.l 538 .bit (.eqs [((.m 534 0),(.lit 0)),((.m 534 1),(.lit 0)),((.m 534 2),(.lit 0)),((.m 534 3),(.lit 0)),((.m 534 4),(.lit 0)),((.m 534 5),(.lit 0))])
(.l 539 .bit (.not (.v 538))
(.split 539
(.l 540 kU (.bin .and .u64 (.m 534 0) (.lit 1))
(.l 541 .bit (.cmp .eql (.v 540) (.lit 0))
(.split 541
(xw 2 [.v 534] 590 Q7
(xw 3 [.v 0,.v 1,.v 2,.v 536] 734 Q7
(.back 0 [.v 590,.v 535,.v 734,.v 537])))
(.l 542 kU (.bin .and .u64 (.m 535 0) (.lit 1))
(.l 543 .bit (.cmp .eql (.v 542) (.lit 0))
(.split 543
(xw 2 [.v 535] 592 Q7
(xw 3 [.v 0,.v 1,.v 2,.v 537] 736 Q7
(.back 0 [.v 534,.v 592,.v 536,.v 736])))
(xw 4 [.v 534,.v 535] 544 qoa
(.l 545 .bit (.cmp .geq (.v 544) (.lit 0))
(.split 545
(xw 5 [.v 534,.v 535] 546 qja
(xw 6 [.v 0,.v 1,.v 2,.v 536,.v 537] 548 Q7
(.back 0 [.v 546,.v 535,.v 548,.v 537])))
(xw 5 [.v 535,.v 534] 546 qja
(xw 6 [.v 0,.v 1,.v 2,.v 537,.v 536] 548 Q7
(.back 0 [.v 534,.v 546,.v 536,.v 548]))))))))))))
(xw 0 [.lit 1] 588 Q7
(.l 636 .bit (.eqs [((.m 535 0),(.m 588 0)),((.m 535 1),(.m 588 1)),((.m 535 2),(.m 588 2)),((.m 535 3),(.m 588 3)),((.m 535 4),(.m 588 4)),((.m 535 5),(.m 588 5))])
(.l 637 .bit (.not (.v 636))
(.split 637
(.ret [.lit 0,.lit 6])
(.ret [.v 537,.lit 0])))))))))))))
def Zgs(n a:Int):List Int->Prop
 |[u,v,x,y]=>1<=v/\x<n/\y<n/\(∃z,x*a=u+n*z)/\(∃z,y*a=v+n*z)/\(∀d:Int,d∣u->d∣v->d∣a/\d∣n)
 |_=>False
def Qim:List Int->Nat
 |[u,v,_,_]=>(u+v).toNat
 |_=>0
theorem Qqm{n a u x:Int}(ho:n%2=1)(hu:u%2=0)(h:∃z,x*a=u+n*z):∃z,(x*Zt n%n)*a=u/2+n*z:=by
 obtain⟨z,hz⟩:=h;obtain⟨t,ht⟩:=Wd (x:=x*Zt n) (n:=n);have e2:2*Zt n=n+1:=by unfold Zt;omega
 have hu2:u=2*(u/2):=by omega
 generalize u/2=w at *
 generalize Zt n=i at *
 rw[ht];refine⟨w+z*i+t*a,?_⟩;have e1:x*a*i=(u+n*z)*i:=by rw[hz]
 have e3:u*i=w*(n+1):=by rw[hu2,<- e2];grind
 grind
theorem Qve{n a u v x y:Int}(h:∃z,x*a=u+n*z)(h':∃z,y*a=v+n*z):∃z,((x-y)%n)*a=(u-v)+n*z:=by
 obtain⟨z,hz⟩:=h;obtain⟨w,hw⟩:=h';obtain⟨t,ht⟩:=Wd (x:=x-y) (n:=n);rw[ht];exact⟨z-w+t*a,by grind⟩
theorem Zod(f0 f1 f2 f3 f4 f5 f6 f:FuncId)(e:Nat->Int)(hk:Qy [.num,.int .u64,.num,.num] [e 0,e 1,e 2,e 3])(hp:(Qn2 f).pre [e 0,e 1,e 2,e 3]) :
  Zxm.Xij [kOf f0,W4 f1,Qu7 f2,Qpx f3,Yj f4,Qdg f5,Qjd f6] ⟨fun ys=>ys=(Qn2 f).sem [e 0,e 1,e 2,e 3],[]⟩ e:=by
 obtain⟨hm,hw⟩:=hp;have hn3:=hm.2.1;have hl:=hm.lt;have ho:=hm.odd;have hlow:=hm.Xjb;have h0:=hk.1;simp only[KK.has]at h0;simp only[Zxm,kOf,W4,Qu7,Qpx,Yj,Qdg,Qjd,Qn2,Qn.Xij,xw,xws,Nat.reduceAdd,Oy,Oz,List.map,Qp,Qm,Q3,D.ev,O1,O2];intro a4 _;have b4:=Zi a4;refine⟨fun n=>by omega,fun n=>⟨⟨hm,hw⟩,fun a5 _=>⟨trivial,fun a6 _=>?_⟩⟩⟩;refine⟨Zgs (e 0) (e 3),Qim,?_,fun e' he hkk hI=>?_⟩
 ·rw[a5,a6];refine⟨by omega,by omega,by omega,?_,⟨-1,by omega⟩,fun d d1 d2=>⟨?_,d2⟩⟩
  ·obtain⟨z,hz⟩:=Wd (x:=e 3) (n:=e 0);exact⟨-z,by rw[hz];grind⟩
  ·have:=Ls (e 3) (e 0);rw[<- this];exact Oaq d1 (Int.dvd_trans d2 (Oaf ..))
 ·obtain⟨i1,i2,i3,i4,i5,i6⟩:Zgs (e 0) (e 3) [e' 534,e' 535,e' 536,e' 537]:=hI;obtain⟨k1,k2,k3,k4,_⟩:Qy [.num,.num,.num,.num] [e' 534,e' 535,e' 536,e' 537]:=hkk;simp only[KK.has]at k1 k2 k3 k4;have m0:e' 0=e 0:=he 0 (by decide);have m1:e' 1=e 1:=he 1 (by decide);have m2:e' 2=e 2:=he 2 (by decide);have z:=Qes e';have hmod:∀i,Q0 (e' i) 0=e' i%18446744073709551616:=fun i=>Qp8 _
  intro c1 _ c2 _;have d1:=Qao c1 k1;have d2:=Z6 c2;refine⟨fun hs=>?_,fun hs=>?_⟩
  ·have hu:1<=e' 534:=by omega
   intro g1 _ g2 _;have j1:=Qno g1 (z 534 0);have j2:=Zi g2;rw[hmod 534]at j1;refine⟨fun hs2=>?_,fun hs2=>?_⟩
   ·refine⟨trivial,fun r1 _=>⟨by rw[m0,m1,m2];exact⟨⟨hm,hw⟩,i2⟩,fun r2 _=>?_⟩⟩;rw[m0]at r2;have hev:e' 534%2=0:=by clear g1 z;omega
    show Zgs (e 0) (e 3) [e' 590,e' 535,e' 734,e' 537]/\Qim [e' 590,e' 535,e' 734,e' 537]<Qim [e' 534,e' 535,e' 536,e' 537];rw[r1,r2];refine⟨⟨i1,(Zl (by omega)).2,i3,Qqm ho hev i4,i5,fun d x1 x2=>i6 d ?_ x2⟩,?_⟩
    ·rw[show e' 534=e' 534/2*2 by clear g1 z;omega];exact Int.dvd_trans x1 (Oaf ..)
    ·simp only[Qim];clear g1 z;omega
   ·intro g3 _ g4 _;have j3:=Qno g3 (z 535 0);have j4:=Zi g4;rw[hmod 535]at j3;refine⟨fun hs3=>?_,fun hs3=>?_⟩
    ·refine⟨trivial,fun r1 _=>⟨by rw[m0,m1,m2];exact⟨⟨hm,hw⟩,i3⟩,fun r2 _=>?_⟩⟩;rw[m0]at r2;have hev:e' 535%2=0:=by clear g1 g3 z;omega
     show Zgs (e 0) (e 3) [e' 534,e' 592,e' 536,e' 736]/\Qim [e' 534,e' 592,e' 536,e' 736]<Qim [e' 534,e' 535,e' 536,e' 537];rw[r1,r2];refine⟨⟨by clear g1 g3 z;omega,i2,(Zl (by omega)).2,i4,Qqm ho hev i5,fun d x1 x2=>i6 d x1 ?_⟩,?_⟩
     ·rw[show e' 535=e' 535/2*2 by clear g1 g3 z;omega];exact Int.dvd_trans x2 (Oaf ..)
     ·simp only[Qim];clear g1 g3 z;omega
    ·refine⟨trivial,fun r1 _ r2 _=>?_⟩;have q:=Qnx r1 r2;clear g1 g3 z r1 r2;refine⟨fun hs4=>?_,fun hs4=>?_⟩
     ·refine⟨trivial,fun r3 _ _ _=>⟨by rw[m0,m1,m2];exact⟨hm,hw⟩,fun r4 _=>?_⟩⟩;rw[m0]at r4;rw[Ox (by omega) (by omega)]at r3;show Zgs (e 0) (e 3) [e' 546,e' 535,e' 548,e' 537]/\Qim [e' 546,e' 535,e' 548,e' 537]<Qim [e' 534,e' 535,e' 536,e' 537];rw[r3,r4];refine⟨⟨i1,(Zl (by omega)).2,i3,Qve i4 i5,i5,fun d x1 x2=>i6 d ?_ x2⟩,?_⟩
      ·rw[show e' 534=e' 534-e' 535+e' 535 by omega];exact Oaq x1 x2
      ·simp only[Qim];omega
     ·refine⟨trivial,fun r3 _ _ _=>⟨by rw[m0,m1,m2];exact⟨hm,hw⟩,fun r4 _=>?_⟩⟩;rw[m0]at r4;rw[Ox (by omega) (by omega)]at r3;show Zgs (e 0) (e 3) [e' 534,e' 546,e' 536,e' 548]/\Qim [e' 534,e' 546,e' 536,e' 548]<Qim [e' 534,e' 535,e' 536,e' 537];rw[r3,r4];refine⟨⟨by omega,i2,(Zl (by omega)).2,i4,Qve i5 i4,fun d x1 x2=>i6 d x1 ?_⟩,?_⟩
      ·rw[show e' 535=e' 535-e' 534+e' 534 by omega];exact Oaq x2 x1
      ·simp only[Qim];omega
  ·have hu:e' 534=0:=by omega
   rw[hu]at i6;refine⟨trivial,fun r1 _ r2 _ r3 _=>?_⟩;have t2:=Qmx r2 k2 (by rw[r1];unfold Qv;decide);have t3:=Z6 r3;rw[r1]at t2;refine⟨fun hs2=>?_,fun hs2=>?_⟩
   ·have hno:¬ ∃y,0<=y/\y<e 0/\e 3*y%e 0=1:=by
     rintro ⟨y,_,_,hy⟩
     obtain⟨q1,q2⟩:=i6 (e' 535) (Int.dvd_zero _) (L5 _);obtain⟨t,ht⟩:=md1 hy;have:e' 535∣1:=by
      have h1:(1:Int)=e 3*y-e 0*t:=by omega
      rw[h1];exact Int.dvd_sub (Int.dvd_trans q1 (Oaf ..)) (Int.dvd_trans q2 (Oaf ..))
     have:=Int.le_of_dvd (by decide) this;omega
    rw[Zgd hno,if_neg hno]
   ·have hv:e' 535=1:=by omega
    obtain⟨t,ht⟩:=i5;obtain⟨q1,q2⟩:=Zd8 (n:=e 0) (a:=e 3) (y:=e' 537) ⟨k4.1,i3⟩ (Jd t (by rw[Mw,ht,hv]) (by decide) (by omega));rw[q1,if_pos q2]
def Xbq(lvl n m:Nat)(k:Nat->A->Qn):Qn :=
 (.l m (.int .u64) (.bin .sub .u64 (.v n) (.lit 1))
 (.l (m+1) (.int .u64) (.bin .add .u64 (.v (n+1)) (.v 10))
 (.l (m+2) .bit (.cmp .geq (.v (m+1)) (.lit 4294967296))
 (.split (m+2) (k (m+3) (.v m)) (.back lvl [.v m,.v (m+1)])))))
def Xca(lvl n w:Nat)(q0 r0:A)(k:Nat->A->Qn):Qn :=
 (.loop [q0,r0] [(.int .u64),(.int .u64)] n
 (.l (n+2) .bit (.cmp .geq (.v n) (.lit 4294967296))
 (.split (n+2) (Xbq lvl n (n+3) k)
 (.l (n+3) (.int .u64) (.bin .mul .u64 (.v n) (.v 11))
 (.l (n+4) (.int .u64) (.bin .mul .u64 (.lit 4294967296) (.v (n+1)))
 (.l (n+5) (.int .u64) (.bin .add .u64 (.v (n+4)) (.v w))
 (.l (n+6) .bit (.cmp .gtr (.v (n+3)) (.v (n+5)))
 (.split (n+6) (Xbq lvl n (n+7) k) (k (n+7) (.v n))))))))))
def k2T(c:Nat)(q1:A)(b:Nat)(q0:A):Qn :=
 (.l b (.int .u64) (.bin .mul .u64 q1 (.lit 4294967296))
 (.l (b+1) (.int .u64) (.bin .add .u64 (.v b) q0)
 (.l (b+2) (.int .u64) (.bin .mul .u64 (.v (c+3)) (.lit 4294967296))
 (.l (b+3) (.int .u64) (.bin .add .u64 (.v (b+2)) (.v 18))
 (.l (b+4) (.int .u64) (.bin .mul .u64 q0 (.v 9))
 (.l (b+5) (.int .u64) (.bin .sub .u64 (.v (b+3)) (.v (b+4)))
 (.l (b+6) (.int .u64) (.bin .shr .u64 (.v (b+5)) (.v 8))
 (.ret [.v (b+1),.v (b+6)]))))))))
def k1T(b:Nat)(q1:A):Qn :=
 (.l b (.int .u64) (.bin .mul .u64 (.v 15) (.lit 4294967296))
 (.l (b+1) (.int .u64) (.bin .add .u64 (.v b) (.v 17))
 (.l (b+2) (.int .u64) (.bin .mul .u64 q1 (.v 9))
 (.l (b+3) (.int .u64) (.bin .sub .u64 (.v (b+1)) (.v (b+2)))
 (.l (b+4) (.int .u64) (.bin .quo .u64 (.v (b+3)) (.v 10))
 (.nz (.v 10)
 (.l (b+5) (.int .u64) (.bin .mul .u64 (.v (b+4)) (.v 10))
 (.l (b+6) (.int .u64) (.bin .sub .u64 (.v (b+3)) (.v (b+5)))
 (Xca 1 (b+7) 18 (.v (b+4)) (.v (b+6)) (k2T b q1))))))))))
def Zk0:Qn :=
(.l 3 .bit (.cmp .eql (.v 2) (.lit 0))
(.split 3
 (.bad 41 "bits.go:520")
 (.l 4 .bit (.cmp .leq (.v 2) (.v 0))
 (.split 4
  (.bad 41 "bits.go:523")
  (.l 5 .bit (.cmp .eql (.v 0) (.lit 0))
  (.split 5
  (.l 102 (.int .u64) (.bin .quo .u64 (.v 1) (.v 2))
  (.nz (.v 2)
  (.l 246 (.int .u64) (.bin .rem .u64 (.v 1) (.v 2))
  (.nz (.v 2)
  (.ret [.v 102,.v 246])))))
  (.req 0 [.v 2]
  (.l 6 (.int .i64) (.app 0 0 [.v 2])
  (.l 7 (.int .i64) (.bin .sub .i64 (.lit 64) (.v 6))
  (.l 8 (.int .u64) (.conv .u64 (.v 7))
  (.l 9 (.int .u64) (.bin .shl .u64 (.v 2) (.v 8))
  (.l 10 (.int .u64) (.bin .shr .u64 (.v 9) (.lit 32))
  (.l 11 (.int .u64) (.bin .and .u64 (.v 9) (.lit 4294967295))
  (.l 12 (.int .u64) (.bin .shl .u64 (.v 0) (.v 8))
  (.l 13 (.int .u64) (.bin .sub .u64 (.lit 64) (.v 8))
  (.l 14 (.int .u64) (.bin .shr .u64 (.v 1) (.v 13))
  (.l 15 (.int .u64) (.bin .or .u64 (.v 12) (.v 14))
  (.l 16 (.int .u64) (.bin .shl .u64 (.v 1) (.v 8))
  (.l 17 (.int .u64) (.bin .shr .u64 (.v 16) (.lit 32))
  (.l 18 (.int .u64) (.bin .and .u64 (.v 16) (.lit 4294967295))
  (.l 19 (.int .u64) (.bin .quo .u64 (.v 15) (.v 10))
  (.nz (.v 10)
  (.l 20 (.int .u64) (.bin .mul .u64 (.v 19) (.v 10))
  (.l 21 (.int .u64) (.bin .sub .u64 (.v 15) (.v 20))
   (Xca 0 22 17 (.v 19) (.v 21) k1T)))))))))))))))))))))))))
def Zpp(X0 Y y1 u:Int):List Int->Prop
 |[q,r]=>q*y1+r=X0/\0<=r/\r<4294967296/\X0*4294967296+u<(q+1)*Y/\0<=q/\q<=4294967297
 |_=>False
theorem Qre{X Y q:Int}(hY:0<Y)(h1:q*Y<=X)(h2:X<(q+1)*Y):q=X/Y:=by
 have a1:=Int.le_ediv_of_mul_le hY h1;have a2:=Int.ediv_lt_of_lt_mul hY h2;omega
theorem Qqs{T:List K}{G:Gl}{e:Nat->Int}{lvl n w:Nat}{q0 r0:A}{k:Nat->A->Qn}{X0 Y:Int}(hn:19<=n)(hwn:w<n)(h10:e 10=Y/4294967296)(h11:e 11=Y%4294967296)(hY:9223372036854775808<=Y/\Y<18446744073709551616)
  (hD:0<=X0/\X0<Y) (hu:0<=e w/\e w<4294967296) (hq:q0.ev e=X0/(Y/4294967296)) (hr:r0.ev e=X0%(Y/4294967296)) (hl:G.stk.length=lvl)
  (hk:∀(e':Nat->Int) (b q:Nat) (G':Gl),(∀i,i<n->e' i=e i)->e' q=(X0*4294967296+e w)/Y->G'.goal=G.goal->G'.stk.length=lvl+1->n<=q->q<b->(k b (.v q)).Xij T G' e'):(Xca lvl n w q0 r0 k).Xij T G e:=by
 refine⟨Zpp X0 Y (Y/4294967296) (e w),fun|[q,_]=>q.toNat|_=>0,?_,fun e' he hkk hI=>?_⟩
 ·show Zpp X0 Y (Y/4294967296) (e w) [q0.ev e,r0.ev e];rw[hq,hr];have hy1:2147483648<=Y/4294967296/\Y/4294967296<4294967296:=by omega
  have hm:=Ls X0 (Y/4294967296);have hlt:=Mt X0 (show 0<Y/4294967296 by omega);have hnn:=Mr X0 (show Y/4294967296≠0 by omega);have hq0:0<=X0/(Y/4294967296):=M4 hD.1 (by omega);rw[Mw (Y/4294967296)]at hm;generalize X0/(Y/4294967296)=q at *
  generalize X0%(Y/4294967296)=r at *
  have hYe:Y=Y/4294967296*4294967296+Y%4294967296:=by omega
  have hy0:0<=Y%4294967296/\Y%4294967296<4294967296:=by omega
  generalize Y/4294967296=y1 at *
  generalize Y%4294967296=y0 at *
  have e1:(q+1)*Y=4294967296*(q*y1)+4294967296*y1+(q+1)*y0:=by rw[hYe];grind
  have e2:0<=(q+1)*y0:=Ks (by omega) hy0.1;refine⟨by omega,hnn,by omega,by omega,hq0,?_⟩;by_cases hc:q<=4294967297
  ·exact hc
  ·exfalso;have h1:4294967298*y1<=q*y1:=Mz (by omega) (by omega);omega
 ·obtain⟨i1,i2,i3,i4,i5,i6⟩:Zpp X0 Y (Y/4294967296) (e w) [e' n,e' (n+1)]:=hI;have m10:e' 10=Y/4294967296:=(he 10 (by omega)).trans h10;have m11:e' 11=Y%4294967296:=(he 11 (by omega)).trans h11;have mw:e' w=e w:=he w hwn;have hy1:2147483648<=Y/4294967296/\Y/4294967296<4294967296:=by omega
  have hYe:Y=Y/4294967296*4294967296+Y%4294967296:=by omega
  have hy0:0<=Y%4294967296/\Y%4294967296<4294967296:=by omega
  have dec:∀m,n+3<=m->X0*4294967296+e w<e' n*Y->1<=e' n ->
    (Xbq lvl n m k).Xij T {G with stk:=G.stk++[fun us=>Zpp X0 Y (Y/4294967296) (e w) us/\(match us with|[q,_]=>q.toNat|_=>0)<(match J1 e' n 2 with|[q,_]=>q.toNat|_=>0)] } e':=by
   intro m hm hX hq1 a1 _ a2 _ a3 _;simp only[D.ev,Qm,Qp,Qw,wr]at a1 a2;have b3:=Bt a3;simp only[Qm,Qp]at b3;rw[m10]at a2;have hq':e' m=e' n-1:=by rw[a1];omega
   have hr':e' (m+1)=e' (n+1)+Y/4294967296:=by rw[a2];omega
   generalize Y/4294967296=y1 at *
   generalize Y%4294967296=y0 at *
   have e1:(e' n-1)*Y=4294967296*(e' n*y1)-4294967296*y1+(e' n-1)*y0:=by rw[hYe];grind
   have e2:(e' n-1)*y1=e' n*y1-y1:=by grind
   refine⟨fun hs=>?_,fun hs=>?_⟩
   ·refine hk e' (m+3) m _ (fun i hi=>he i hi) ?_ rfl (by simp[hl]) (by omega) (by omega);show e' m=_;rw[hq'];have e3:(e' n-1)*y0<=4294967296*4294967295:=Oag (by omega) (by omega) hy0.1 (by omega);exact Qre (by omega) (by omega) (by rw[Kt];exact hX)
   ·show match (G.stk++[_])[lvl]? with|some R=>R ([A.v m,A.v (m+1)].map (·.ev e'))|none=>False
    rw[<- hl,O7 (Nat.le_refl _)];simp only[Nat.sub_self,Oy,List.map,Qm];show Zpp X0 Y y1 (e w) [e' m,e' (m+1)]/\(e' m).toNat<(e' n).toNat;rw[hq',hr'];refine⟨⟨?_,by omega,by omega,by rw[Kt];exact hX,by omega,by omega⟩,by omega⟩;omega
  intro a2 _;have b2:=Bt a2;simp only[Qm,Qp]at b2;have eY:e' n*Y=4294967296*(e' n*(Y/4294967296))+e' n*(Y%4294967296):=by
   generalize Y/4294967296=y1 at *
   generalize Y%4294967296=y0 at *
   rw[hYe];grind
  refine⟨fun hs=>?_,fun hs=>?_⟩
  ·refine dec (n+3) (by omega) ?_ (by omega);have:4294967296*Y<=e' n*Y:=Mz (by omega) (by omega);omega
  ·intro a3 _ a4 _ a5 _ a6 _;simp only[D.ev,Qm,Qp,Qw,wr]at a3 a4 a5;have b6:=Qnw a6;simp only[Qm,Qp]at b6;rw[m11]at a3;rw[mw]at a5;have p0:0<=e' n*(Y%4294967296)/\e' n*(Y%4294967296)<=4294967295*4294967295:=⟨Ks i5 hy0.1,Oag (by omega) (by omega) hy0.1 (by omega)⟩
   have c3:e' (n+3)=e' n*(Y%4294967296):=by rw[a3];exact Ox p0.1 (by omega)
   have c5:e' (n+5)=4294967296*e' (n+1)+e w:=by rw[a5,a4];omega
   refine⟨fun hs2=>?_,fun hs2=>?_⟩
   ·refine dec (n+7) (by omega) (by omega) ?_;by_cases hc:1<=e' n
    ·exact hc
    ·exfalso;have:e' n=0:=by omega
     rw[this]at c3;omega
   ·refine hk e' (n+7) n _ (fun i hi=>he i hi) ?_ rfl (by simp[hl]) (by omega) (by omega);show e' n=_;exact Qre (by omega) (by omega) i4
theorem Zhk{s:Nat}(hs:s<=64):(2:Int)^s*2^(64-s)=18446744073709551616:=by
 rw[<- L9,show s+(64-s)=64 by omega];decide +kernel
set_option maxHeartbeats 4000000 in
theorem Zfp(f1 f:FuncId)(e:Nat->Int)(hk:Qy [.int .u64,.int .u64,.int .u64] [e 0,e 1,e 2])(hp:(Qk7 f).pre [e 0,e 1,e 2]):Zk0.Xij [Bw f1] ⟨fun ys=>ys=(Qk7 f).sem [e 0,e 1,e 2],[]⟩ e:=by
 obtain⟨h0,h1,h2,_⟩:=hk;have u0:=Zd h0;have u1:=Zd h1;have u2:=Zd h2;have hlt:e 0<e 2:=hp;unfold Zk0;intro a3 _;have b3:=Zi a3;simp only[Qm,Qp]at b3;refine⟨fun n=>by omega,fun n=>?_⟩;intro a4 _;have b4:=Xcs a4;simp only[Qm,Qp]at b4;refine⟨fun n=>by omega,fun n=>?_⟩;intro a5 _;have b5:=Zi a5;simp only[Qm,Qp]at b5;refine⟨fun n=>?_,fun n=>?_⟩
 ·intro a6 _;refine⟨by show e 2≠0;omega,?_⟩;intro a7 _;refine⟨by show e 2≠0;omega,?_⟩;simp only[D.ev,Qm,Qw,wr]at a6 a7;rw[Kh u1.1]at a6;rw[M1 u1.1]at a7;have hle:=K5 (e 2) u1.1;have hnn:=M4 u1.1 u2.1;show[e 102,e 246]=[(e 0*18446744073709551616+e 1)/e 2,(e 0*18446744073709551616+e 1)%e 2]
  rw[show e 0=0 by omega,K7,Int.zero_add,a6,a7,Ox hnn (by omega)]
 ·have hy:1<=e 2:=by omega
  refine⟨trivial,?_⟩;intro a6 _ a7 _ a8 _ a9 _ a10 _ a11 _ a12 _ a13 _ a14 _ a15 _ a16 _ a17 _ a18 _ a19 _;have c6:e 6=Xa (e 2):=a6;have hb0:1<=Xa (e 2):=by rw[Qsc hy];have:=Ub (e 2/2);omega
  have hb1:Xa (e 2)<=64:=Wp 64 _ u2.1 (by rw[Qnj];exact u2.2);have c7:e 7=64-Xa (e 2):=by rw[a7];simp only[D.ev,Qm,Qp,Qw,wr];omega
  have c8:e 8=64-Xa (e 2):=by rw[a8];simp only[D.ev,Qm,wr];omega
  obtain⟨s,hs⟩:=Ow (show 0<=e 8 by omega);have hs64:s<=63:=by omega
  have hP:=Zhk (s:=s) (by omega);have hp1:(0:Int)<2^s:=L8 (by decide);have hp2:(0:Int)<2^(64-s):=L8 (by decide);have hyu:e 2<2^(64-s):=by
   by_cases hc:e 2<2^(64-s)
   ·exact hc
   ·have:=Qb3 (64-s) (e 2) (by omega);omega
  have hyl:(2:Int)^(63-s)<=e 2:=by
   by_cases hc:(2:Int)^(63-s)<=e 2
   ·exact hc
   ·have:=Wp (63-s) (e 2) u2.1 (by omega);omega
  have hP2:(2:Int)^s*2^(63-s)=9223372036854775808:=by
   rw[<- L9,show s+(63-s)=63 by omega];decide +kernel
  have hYu:e 2*2^s<18446744073709551616:=by
   rw[<- hP,Mw];exact Int.mul_lt_mul_of_pos_left hyu hp1
  have hYl:9223372036854775808<=e 2*2^s:=by
   rw[<- hP2,Mw (e 2)];exact Int.mul_le_mul_of_nonneg_left hyl (by omega)
  have hshl:∀ {v x:Int},v=Qw .shl .u64 x (e 8)->v=x*2^s%18446744073709551616:=by
   intro v x h;rw[h,hs];simp only[Qw];rw[show min ((s:Int).toNat) IntKind.u64.bits=s by show min s 64=s;omega,L0];rfl
  have c9:e 9=e 2*2^s:=by
   have h:=hshl a9;simp only[Qm]at h;rw[h];exact Ox (by omega) hYu
  have c10:e 10=e 9/4294967296:=Qoj a10;have c11:e 11=e 9%4294967296:=Qlt a11 (by constructor <;> omega);have hhi:e 0*2^s<=e 2*2^s-2^s:=by
   have:=Mz (show e 0<=e 2-1 by omega) (show(0:Int)<=2^s by omega);rw[Int.sub_mul,Int.one_mul]at this;exact this
  have hhi0:0<=e 0*2^s:=Ks u0.1 (by omega);have c12:e 12=e 0*2^s:=by
   have h:=hshl a12;simp only[Qm]at h;rw[h];exact Ox hhi0 (by omega)
  have c13:e 13=((64-s:Nat):Int):=by rw[a13];simp only[D.ev,Qm,Qp,Qw,wr];rw[hs];omega
  have c14:e 14=e 1/2^(64-s):=by
   rw[a14];simp only[D.ev,Qm,Qw];rw[c13,show min (((64-s:Nat):Int).toNat) IntKind.u64.bits=64-s by show min (64-s) 64=_;omega,L0];exact Kj _ (by exact Int.le_of_lt hp2)
  have hlo:e 1/2^(64-s)<2^s:=Int.ediv_lt_of_lt_mul hp2 (by rw[hP];exact u1.2);have hlo0:0<=e 1/2^(64-s):=M4 u1.1 (by omega);have c15:e 15=e 0*2^s+e 1/2^(64-s):=by
   rw[<- c12,<- c14];exact Qah (k:=s) (q:=e 0) a15 (by rw[c12,L0];rfl) u0.1 (by rw[c14,L0];exact⟨hlo0,hlo⟩) (by rw[c12,c14];omega)
  have c16:e 16=e 1*2^s%18446744073709551616:=hshl a16;have c17:e 17=e 16/4294967296:=Qoj a17;have c18:e 18=e 16%4294967296:=Qlt a18 (by constructor <;> omega);have htot:(e 0*18446744073709551616+e 1)*2^s=e 15*18446744073709551616+e 16:=by
   have h1:e 1*2^s=e 1/2^(64-s)*18446744073709551616+e 1%2^(64-s)*2^s:=by
    have hm:=Ls (e 1) (2^(64-s))
    conv=>lhs;rw[<- hm]
    rw[<- hP];grind
   have h2:0<=e 1%2^(64-s)*2^s:=Ks (Mr _ (by omega)) (by omega);have h3:e 1%2^(64-s)*2^s<18446744073709551616:=by
    rw[<- hP,Mw];exact Int.mul_lt_mul_of_pos_left (Mt _ hp2) hp1
   have h4:e 16=e 1%2^(64-s)*2^s:=by
    rw[c16];exact Jd (e 1/2^(64-s)) (by rw[h1];omega) h2 h3
   rw[c15,h4,Int.add_mul,h1,Int.add_mul];rw[Int.mul_right_comm];omega
  have hD:0<=e 15/\e 15<e 9:=by omega
  have hy1:2147483648<=e 10:=by omega
  simp only[D.ev,Qm,Qw,wr]at a19;rw[Kh hD.1]at a19;have hqn:0<=e 15/e 10:=M4 hD.1 (by omega);have hql:e 15/e 10<=e 15:=K5 _ hD.1;have c19:e 19=e 15/e 10:=by rw[a19];exact Ox hqn (by omega)
  have hmm:=Ls (e 15) (e 10);have hml:=Mt (e 15) (show 0<e 10 by omega);have hmn:=Mr (e 15) (show e 10≠0 by omega);have hpn:0<=e 10*(e 15/e 10):=Ks (by omega) hqn;refine⟨by show e 10≠0;omega,?_⟩;intro a20 _ a21 _;simp only[D.ev,Qm,Qw,wr]at a20 a21;have c20:e 20=e 10*(e 15/e 10):=by rw[a20,c19,Mw];exact Ox (by omega) (by omega)
  have c21:e 21=e 15%e 10:=by rw[a21,c20];rw[show e 15-e 10*(e 15/e 10)=e 15%e 10 by omega];exact Ox hmn (by omega)
  clear a6 a7 a8 a9 a10 a11 a12 a13 a14 a15 a16 a17 a18 a19 a20 a21 hshl;rw[<- c9]at hYu hYl;rw[c10]at c19 c21;refine Qqs (T:=[Bw f1]) (X0:=e 15) (Y:=e 9) (by decide) (by decide) c10 c11 ⟨hYl,hYu⟩ hD (by omega) c19 c21 rfl fun e1 b qa G1 he1 hqa hG1 hS1 hqa0 hb=>?_
  have g:∀i,i<22->e1 i=e i:=he1;have hX0:0<=e 15*4294967296+e 17:=by omega
  have hQ1:0<=e1 qa:=by rw[hqa];exact M4 hX0 (by omega)
  have hQ1l:e1 qa<4294967296:=by rw[hqa];exact Int.ediv_lt_of_lt_mul (by omega) (by omega)
  have hR1:=Ls (e 15*4294967296+e 17) (e 9);have hR1l:=Mt (e 15*4294967296+e 17) (show 0<e 9 by omega);have hR1n:=Mr (e 15*4294967296+e 17) (show e 9≠0 by omega);rw[<- hqa]at hR1;generalize (e 15*4294967296+e 17)%e 9=R1 at *
  unfold k1T;intro a1 _ a2 _ a3 _ a4 _ a5 _;simp only[D.ev,Qm,Qp,Qw,wr]at a1 a2 a3 a4 a5;rw[g 15 (by decide)]at a1;rw[g 17 (by decide)]at a2;rw[g 9 (by decide)]at a3;rw[Mw (e 9)]at hR1;generalize hQY:e1 qa*e 9=QY at *
  have d4:e1 (b+3)=R1:=by rw[a4,a3,a2,a1];omega
  rw[d4,Kh hR1n,g 10 (by decide)]at a5;have hy1':0<e 10:=by omega
  have hrn:0<=R1/e 10:=M4 hR1n (by omega);have hrl:R1/e 10<=R1:=K5 _ hR1n;have d5:e1 (b+4)=R1/e 10:=by rw[a5];exact Ox hrn (by omega)
  refine⟨by show e1 10≠0;rw[g 10 (by decide)];omega,?_⟩;intro a6 _ a7 _;simp only[D.ev,Qm,Qp,Qw,wr]at a6 a7;rw[g 10 (by decide),d5]at a6;have nmm:=Ls R1 (e 10);have nml:=Mt R1 hy1';have nmn:=Mr R1 (show e 10≠0 by omega);have npn:0<=e 10*(R1/e 10):=Ks (by omega) hrn;have d6:e1 (b+5)=e 10*(R1/e 10):=by rw[a6,Mw];exact Ox (by omega) (by omega)
  have d7:e1 (b+6)=R1%e 10:=by rw[a7,d4,d6];rw[show R1-e 10*(R1/e 10)=R1%e 10 by omega];exact Ox nmn (by omega)
  refine Qqs (X0:=R1) (Y:=e 9) (by omega) (by omega) (by rw[g 10 (by decide)];exact c10) (by rw[g 11 (by decide)];exact c11) ⟨hYl,hYu⟩ ⟨hR1n,hR1l⟩ (by rw[g 18 (by decide)];omega) (by rw[<- c10];exact d5) (by rw[<- c10];exact d7) hS1 fun e2 b2 qb G2 he2 hqb hG2 hS2 hqb0 hb2=>?_
  have gg:∀i,i<22->e2 i=e i:=fun i hi=>(he2 i (by omega)).trans (g i hi)
  rw[g 18 (by decide)]at hqb;have hX1:0<=R1*4294967296+e 18:=by omega
  have hQ2:0<=e2 qb:=by rw[hqb];exact M4 hX1 (by omega)
  have hQ2l:e2 qb<4294967296:=by rw[hqb];exact Int.ediv_lt_of_lt_mul (by omega) (by omega)
  have hR2:=Ls (R1*4294967296+e 18) (e 9);have hR2l:=Mt (R1*4294967296+e 18) (show 0<e 9 by omega);have hR2n:=Mr (R1*4294967296+e 18) (show e 9≠0 by omega);rw[<- hqb]at hR2;generalize (R1*4294967296+e 18)%e 9=R2 at *
  have hqe:e2 qa=e1 qa:=he2 qa (by omega);unfold k2T;intro f1 _ f2 _ f3 _ f4 _ f5 _ f6 _ f7 _;simp only[D.ev,Qm,Qp,Qw,wr]at f1 f2 f3 f4 f5 f6 f7;rw[hqe]at f1;rw[he2 (b+3) (by omega),d4]at f3;rw[gg 18 (by decide)]at f4;rw[gg 9 (by decide),Mw]at f5;have hXt:(e 0*18446744073709551616+e 1)*2^s=(e1 qa*4294967296+e2 qb)*e 9+R2:=by
   rw[htot];have h16:e 16=e 17*4294967296+e 18:=by omega
   rw[Int.add_mul,Int.mul_right_comm,hQY,Mw (e2 qb)];omega
  generalize e 9*e2 qb=QZ at *
  have d6':e2 (b2+5)=R2:=by rw[f6,f5,f4,f3];omega
  have d2':e2 (b2+1)=e1 qa*4294967296+e2 qb:=by rw[f2,f1];omega
  rw[d6',gg 8 (by decide),hs,show min ((s:Int).toNat) IntKind.u64.bits=s by show min s 64=s;omega,L0]at f7;rw[Kj _ (by exact Int.le_of_lt hp1)]at f7;show G2.goal [e2 (b2+1),e2 (b2+6)];rw[hG2,hG1];show[e2 (b2+1),e2 (b2+6)]=[(e 0*18446744073709551616+e 1)/e 2,(e 0*18446744073709551616+e 1)%e 2]
  rw[d2',f7];rw[c9]at hXt;generalize e 0*18446744073709551616+e 1=X at *
  generalize e1 qa*4294967296+e2 qb=q at *
  have hr:R2=2^s*(X-q*e 2):=by rw[Int.mul_sub,Mw _ X,hXt];grind
  have hr0:0<=X-q*e 2:=by
   by_cases hc:0<=X-q*e 2
   ·exact hc
   ·have:=Int.mul_neg_of_pos_of_neg hp1 (show X-q*e 2<0 by omega);omega
  have hr1:X-q*e 2<e 2:=by
   have:2^s*(X-q*e 2)<2^s*e 2:=by rw[<- hr,Mw _ (e 2),<- c9];exact hR2l
   exact Int.lt_of_mul_lt_mul_left this (Int.le_of_lt hp1)
  have hq:X/e 2=q:=(Qre (by omega) (by omega) (by rw[Int.add_mul];omega)).symm;have hm:X%e 2=X-q*e 2:=Jd q (by rw[Mw q];omega) hr0 hr1;rw[hq,hm];congr 2;rw[hr];exact Int.mul_ediv_cancel_left _ (by exact Int.ne_of_gt hp1)
def Zmz:Qn:=(.l 3 kU (.bin .rem .u64 (.v 0) (.v 2))
(.nz (.v 2)
(xw 0 [.v 3,.v 1,.v 2] 4 qfa
(.ret [.v 5]))))
theorem Zge(f1 f:FuncId)(e:Nat->Int)(hk:Qy [.int .u64,.int .u64,.int .u64] [e 0,e 1,e 2])(hp:(Qit f).pre [e 0,e 1,e 2]):Zmz.Xij [Qk7 f1] ⟨fun ys=>ys=(Qit f).sem [e 0,e 1,e 2],[]⟩ e:=by
 obtain⟨h0,h1,h2,_⟩:=hk;have u0:=Zd h0;have hy:0<e 2:=hp;simp only[Zmz,Qk7,Qit,Qn.Xij,xw,xws,Nat.reduceAdd,Oy,Oz,List.map,Qp,Qm,Q3,D.ev,O1,O2];intro a3 _;have c3:e 3=e 0%e 2:=by rw[a3];simp only[Qw];exact M1 u0.1
 refine⟨by omega,by rw[c3];exact Mt _ hy,fun a4 _ a5 _=>?_⟩;rw[a5,c3];congr 1;obtain⟨z,hz⟩:=Wd (x:=e 0) (n:=e 2);exact md (z*18446744073709551616) (by rw[hz];grind)
end Go.Sx


namespace Go.Sx
open Go Go.RowKit
set_option maxRecDepth 100000
theorem Zec(a:Int)(x:Int)(hx:0<=x)(i:Nat):a^(x/2^i).toNat=a^(x/2^(i+1)).toNat*a^(x/2^(i+1)).toNat*(if x/2^i%2=1 then a else 1):=by
 have hp:(0:Int)<2^i:=L8 (by decide);have h1:x/2^(i+1)=x/2^i/2:=by rw[M7,Ki (by omega)]
 have h0:=M4 hx (show(0:Int)<=2^i by omega);rw[h1,<- L9];generalize x/2^i=y at *
 split
 ·rw[show y.toNat=((y/2).toNat+(y/2).toNat)+1 by omega,M7]
 ·rw[Ha];congr 1;omega
theorem Znd{a b n:Int}:a%n*(b%n)%n=a*b%n:=by rw[<- M3]
def Ztw(n a x:Int):List Int->Prop
 |[i,o]=>-1<=i/\i<=383/\o=a^(x/2^(i+1).toNat).toNat%n
 |_=>False
theorem Zf0{n a x o o1:Int}{i:Nat}(hx:0<=x)(ho:o=a^(x/2^(i+1)).toNat%n)(h1:o1=o*o%n)(hb:x/2^i%2=0):o1=a^(x/2^i).toNat%n:=by
 rw[Zec a x hx i,if_neg (by omega),Ha,h1,ho,Znd]
theorem Zfa{n a x o o1 o2:Int}{i:Nat}(hx:0<=x)(ho:o=a^(x/2^(i+1)).toNat%n)(h1:o1=o*o%n)(h2:o2=o1*a%n)(hb:x/2^i%2=1):o2=a^(x/2^i).toNat%n:=by
 rw[Zec a x hx i,if_pos hb,h2,h1,ho,Znd];obtain⟨z,hz⟩:=Wd (x:=a^(x/2^(i+1)).toNat*a^(x/2^(i+1)).toNat) (n:=n);rw[hz];exact md (z*a) (by grind)
theorem Qrg{x:Int}{i:Nat}(hx:0<=x):(x/2^i).toNat=2*(x/2^(i+1)).toNat+(x/2^i%2).toNat:=by
 have hq:(0:Int)<2^i:=L8 (by decide);rw[M7,<- Ki (by omega)];have:=M4 hx (show(0:Int)<=2^i by omega);omega
def Qhg(a n:Int):List Int->Prop
 |[i,o]=>-1<=i/\i<=383/\o=Qo (a^(n/2^(i+1).toNat).toNat)
 |_=>False
theorem Zvp{x:Int}(h:0<=x/\x<Qv):x/2^384=0:=by
 refine L6 h.1 ?_;rw[show(2:Int)^384=Qv by decide +kernel];exact h.2
def Xed:Qn:=(xw 1 [] 2 Q7
(.loop [.n 383,.v 2] [kI,.num] 3
(.l 5 .bit (.c .geq (.v 3) (.n 0))
(.split 5
(xw 0 [.v 4,.v 4] 6 Q7
(.l 7 kI (.b .quo .i64 (.v 3) (.n 64))
(.l 8 .bit (.c .leq (.n 0) (.v 7))
(.l 9 .bit (.c .lss (.v 7) (.n 6))
(.nz (.v 8)
(.nz (.v 9)
(.l 10 kU (.sel (.v 7) [.m 1 0,.m 1 1,.m 1 2,.m 1 3,.m 1 4,.m 1 5])
(.l 11 kI (.b .rem .i64 (.v 3) (.n 64))
(.l 12 .bit (.c .leq (.n 0) (.v 11))
(.l 13 kU (.b .shr .u64 (.v 10) (.v 11))
(.nz (.v 12)
(.l 14 kU (.b .and .u64 (.v 13) (.n 1))
(.l 15 .bit (.c .eql (.v 14) (.n 1))
(.split 15
(xw 0 [.v 6,.v 0] 16 Q7
(.l 17 kI (.b .sub .i64 (.v 3) (.n 1))
(.back 0 [.v 17,.v 16])))
(.l 16 kI (.b .sub .i64 (.v 3) (.n 1))
(.back 0 [.v 16,.v 6]))))))))))))))))
(.ret [.v 4])))))
theorem Zm8(f1 f2 f:FuncId)(e:Nat->Int)(hk:Qy [.num,.num] [e 0,e 1])(hp:(Que f).pre [e 0,e 1]):Xed.Xij [U4 f1,Qju f2] ⟨fun ys=>ys=(Que f).sem [e 0,e 1],[]⟩ e:=by
 have u0:e 0<bP:=hp;have v0:0<=e 0:=hk.1.1;have h1:0<=e 1/\e 1<Qv:=hk.2.1;have q0:=X9 v0 u0;obtain⟨A,hA⟩:∃A,A=Ql (e 0):=⟨_,rfl⟩
 rw[<- hA]at q0;refine⟨trivial,fun a2 _=>?_⟩;have q2:e 2=Qo 1:=a2;refine⟨Qhg A (e 1),fun|[i,_]=>(i+1).toNat|_=>0,?_,fun e' he hkk hI=>?_⟩
 ·refine⟨(show(-1:Int)<=383 by decide),(show(383:Int)<=383 by decide),?_⟩;show e 2=Qo (A^(e 1/2^384).toNat);rw[Zvp h1,q2,H5,H8]
 ·obtain⟨i1,i2,i3⟩:Qhg A (e 1) [e' 3,e' 4]:=hI;rw[<- he 0 (by decide)]at q0 u0;rw[<- he 1 (by decide)]at h1 i3 ⊢;have e0:e 0=e' 0:=(he 0 (by decide)).symm;rw[e0];rw[e0]at hA;clear he a2 q2 hk hkk e0;intro a5 _;have b5:=Bt a5;refine⟨fun hs=>?_,fun hs=>?_⟩
  ·have c5:0<=e' 3:=by
    rcases b5 with⟨_,h⟩|⟨h,_⟩
    ·exact h
    ·exact absurd h hs
   obtain⟨n,hi⟩:=Ow c5;rw[hi,show((n:Int)+1).toNat=n+1 by omega]at i3;refine⟨⟨Qq i3,Qq i3⟩,fun a6 _=>?_⟩;have q6:=X7 (show e' 6=Qo (Ql (e' 4)*Ql (e' 4))from a6) i3 i3;intro a7 _;have h7:e' 7=e' 3/64:=by
    have:e' 7=Qw .quo .i64 (e' 3) 64:=a7;rw[this];simp only[Qw];rw[Kh c5];simp only[wr];omega
   intro a8 _ a9 _;refine⟨Zb a8 (by show 0<=e' 7;rw[h7];omega),Zk a9 (by show e' 7<6;rw[h7];omega),fun a10 _ a11 _ a12 _ a13 k13=>?_⟩;have h11:e' 11=e' 3%64:=by
    have:e' 11=Qw .rem .i64 (e' 3) 64:=a11;rw[this];simp only[Qw];rw[M1 c5]
   refine⟨Zb a12 (by show 0<=e' 11;rw[h11];omega),fun a14 _ a15 _=>?_⟩;have hb:=Zdu (e:=e') (a:=e' 1) (i:=e' 3) (q:=e' 7) (s:=e' 10) (r:=e' 11) (v:=e' 13) (w:=e' 14) (z:=wr .i64 (e' 14)) ⟨c5,by omega⟩ h1 h7 a10 h11 a13 a14 rfl;have h14:=Qno a14 (Zd k13);have h14':e' 14=e' 1/2^(e' 3).toNat%2:=by
    rw[<- hb,h14];simp only[wr];omega
   rw[hi,O9]at h14';have hh:=Qrg (i:=n) h1.1;have b15:=Zi a15;refine⟨fun hs2=>?_,fun hs2=>?_⟩
   ·have c15:e' 14=1:=by
     rcases b15 with⟨_,h⟩|⟨h,_⟩
     ·exact h
     ·exact absurd h hs2
    refine⟨⟨Qq q6,u0⟩,fun a16 _ a17 _=>?_⟩;have q16:=X7 (show e' 16=Qo (Ql (e' 6)*Ql (e' 0))from a16) q6 q0;have h17:e' 17=n-1:=by
     have:e' 17=Qw .sub .i64 (e' 3) 1:=a17;rw[this,hi];simp only[Qw,wr];omega
    show Qhg A (e' 1) [e' 17,e' 16]/\(e' 17+1).toNat<(e' 3+1).toNat;rw[h17,hi];refine⟨⟨by omega,by omega,?_⟩,by omega⟩;rw[show((n:Int)-1+1).toNat=n by omega,q16,hh,<- h14',c15,<- L9,<- M7];congr 2;omega
   ·have c15:e' 14=0:=by
     rcases b15 with⟨h,_⟩|⟨_,h⟩
     ·exact absurd (h.symm.trans hs2) (by decide)
     ·have:e' 14≠1:=h;omega
    intro a16 _;have h16:e' 16=n-1:=by
     have:e' 16=Qw .sub .i64 (e' 3) 1:=a16;rw[this,hi];simp only[Qw,wr];omega
    show Qhg A (e' 1) [e' 16,e' 6]/\(e' 16+1).toNat<(e' 3+1).toNat;rw[h16,hi];refine⟨⟨by omega,by omega,?_⟩,by omega⟩;rw[show((n:Int)-1+1).toNat=n by omega,q6,hh,<- h14',c15,<- L9];congr 2;omega
  ·have c5:e' 3=-1:=by
    rcases b5 with⟨h,_⟩|⟨_,h⟩
    ·exact absurd (h.symm.trans hs) (by decide)
    ·have:¬e' 3≥0:=h;omega
   rw[c5]at i3;show[e' 4]=[Qo (Ql (e' 0)^(e' 1).toNat)]
   rw[i3,<- hA];show[Qo (A^(e' 1/1).toNat)]=_;rw[Hg]
def Xdy:Qn:=(xw 0 [.v 0,.n 4002409555221667393417789825735904156556882819939007885332058136124031650490837864442687629129015664037894272559785] 1 Q7
(.ret [.v 1]))
theorem Zlj(f1 f:FuncId)(e:Nat->Int)(hk:Qy [.num] [e 0])(hp:(Qhp f).pre [e 0]):Xdy.Xij [Que f1] ⟨fun ys=>ys=(Qhp f).sem [e 0],[]⟩ e:=by
 have u0:e 0<bP:=hp;refine⟨u0,fun a1 _=>?_⟩;show[e 1]=[Qo (Ql (e 0)^(bP-2).toNat)]
 rw[show e 1=Qo (Ql (e 0)^(Int.toNat 4002409555221667393417789825735904156556882819939007885332058136124031650490837864442687629129015664037894272559785))from a1];rfl
def Xak:Qn:=(xw 1 [] 0 Q7
(xw 2 [.n 4] 1 Q7
(xw 0 [.v 1] 2 Q7
(.ret [.v 0,.v 2]))))
theorem Zgy(o:Fo)(f1 f2 f3 f:FuncId)(e:Nat->Int):Xak.Xij [Zhe f1,Qju f2,kOf f3] ⟨fun ys=>ys=(Ux o f).sem [],[]⟩ e:=by
 refine⟨trivial,fun a0 _=>⟨trivial,fun a1 _=>⟨trivial,fun a2 _=>?_⟩⟩⟩;show[e 0,e 2]=[Qo 1,Qo 4]
 rw[show e 0=Qo 1 from a0,show e 2=Qo (e 1)from a2,show e 1=4 from a1]
def Xa8:Qn:=(.split 4
(.ret [.v 0,.v 0,.n 0])
(.ret [.v 2,.v 3,.v 0]))
theorem Zf1(o:Fo)(f:FuncId)(e:Nat->Int):Xa8.Xij [] ⟨fun ys=>ys=(Qfe o f).sem [e 0,e 1,e 2,e 3,e 4],[]⟩ e:=by
 refine⟨fun h=>?_,fun h=>?_⟩
 ·show[e 0,e 0,0]=if e 4=0 then[e 2,e 3,e 0]else[e 0,e 0,0]
  rw[if_neg h]
 ·show[e 2,e 3,e 0]=if e 4=0 then[e 2,e 3,e 0]else[e 0,e 0,0]
  rw[if_pos h]
def Zqv:Qn:=(xw 2 [.v 3,.v 3] 5 Q7
(xw 2 [.v 2,.v 5] 6 Q7
(xw 0 [.v 6,.v 6] 7 Q7
(xw 0 [.v 7,.v 7] 8 Q7
(xw 2 [.v 2,.v 2] 9 Q7
(xw 0 [.v 9,.v 9] 298 Q7
(xw 0 [.v 298,.v 9] 394 Q7
(xw 2 [.v 394,.v 394] 778 Q7
(xw 0 [.v 8,.v 8] 1018 Q7
(xw 1 [.v 778,.v 1018] 1066 Q7
(xw 2 [.v 5,.v 5] 1210 Q7
(xw 0 [.v 1210,.v 1210] 1211 Q7
(xw 0 [.v 1211,.v 1211] 1212 Q7
(xw 0 [.v 1212,.v 1212] 1213 Q7
(xw 2 [.v 3,.v 4] 1214 Q7
(xw 1 [.v 8,.v 1066] 1695 Q7
(xw 2 [.v 394,.v 1695] 1743 Q7
(xw 1 [.v 1743,.v 1213] 1839 Q7
(xw 0 [.v 1214,.v 1214] 2079 Q7
(.ret [.v 1066,.v 1839,.v 2079]))))))))))))))))))))
theorem Zio(o:Fo)(f1 f2 f3 f:FuncId)(e:Nat->Int)(hk:Qy [.num,.num,.num,.num,.num] [e 0,e 1,e 2,e 3,e 4])(hp:(Qda o f).pre [e 0,e 1,e 2,e 3,e 4]):Zqv.Xij [B9 f1,Qef f2,U4 f3] ⟨fun ys=>ys=(Qda o f).sem [e 0,e 1,e 2,e 3,e 4],[]⟩ e:=by
 obtain⟨u2,u3,u4⟩:e 2<bP/\e 3<bP/\e 4<bP:=hp;obtain⟨_,_,h2,h3,h4,_⟩:=hk;have q2:=X9 h2.1 u2;have q3:=X9 h3.1 u3;have q4:=X9 h4.1 u4;clear u2 u3 u4 h2 h3 h4;show Zqv.Xij _ ⟨fun ys=>ys=(Xg R1 (ofJ (e 2) (e 3) (e 4))).l,[]⟩ e;refine⟨⟨Qq q3,Qq q3⟩,?_⟩;intro a5 k5;have q5:=X7 (show e 5=Qo (Ql (e 3)*Ql (e 3))from a5) q3 q3;clear a5 k5;refine⟨⟨Qq q2,Qq q5⟩,?_⟩;intro a6 k6;have q6:=X7 (show e 6=Qo (Ql (e 2)*Ql (e 5))from a6) q2 q5;clear a6 k6;refine⟨⟨Qq q6,Qq q6⟩,?_⟩;intro a7 k7;have q7:=Ba (show e 7=Qo (Ql (e 6)+Ql (e 6))from a7) q6 q6;clear a7 k7;refine⟨⟨Qq q7,Qq q7⟩,?_⟩;intro a8 k8;have q8:=Ba (show e 8=Qo (Ql (e 7)+Ql (e 7))from a8) q7 q7;clear a8 k8;refine⟨⟨Qq q2,Qq q2⟩,?_⟩;intro a9 k9;have q9:=X7 (show e 9=Qo (Ql (e 2)*Ql (e 2))from a9) q2 q2;clear a9 k9;refine⟨⟨Qq q9,Qq q9⟩,?_⟩;intro a298 k298;have q298:=Ba (show e 298=Qo (Ql (e 9)+Ql (e 9))from a298) q9 q9;clear a298 k298;refine⟨⟨Qq q298,Qq q9⟩,?_⟩;intro a394 k394;have q394:=Ba (show e 394=Qo (Ql (e 298)+Ql (e 9))from a394) q298 q9;clear a394 k394;refine⟨⟨Qq q394,Qq q394⟩,?_⟩;intro a778 k778;have q778:=X7 (show e 778=Qo (Ql (e 394)*Ql (e 394))from a778) q394 q394;clear a778 k778;refine⟨⟨Qq q8,Qq q8⟩,?_⟩;intro a1018 k1018;have q1018:=Ba (show e 1018=Qo (Ql (e 8)+Ql (e 8))from a1018) q8 q8;clear a1018 k1018;refine⟨⟨Qq q778,Qq q1018⟩,?_⟩;intro a1066 k1066;have q1066:=Qd7 (show e 1066=Qo (Ql (e 778)-Ql (e 1018))from a1066) q778 q1018;clear a1066 k1066;refine⟨⟨Qq q5,Qq q5⟩,?_⟩;intro a1210 k1210;have q1210:=X7 (show e 1210=Qo (Ql (e 5)*Ql (e 5))from a1210) q5 q5;clear a1210 k1210;refine⟨⟨Qq q1210,Qq q1210⟩,?_⟩;intro a1211 k1211;have q1211:=Ba (show e 1211=Qo (Ql (e 1210)+Ql (e 1210))from a1211) q1210 q1210;clear a1211 k1211;refine⟨⟨Qq q1211,Qq q1211⟩,?_⟩;intro a1212 k1212;have q1212:=Ba (show e 1212=Qo (Ql (e 1211)+Ql (e 1211))from a1212) q1211 q1211;clear a1212 k1212;refine⟨⟨Qq q1212,Qq q1212⟩,?_⟩;intro a1213 k1213;have q1213:=Ba (show e 1213=Qo (Ql (e 1212)+Ql (e 1212))from a1213) q1212 q1212;clear a1213 k1213;refine⟨⟨Qq q3,Qq q4⟩,?_⟩;intro a1214 k1214;have q1214:=X7 (show e 1214=Qo (Ql (e 3)*Ql (e 4))from a1214) q3 q4;clear a1214 k1214;refine⟨⟨Qq q8,Qq q1066⟩,?_⟩;intro a1695 k1695;have q1695:=Qd7 (show e 1695=Qo (Ql (e 8)-Ql (e 1066))from a1695) q8 q1066;clear a1695 k1695;refine⟨⟨Qq q394,Qq q1695⟩,?_⟩;intro a1743 k1743;have q1743:=X7 (show e 1743=Qo (Ql (e 394)*Ql (e 1695))from a1743) q394 q1695;clear a1743 k1743;refine⟨⟨Qq q1743,Qq q1213⟩,?_⟩;intro a1839 k1839;have q1839:=Qd7 (show e 1839=Qo (Ql (e 1743)-Ql (e 1213))from a1839) q1743 q1213;clear a1839 k1839;refine⟨⟨Qq q1214,Qq q1214⟩,?_⟩;intro a2079 k2079;have q2079:=Ba (show e 2079=Qo (Ql (e 1214)+Ql (e 1214))from a2079) q1214 q1214;clear a2079 k2079;show[e 1066,e 1839,e 2079]=_;rw[q1066,q1839,q2079];rfl
theorem Zpg{x X:Int}(h:x=Qo X)(hn:x≠0):¬X%bP=0:=fun hc=>hn (h.trans (Uh.2 hc))
theorem z_E{x X:Int}(h:x=Qo X)(hn:x=0):X%bP=0:=Uh.1 (h.symm.trans hn)
theorem Qnl{X:Int}(h:X%bP=0):R1.isz X=true:=by show(X%bP==0)=true;rw[h];rfl
theorem Qgr{X:Int}(h:¬X%bP=0):¬R1.isz X=true:=by show ¬(X%bP==0)=true;rw[beq_iff_eq];exact h
theorem Zc{v:Int}{p:Prop}(b:(v=1/\p)∨(v=0/\¬p))(h:v≠0):p:=by
 rcases b with⟨_,h1⟩|⟨h1,_⟩
 ·exact h1
 ·exact absurd h1 h
theorem Xf{v:Int}{p:Prop}(b:(v=1/\p)∨(v=0/\¬p))(h:v=0):¬p:=by
 rcases b with⟨h1,_⟩|⟨_,h1⟩
 ·exact absurd (h1.symm.trans h) (by decide)
 ·exact h1
def Xhm:Qn:=(.l 8 .bit (.eqs [((.m 4 0),(.n 0)),((.m 4 1),(.n 0)),((.m 4 2),(.n 0)),((.m 4 3),(.n 0)),((.m 4 4),(.n 0)),((.m 4 5),(.n 0))])
(.split 8
(.ret [.v 5,.v 6,.v 7])
(.l 9 .bit (.eqs [((.m 7 0),(.n 0)),((.m 7 1),(.n 0)),((.m 7 2),(.n 0)),((.m 7 3),(.n 0)),((.m 7 4),(.n 0)),((.m 7 5),(.n 0))])
(.split 9
(.ret [.v 2,.v 3,.v 4])
(xw 2 [.v 4,.v 4] 298 Q7
(xw 2 [.v 7,.v 7] 634 Q7
(xw 2 [.v 2,.v 634] 1114 Q7
(xw 2 [.v 5,.v 298] 1402 Q7
(xw 2 [.v 634,.v 7] 2074 Q7
(xw 2 [.v 3,.v 2074] 2122 Q7
(xw 2 [.v 298,.v 4] 2602 Q7
(xw 2 [.v 6,.v 2602] 2650 Q7
(xw 1 [.v 1402,.v 1114] 3082 Q7
(xw 1 [.v 2650,.v 2122] 3322 Q7
(.l 3562 .bit (.eqs [((.m 3082 0),(.n 0)),((.m 3082 1),(.n 0)),((.m 3082 2),(.n 0)),((.m 3082 3),(.n 0)),((.m 3082 4),(.n 0)),((.m 3082 5),(.n 0))])
(.split 3562
(.l 3563 .bit (.eqs [((.m 3322 0),(.n 0)),((.m 3322 1),(.n 0)),((.m 3322 2),(.n 0)),((.m 3322 3),(.n 0)),((.m 3322 4),(.n 0)),((.m 3322 5),(.n 0))])
(.split 3563
(xw 3 [.v 0,.v 1,.v 2,.v 3,.v 4] 3564 qpa
(.ret [.v 3564,.v 3565,.v 3566]))
(.ret [.v 0,.v 0,.n 0])))
(xw 2 [.v 3082,.v 3082] 3563 Q7
(xw 2 [.v 3563,.v 3082] 3564 Q7
(xw 2 [.v 1114,.v 3563] 3565 Q7
(xw 2 [.v 3322,.v 3322] 3950 Q7
(xw 1 [.v 3950,.v 3564] 4046 Q7
(xw 0 [.v 3565,.v 3565] 4286 Q7
(xw 1 [.v 4046,.v 4286] 4334 Q7
(xw 1 [.v 3565,.v 4334] 4958 Q7
(xw 2 [.v 3322,.v 4958] 5006 Q7
(xw 2 [.v 2122,.v 3564] 5246 Q7
(xw 1 [.v 5006,.v 5246] 5294 Q7
(xw 2 [.v 4,.v 7] 5774 Q7
(xw 2 [.v 3082,.v 5774] 5822 Q7
(.ret [.v 4334,.v 5294,.v 5822]))))))))))))))))))))))))))))))
theorem Ztn(o:Fo)(f1 f2 f3 f4 f:FuncId)(e:Nat->Int)(hk:Qy [.num,.num,.num,.num,.num,.num,.num,.num] [e 0,e 1,e 2,e 3,e 4,e 5,e 6,e 7])(hp:(kSum o f).pre [e 0,e 1,e 2,e 3,e 4,e 5,e 6,e 7]):Xhm.Xij [B9 f1,Qef f2,U4 f3,Qda o f4] ⟨fun ys=>ys=(kSum o f).sem [e 0,e 1,e 2,e 3,e 4,e 5,e 6,e 7],[]⟩ e:=by
 obtain⟨q0,⟨u2,u3,u4⟩,u5,u6,u7⟩:e 0=Qo 1/\(e 2<bP/\e 3<bP/\e 4<bP)/\(e 5<bP/\e 6<bP/\e 7<bP):=hp;obtain⟨_,_,h2,h3,h4,h5,h6,h7,_⟩:=hk;have k4:=h4;have k7:=h7;have q2:=X9 h2.1 u2;have q3:=X9 h3.1 u3;have q4:=X9 h4.1 u4;have q5:=X9 h5.1 u5;have q6:=X9 h6.1 u6;have q7:=X9 h7.1 u7;clear h2 h3 h4 h5 h6 h7;obtain⟨X,hX⟩:∃X,X=Ql (e 2):=⟨_,rfl⟩
 obtain⟨Y,hY⟩:∃Y,Y=Ql (e 3):=⟨_,rfl⟩
 obtain⟨Z,hZ⟩:∃Z,Z=Ql (e 4):=⟨_,rfl⟩
 obtain⟨X',hX'⟩:∃X',X'=Ql (e 5):=⟨_,rfl⟩
 obtain⟨Y',hY'⟩:∃Y',Y'=Ql (e 6):=⟨_,rfl⟩
 obtain⟨Z',hZ'⟩:∃Z',Z'=Ql (e 7):=⟨_,rfl⟩
 have hd:(Xg R1 (ofJ (e 2) (e 3) (e 4))).l=(Xg R1 ⟨X,Y,Z⟩).l:=by rw[hX,hY,hZ];rfl
 have hg:(kSum o f).sem [e 0,e 1,e 2,e 3,e 4,e 5,e 6,e 7]=(Xb R1 ⟨X,Y,Z⟩ ⟨X',Y',Z'⟩).l:=by rw[hX,hY,hZ,hX',hY',hZ'];rfl
 rw[hg];rw[<- hX]at q2;rw[<- hY]at q3;rw[<- hZ]at q4;rw[<- hX']at q5;rw[<- hY']at q6;rw[<- hZ']at q7;intro a8 k8;have b8:=Qao a8 k4;clear a8 k8;refine⟨fun h=>?_,fun h=>?_⟩
 ·have c8:=h;have z1:=z_E q4 (Zc b8 c8);show[e 5,e 6,e 7]=_;rw[Qhq (R:=R1) (P:=⟨X,Y,Z⟩) (Q:=⟨X',Y',Z'⟩) (Qnl z1),q5,q6,q7];rfl
 ·have c8:=h;have z1:=Zpg q4 (Xf b8 c8);intro a9 k9;have b9:=Qao a9 k7;clear a9 k9;refine⟨fun h=>?_,fun h=>?_⟩
  ·have c9:=h;have z2:=z_E q7 (Zc b9 c9);show[e 2,e 3,e 4]=_;rw[Qr3 (R:=R1) (P:=⟨X,Y,Z⟩) (Q:=⟨X',Y',Z'⟩) (Qgr z1) (Qnl z2),q2,q3,q4];rfl
  ·have c9:=h;have z2:=Zpg q7 (Xf b9 c9);refine⟨⟨Qq q4,Qq q4⟩,?_⟩;intro a298 k298;have q298:=X7 (show e 298=Qo (Ql (e 4)*Ql (e 4))from a298) q4 q4;clear a298 k298;refine⟨⟨Qq q7,Qq q7⟩,?_⟩;intro a634 k634;have q634:=X7 (show e 634=Qo (Ql (e 7)*Ql (e 7))from a634) q7 q7;clear a634 k634;refine⟨⟨Qq q2,Qq q634⟩,?_⟩;intro a1114 k1114;have q1114:=X7 (show e 1114=Qo (Ql (e 2)*Ql (e 634))from a1114) q2 q634;clear a1114 k1114;refine⟨⟨Qq q5,Qq q298⟩,?_⟩;intro a1402 k1402;have q1402:=X7 (show e 1402=Qo (Ql (e 5)*Ql (e 298))from a1402) q5 q298;clear a1402 k1402;refine⟨⟨Qq q634,Qq q7⟩,?_⟩;intro a2074 k2074;have q2074:=X7 (show e 2074=Qo (Ql (e 634)*Ql (e 7))from a2074) q634 q7;clear a2074 k2074;refine⟨⟨Qq q3,Qq q2074⟩,?_⟩;intro a2122 k2122;have q2122:=X7 (show e 2122=Qo (Ql (e 3)*Ql (e 2074))from a2122) q3 q2074;clear a2122 k2122;refine⟨⟨Qq q298,Qq q4⟩,?_⟩;intro a2602 k2602;have q2602:=X7 (show e 2602=Qo (Ql (e 298)*Ql (e 4))from a2602) q298 q4;clear a2602 k2602;refine⟨⟨Qq q6,Qq q2602⟩,?_⟩;intro a2650 k2650;have q2650:=X7 (show e 2650=Qo (Ql (e 6)*Ql (e 2602))from a2650) q6 q2602;clear a2650 k2650;refine⟨⟨Qq q1402,Qq q1114⟩,?_⟩;intro a3082 k3082;have q3082:=Qd7 (show e 3082=Qo (Ql (e 1402)-Ql (e 1114))from a3082) q1402 q1114;clear a3082;refine⟨⟨Qq q2650,Qq q2122⟩,?_⟩;intro a3322 k3322;have q3322:=Qd7 (show e 3322=Qo (Ql (e 2650)-Ql (e 2122))from a3322) q2650 q2122;clear a3322;intro a3562 k3562;have b3562:=Qao a3562 k3082;clear a3562 k3562;refine⟨fun h=>?_,fun h=>?_⟩
   ·have c3562:=h;have z3:=z_E q3082 (Zc b3562 c3562);intro a3563 k3563;have b3563:=Qao a3563 k3322;clear a3563 k3563;refine⟨fun h=>?_,fun h=>?_⟩
    ·have c3563:=h;have z4:=z_E q3322 (Zc b3563 c3563);refine⟨⟨u2,u3,u4⟩,?_⟩;intro a3564 k3564;have s3564:e 3564=((Qda o f4).sem [e 0,e 1,e 2,e 3,e 4]).getD 0 0:=a3564;clear a3564 k3564;intro a3565 k3565;have s3565:e 3565=((Qda o f4).sem [e 0,e 1,e 2,e 3,e 4]).getD 1 0:=a3565;clear a3565 k3565;intro a3566 k3566;have s3566:e 3566=((Qda o f4).sem [e 0,e 1,e 2,e 3,e 4]).getD 2 0:=a3566;clear a3566 k3566;have w3:[e 3564,e 3565,e 3566]=(Xg R1 (ofJ (e 2) (e 3) (e 4))).l:=by rw[s3564,s3565,s3566];rfl
     clear s3564 s3565 s3566;show[e 3564,e 3565,e 3566]=_;rw[Ql8 (R:=R1) (P:=⟨X,Y,Z⟩) (Q:=⟨X',Y',Z'⟩) (Qgr z1) (Qgr z2) (Qnl z3) (Qnl z4),<- hd];exact w3
    ·have c3563:=h;have z4:=Zpg q3322 (Xf b3563 c3563);show[e 0,e 0,0]=_;rw[Qmm (R:=R1) (P:=⟨X,Y,Z⟩) (Q:=⟨X',Y',Z'⟩) (Qgr z1) (Qgr z2) (Qnl z3) (Qgr z4),q0];rfl
   ·have c3562:=h;have z3:=Zpg q3082 (Xf b3562 c3562);refine⟨⟨Qq q3082,Qq q3082⟩,?_⟩;intro a3563 k3563;have q3563:=X7 (show e 3563=Qo (Ql (e 3082)*Ql (e 3082))from a3563) q3082 q3082;clear a3563 k3563;refine⟨⟨Qq q3563,Qq q3082⟩,?_⟩;intro a3564 k3564;have q3564:=X7 (show e 3564=Qo (Ql (e 3563)*Ql (e 3082))from a3564) q3563 q3082;clear a3564 k3564;refine⟨⟨Qq q1114,Qq q3563⟩,?_⟩;intro a3565 k3565;have q3565:=X7 (show e 3565=Qo (Ql (e 1114)*Ql (e 3563))from a3565) q1114 q3563;clear a3565 k3565;refine⟨⟨Qq q3322,Qq q3322⟩,?_⟩;intro a3950 k3950;have q3950:=X7 (show e 3950=Qo (Ql (e 3322)*Ql (e 3322))from a3950) q3322 q3322;clear a3950 k3950;refine⟨⟨Qq q3950,Qq q3564⟩,?_⟩;intro a4046 k4046;have q4046:=Qd7 (show e 4046=Qo (Ql (e 3950)-Ql (e 3564))from a4046) q3950 q3564;clear a4046 k4046;refine⟨⟨Qq q3565,Qq q3565⟩,?_⟩;intro a4286 k4286;have q4286:=Ba (show e 4286=Qo (Ql (e 3565)+Ql (e 3565))from a4286) q3565 q3565;clear a4286 k4286;refine⟨⟨Qq q4046,Qq q4286⟩,?_⟩;intro a4334 k4334;have q4334:=Qd7 (show e 4334=Qo (Ql (e 4046)-Ql (e 4286))from a4334) q4046 q4286;clear a4334 k4334;refine⟨⟨Qq q3565,Qq q4334⟩,?_⟩;intro a4958 k4958;have q4958:=Qd7 (show e 4958=Qo (Ql (e 3565)-Ql (e 4334))from a4958) q3565 q4334;clear a4958 k4958;refine⟨⟨Qq q3322,Qq q4958⟩,?_⟩;intro a5006 k5006;have q5006:=X7 (show e 5006=Qo (Ql (e 3322)*Ql (e 4958))from a5006) q3322 q4958;clear a5006 k5006;refine⟨⟨Qq q2122,Qq q3564⟩,?_⟩;intro a5246 k5246;have q5246:=X7 (show e 5246=Qo (Ql (e 2122)*Ql (e 3564))from a5246) q2122 q3564;clear a5246 k5246;refine⟨⟨Qq q5006,Qq q5246⟩,?_⟩;intro a5294 k5294;have q5294:=Qd7 (show e 5294=Qo (Ql (e 5006)-Ql (e 5246))from a5294) q5006 q5246;clear a5294 k5294;refine⟨⟨Qq q4,Qq q7⟩,?_⟩;intro a5774 k5774;have q5774:=X7 (show e 5774=Qo (Ql (e 4)*Ql (e 7))from a5774) q4 q7;clear a5774 k5774;refine⟨⟨Qq q3082,Qq q5774⟩,?_⟩;intro a5822 k5822;have q5822:=X7 (show e 5822=Qo (Ql (e 3082)*Ql (e 5774))from a5822) q3082 q5774;clear a5822 k5822;show[e 4334,e 5294,e 5822]=_;rw[Qn7 (R:=R1) (P:=⟨X,Y,Z⟩) (Q:=⟨X',Y',Z'⟩) (Qgr z1) (Qgr z2) (Qgr z3)];rw[q4334,q5294,q5822];rfl
def Jeq(P Q:J Int):Prop:=P.x%bP=Q.x%bP/\P.y%bP=Q.y%bP/\P.z%bP=Q.z%bP
theorem Jeq.refl(P:J Int):Jeq P P:=⟨rfl,rfl,rfl⟩
theorem Jeq.symm{P Q:J Int}(h:Jeq P Q):Jeq Q P:=⟨h.1.symm,h.2.1.symm,h.2.2.symm⟩
theorem Jeq.trans{P Q S:J Int}(h:Jeq P Q)(k:Jeq Q S):Jeq P S:=⟨h.1.trans k.1,h.2.1.trans k.2.1,h.2.2.trans k.2.2⟩
theorem Jeq.l{P Q:J Int}(h:Jeq P Q):P.l=Q.l:=by unfold J.l;rw[Zw h.1,Zw h.2.1,Zw h.2.2]
theorem Q9(x:Int):x%bP%bP=x%bP:=Ms _ (L5 _)
theorem Ql5(P:J Int):Jeq (J.md R1 P) P:=⟨Q9 _,Q9 _,Q9 _⟩
theorem Qc5{x y z:Int}{P:J Int}(h:[x,y,z]=P.l):Jeq (ofJ x y z) P:=by
 unfold J.l at h;injection h with h1 h;injection h with h2 h;injection h with h3 h;exact⟨Xn h1,Xn h2,Xn h3⟩
theorem Xfb{x y z:Int}(hx:0<=x/\x<bP)(hy:0<=y/\y<bP)(hz:0<=z/\z<bP):(ofJ x y z).l=[x,y,z]:=by
 unfold ofJ J.l;simp only[Uc hx.1 hx.2,Uc hy.1 hy.2,Uc hz.1 hz.2]
theorem Qq9{P Q:J Int}(h:Jeq P Q):Jeq (Xg R1 P) (Xg R1 Q):=by
 obtain⟨hx,hy,hz⟩:=h;simp only[Jeq,Xg,R1];refine⟨?_,?_,?_⟩ <;> repeat (first|exact hx|exact hy|exact hz|apply Ye|apply Z8|apply Q2)
theorem Ztp{P Q P' Q':J Int}(h:Jeq P P')(k:Jeq Q Q'):Jeq (Qfj R1 P Q) (Qfj R1 P' Q'):=by
 obtain⟨hx,hy,hz⟩:=h;obtain⟨kx,ky,kz⟩:=k;simp only[Jeq,Qfj,R1];refine⟨?_,?_,?_⟩ <;> repeat (first|exact hx|exact hy|exact hz|exact kx|exact ky|exact kz|apply Ye|apply Z8|apply Q2)
theorem Xds{P Q P' Q':J Int}(h:Jeq P P')(k:Jeq Q Q'):(hJ R1 P Q)%bP=(hJ R1 P' Q')%bP:=by
 obtain⟨hx,hy,hz⟩:=h;obtain⟨kx,ky,kz⟩:=k;simp only[hJ,R1];repeat (first|exact hx|exact hy|exact hz|exact kx|exact ky|exact kz|apply Ye|apply Z8|apply Q2)
theorem Xfp{P Q P' Q':J Int}(h:Jeq P P')(k:Jeq Q Q'):(rJ R1 P Q)%bP=(rJ R1 P' Q')%bP:=by
 obtain⟨hx,hy,hz⟩:=h;obtain⟨kx,ky,kz⟩:=k;simp only[rJ,R1];repeat (first|exact hx|exact hy|exact hz|exact kx|exact ky|exact kz|apply Ye|apply Z8|apply Q2)
theorem Zdf{X:Int}:R1.isz X=true↔X%bP=0:=by show(X%bP==0)=true↔_;rw[beq_iff_eq]
theorem Qtc{X Y:Int}(h:X%bP=Y%bP):(R1.isz X=true)=(R1.isz Y=true):=by rw[Zdf,Zdf,h]
theorem Qgm{P Q P' Q':J Int}(h:Jeq P P')(k:Jeq Q Q'):Jeq (Xb R1 P Q) (Xb R1 P' Q'):=by
 rw[V9,V9];simp only[Qtc h.2.2,Qtc k.2.2,Qtc (Xds h k),Qtc (Xfp h k)];split
 ·exact k
 split
 ·exact h
 split
 ·split
  ·exact Qq9 h
  ·exact Jeq.refl _
 ·exact Ztp h k
theorem Qmp{α:Type}{R:Rg α}{P:J α}{n:Nat}(h0:n≠0)(h:n<2^384):Xd R P 384 n=if n%2=1 then J.md R (Xb R (J.md R (Xg R (Xd R P 384 (n/2)))) P)else J.md R (Xg R (Xd R P 384 (n/2))):=by
 have hf:Xd R P 384 (n/2)=Xd R P 383 (n/2):=Quz 383 (n/2) (by omega);rw[hf]
 conv=>lhs;unfold Xd
 rw[if_neg h0]
def Qkp(P:J Int)(n:Int):List Int->Prop
 |[i,x,y,z]=>-1<=i/\i<Xa n/\[x,y,z]=(Xd R1 P 384 (n/2^(i+1).toNat).toNat).l
 |_=>False
theorem l3{x y z:Int}{P:J Int}(h:[x,y,z]=P.l):x=Qo P.x/\y=Qo P.y/\z=Qo P.z:=by
 unfold J.l at h;injection h with h1 h;injection h with h2 h;injection h with h3 h;exact⟨h1,h2,h3⟩
theorem Xbr:(oJ R1).l=[Qo 1,Qo 1,0]:=by
 show[Qo 1,Qo 1,Qo 0]=_;rw[Qex]
theorem Zz3:(2:Int)^384=Qv:=by decide +kernel
theorem Xd8:((2^384:Nat):Int)=Qv:=by decide +kernel
theorem Zcs{n:Int}{i:Nat}(h:0<=n/\n<Qv)(hi:(i:Int)<Xa n):1<=n/2^i/\(n/2^i).toNat<2^384:=by
 have hq:(0:Int)<2^i:=L8 (by decide);have hl:(2:Int)^i<=n:=by
  rcases Int.lt_or_le n (2^i)with hc|hc
  ·have:=Wp i n h.1 hc;omega
  ·exact hc
 refine⟨(Int.le_ediv_iff_mul_le hq).2 (by omega),?_⟩;have h1:n/2^i<=n:=K5 _ h.1;have h2:((n/2^i).toNat:Int)<Qv:=by
  have:=M4 h.1 (show(0:Int)<=2^i by omega);omega
 exact Int.ofNat_lt.1 (Int.lt_of_lt_of_le h2 (Int.le_of_eq Xd8.symm))
def Zy6:Qn:=(xw 0 [.v 5] 6 qoa
(.l 7 kI (.b .sub .i64 (.v 6) (.n 1))
(.loop [.v 7,.v 0,.v 0,.n 0] [kI,.num,.num,.num] 8
(.l 12 .bit (.c .geq (.v 8) (.n 0))
(.split 12
(xw 2 [.v 0,.v 1,.v 9,.v 10,.v 11] 13 qpa
(xw 1 [.v 5,.v 8] 16 qoa
(.l 17 .bit (.c .eql (.v 16) (.n 1))
(.split 17
(xw 3 [.v 0,.v 1,.v 13,.v 14,.v 15,.v 2,.v 3,.v 4] 18 qpa
(.l 21 kI (.b .sub .i64 (.v 8) (.n 1))
(.back 0 [.v 21,.v 18,.v 19,.v 20])))
(.l 18 kI (.b .sub .i64 (.v 8) (.n 1))
(.back 0 [.v 18,.v 13,.v 14,.v 15]))))))
(.ret [.v 9,.v 10,.v 11]))))))
theorem Ziw(o:Fo)(f1 f2 f3 f4 f:FuncId)(e:Nat->Int)(hk:Qy [.num,.num,.num,.num,.num,.num] [e 0,e 1,e 2,e 3,e 4,e 5])(hp:(Qcr o f).pre [e 0,e 1,e 2,e 3,e 4,e 5]):Zy6.Xij [Qeu f1,Qwd f2,Qda o f3,kSum o f4] ⟨fun ys=>ys=(Qcr o f).sem [e 0,e 1,e 2,e 3,e 4,e 5],[]⟩ e:=by
 obtain⟨q0,u2,u3,u4⟩:e 0=Qo 1/\e 2<bP/\e 3<bP/\e 4<bP:=hp;obtain⟨_,_,h2,h3,h4,h5,_⟩:=hk;have hn:0<=e 5/\e 5<Qv:=h5;obtain⟨P,hP⟩:∃P,P=ofJ (e 2) (e 3) (e 4):=⟨_,rfl⟩
 have hPl:[e 2,e 3,e 4]=P.l:=by rw[hP,Xfb ⟨h2.1,u2⟩ ⟨h3.1,u3⟩ ⟨h4.1,u4⟩]
 refine⟨trivial,fun a6 _ a7 _=>?_⟩;have v6:e 6=Xa (e 5):=a6;have b0:=Ub (e 5);have b1:=Wp 384 (e 5) hn.1 (by rw[Zz3];exact hn.2);have v7:e 7=Xa (e 5)-1:=by
  have:e 7=Qw .sub .i64 (e 6) 1:=a7;rw[this,v6];simp only[Qw,wr];omega
 refine⟨Qkp P (e 5),fun|[i,_,_,_]=>(i+1).toNat|_=>0,?_,fun e' he hkk hI=>?_⟩
 ·show -1<=e 7/\e 7<Xa (e 5)/\[e 0,e 0,0]=(Xd R1 P 384 (e 5/2^(e 7+1).toNat).toNat).l;rw[v7];refine⟨by omega,by omega,?_⟩;rw[Kt];have h1:e 5/2^(Xa (e 5)).toNat=0:=by
   rcases Int.lt_or_le (e 5) (2^(Xa (e 5)).toNat)with hc|hc
   ·exact L6 hn.1 hc
   ·have:=Qb3 (Xa (e 5)).toNat (e 5) hc;omega
  rw[h1,q0];exact Xbr.symm
 ·obtain⟨i1,i2,i3⟩:Qkp P (e 5) [e' 8,e' 9,e' 10,e' 11]:=hI;rw[<- he 0 (by decide)]at q0;rw[<- he 2 (by decide)]at u2;rw[<- he 3 (by decide)]at u3;rw[<- he 4 (by decide)]at u4;rw[<- he 2 (by decide),<- he 3 (by decide),<- he 4 (by decide)]at hP hPl;rw[<- he 5 (by decide)]at hn i2 i3 b1 ⊢;rw[<- he 0 (by decide),<- he 1 (by decide),<- he 2 (by decide),<- he 3 (by decide),<- he 4 (by decide)];clear he a6 a7 v6 v7 b0 hkk;intro a12 _;have b12:=Bt a12;refine⟨fun hs=>?_,fun hs=>?_⟩
  ·have c5:0<=e' 8:=Zc b12 hs;obtain⟨n,hi⟩:=Ow c5;rw[hi,show((n:Int)+1).toNat=n+1 by omega]at i3;rw[hi]at i2;obtain⟨S,hS⟩:∃S,S=Xd R1 P 384 (e' 5/2^(n+1)).toNat:=⟨_,rfl⟩
   rw[<- hS]at i3;obtain⟨w9,w10,w11⟩:=l3 i3;refine⟨⟨Qq w9,Qq w10,Qq w11⟩,fun a13 _ a14 _ a15 _=>?_⟩;have d1:[e' 13,e' 14,e' 15]=(Xg R1 (ofJ (e' 9) (e' 10) (e' 11))).l:=by
    rw[show e' 13=_ from a13,show e' 14=_ from a14,show e' 15=_ from a15];rfl
   have d2:[e' 13,e' 14,e' 15]=(J.md R1 (Xg R1 S)).l:=d1.trans ((Qq9 (Qc5 i3)).trans (Ql5 _).symm).l;clear a13 a14 a15 d1;obtain⟨w13,w14,w15⟩:=l3 d2;refine⟨trivial,fun a16 _ a17 _=>?_⟩;have hlen:Xa (e' 5)<=384:=b1;have h16:e' 16=e' 5/2^n%2:=by
    have h:e' 16=if 0<=e' 8/\e' 8<384 then e' 5/2^(e' 8).toNat%2 else 0:=a16
    rw[h,if_pos ⟨c5,by omega⟩,hi,O9]
   have hh:=Qrg (i:=n) hn.1;obtain⟨t1,t2⟩:=Zcs hn i2;have hst:=Qmp (R:=R1) (P:=P) (n:=(e' 5/2^n).toNat) (by omega) t2;rw[show(e' 5/2^n).toNat/2=(e' 5/2^(n+1)).toNat by omega,<- hS]at hst;have b17:=Zi a17;refine⟨fun hs2=>?_,fun hs2=>?_⟩
   ·have c17:e' 16=1:=Zc b17 hs2;refine⟨⟨q0,⟨Qq w13,Qq w14,Qq w15⟩,u2,u3,u4⟩,fun a18 _ a19 _ a20 _ a21 _=>?_⟩;have g1:[e' 18,e' 19,e' 20]=(Xb R1 (ofJ (e' 13) (e' 14) (e' 15)) (ofJ (e' 2) (e' 3) (e' 4))).l:=by
     rw[show e' 18=_ from a18,show e' 19=_ from a19,show e' 20=_ from a20];rfl
    rw[<- hP]at g1;have g2:=g1.trans ((Qgm (Qc5 d2) (Jeq.refl P)).trans (Ql5 _).symm).l;have h21:e' 21=n-1:=by
     have:e' 21=Qw .sub .i64 (e' 8) 1:=a21;rw[this,hi];simp only[Qw,wr];omega
    show Qkp P (e' 5) [e' 21,e' 18,e' 19,e' 20]/\(e' 21+1).toNat<(e' 8+1).toNat;rw[h21,hi];refine⟨⟨by omega,by omega,?_⟩,by omega⟩;rw[show((n:Int)-1+1).toNat=n by omega,hst,if_pos (by omega)];exact g2
   ·have c17:¬e' 16=1:=Xf b17 hs2;intro a18 _;have h18:e' 18=n-1:=by
     have:e' 18=Qw .sub .i64 (e' 8) 1:=a18;rw[this,hi];simp only[Qw,wr];omega
    show Qkp P (e' 5) [e' 18,e' 13,e' 14,e' 15]/\(e' 18+1).toNat<(e' 8+1).toNat;rw[h18,hi];refine⟨⟨by omega,by omega,?_⟩,by omega⟩;rw[show((n:Int)-1+1).toNat=n by omega,hst,if_neg (by omega)];exact d2
  ·have c5:e' 8=-1:=by have:¬e' 8≥0:=Xf b12 hs;omega
   rw[c5]at i3;show[e' 9,e' 10,e' 11]=(Xd R1 (ofJ (e' 2) (e' 3) (e' 4)) 384 (e' 5).toNat).l;rw[i3,<- hP];show(Xd R1 P 384 (e' 5/1).toNat).l=_;rw[Hg]
end Go.Sx
