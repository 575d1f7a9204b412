/- Part Hj of the proof. -/
import Derived.Test.YtlloonffibabfaaGreatDoorHi
set_option linter.unusedVariables false
set_option linter.unusedSimpArgs false
namespace Go.Sx
open Go Go.RowKit
set_option maxRecDepth 100000
def Qpg(im ia b:Nat)(x low n0 y0 y1 y2 y3 y4 y5 n1 n2 n3 n4 n5 t0 t1 t2 t3 t4 t5 t6:A)(k:A->A->A->A->A->A->A->Qq):Qq :=
 Qnp im ia x [(y0,t0,b,b+2,b+5),(y1,t1,b+8,b+10,b+13),(y2,t2,b+16,b+18,b+21),(y3,t3,b+24,b+26,b+29),(y4,t4,b+32,b+34,b+37),(y5,t5,b+40,b+42,b+45)] (.lit 0) fun c =>
 .l (b+48) (.int .u64) (.bin .add .u64 t6 c)
 (.l (b+49) (.int .u64) (.bin .mul .u64 (.v (b+5)) low)
 (.req im [.v (b+49),n0] (.l (b+50) (.int .u64) (.app im 0 [.v (b+49),n0]) (.l (b+51) (.int .u64) (.app im 1 [.v (b+49),n0])
 (.req ia [.v (b+51),.v (b+5),.lit 0] (.l (b+52) (.int .u64) (.app ia 0 [.v (b+51),.v (b+5),.lit 0]) (.l (b+53) (.int .u64) (.app ia 1 [.v (b+51),.v (b+5),.lit 0])
 (.l (b+54) (.int .u64) (.bin .add .u64 (.v (b+50)) (.v (b+53)))
 (Qnp im ia (.v (b+49)) [(n1,.v (b+13),b+55,b+57,b+60),(n2,.v (b+21),b+63,b+65,b+68),(n3,.v (b+29),b+71,b+73,b+76),(n4,.v (b+37),b+79,b+81,b+84),(n5,.v (b+45),b+87,b+89,b+92)] (.v (b+54)) fun c' =>
 .req ia [.v (b+48),c',.lit 0] (.l (b+95) (.int .u64) (.app ia 0 [.v (b+48),c',.lit 0]) (.l (b+96) (.int .u64) (.app ia 1 [.v (b+48),c',.lit 0])
 (k (.v (b+60)) (.v (b+68)) (.v (b+76)) (.v (b+84)) (.v (b+92)) (.v (b+95)) (.v (b+96))))))))))))))
theorem Qqi{xB qn0 qJ V jl l0 j5 t6 c s6 h l' cc ca j2 c' t5' t6' jt:Int}
  (hqz:(qn0+l0)%18446744073709551616=0) (hqn:0<=qn0/\qn0<=18446744073709551615*18446744073709551615)
  (hV:V=jt+Qw*t6) (u6:U t6) (hjl:jl=l0+18446744073709551616*j5) (hj5:0<=j5) (ul:U l0) (uc:U c) (uc':U c') (hb:V+xB<Qw*18446744073709551616)
  (S1:jl+Qw*c=xB+jt+0) (a1:s6=wr .u64 (t6+c))
  (m1:h=qn0/18446744073709551616) (m2:l'=qn0%18446744073709551616) (m4:cc=(l'+l0+0)/18446744073709551616) (m5:ca=wr .u64 (h+cc))
  (S2:j2+2135987035920910082395021706169552114602704522356652769947041607822219725780640550022962086936576*c'=qJ+j5+ca)
  (b1:t5'=(s6+c'+0)%18446744073709551616) (b2:t6'=(s6+c'+0)/18446744073709551616) :
  18446744073709551616*(j2+2135987035920910082395021706169552114602704522356652769947041607822219725780640550022962086936576*t5'+Qw*t6')=V+xB+(qn0+18446744073709551616*qJ)/\U t5'/\0<=t6'/\t6'<=2:=by
 unfold U Qw at *
 simp only[wr]at *
 omega
section
variable {T:List K}{f g:FuncId}{im ia b:Nat}{G:Gl}{e:Nat->Int}
theorem Vh{x low n0 y0 y1 y2 y3 y4 y5 n1 n2 n3 n4 n5 t0 t1 t2 t3 t4 t5 t6:A}{k:A->A->A->A->A->A->A->Qq}{B N V:Int}(hm:T[im]?=some (Wi f))(ha:T[ia]?=some (Xu g))(bx:U (x.ev e))
  (hy:Bv e [y0,y1,y2,y3,y4,y5]) (hn:Bv e [n0,n1,n2,n3,n4,n5]) (ht:Bv e [t0,t1,t2,t3,t4,t5,t6])
  (hB:B=jo e [y0,y1,y2,y3,y4,y5]) (hN:N=jo e [n0,n1,n2,n3,n4,n5]) (hV:V=jo e [t0,t1,t2,t3,t4,t5]+Qw*t6.ev e) (hVB:V<B+N) (hBN:B+N<Qw)
  (hl:n0.ev e*low.ev e%18446744073709551616=18446744073709551615)
  (hk:∀ V' q,Bv e [.v (b+60),.v (b+68),.v (b+76),.v (b+84),.v (b+92),.v (b+95),.v (b+96)] ->
   V'=jo e [.v (b+60),.v (b+68),.v (b+76),.v (b+84),.v (b+92),.v (b+95)]+Qw*e (b+96)->V'<B+N->0<=V'->0<=q/\q<18446744073709551616->18446744073709551616*V'=V+x.ev e*B+q*N ->
   (k (.v (b+60)) (.v (b+68)) (.v (b+76)) (.v (b+84)) (.v (b+92)) (.v (b+95)) (.v (b+96))).Xat T G e) :
  (Qpg im ia b x low n0 y0 y1 y2 y3 y4 y5 n1 n2 n3 n4 n5 t0 t1 t2 t3 t4 t5 t6 k).Xat T G e:=by
 unfold Qpg;obtain⟨ht0,ht1,ht2,ht3,ht4,ht5,ht6,_⟩:=ht;obtain⟨hn0,hn1,hn2,hn3,hn4,hn5,_⟩:=hn;have hB0:0<=B:=by
  obtain⟨z0,z1,z2,z3,z4,z5,_⟩:=hy;unfold U at z0 z1 z2 z3 z4 z5;rw[hB];simp only[jo];omega
 have hN0:0<=N:=by
  unfold U at hn0 hn1 hn2 hn3 hn4 hn5;rw[hN];simp only[jo];omega
 have hxb:A.ev e x*B<=18446744073709551615*B:=M4 (by have:=bx.2;omega) hB0;refine Ur hm ha bx _ _ _ hy ⟨ht0,ht1,ht2,ht3,ht4,ht5,trivial⟩ (by show U 0;unfold U;omega) fun g1 g2 g3=>?_
 simp only[List.map,Qev,Ov,O5,Bv,Ql]at g1 g2 g3;obtain⟨l0,l1,l2,l3,l4,l5,_⟩:=g1;simp only[Qev];have ht6':=ht6;refine fun a1 k1 a3 k3=>⟨by simp only[hm,Wi],fun a4 _ a5 _=>⟨by simp only[ha,Xu,List.map,Qn];omega,fun _ _ a7 _ a8 k8=>?_⟩⟩
 have k3':U (e (b+49)):=Zb k3;have k8':U (e (b+54)):=Zb k8;refine Ur hm ha (by exact k3') _ _ _ ⟨hn1,hn2,hn3,hn4,hn5,trivial⟩ ⟨l1,l2,l3,l4,l5,trivial⟩ (by exact k8') fun p1 p2 p3=>?_
 simp only[List.map,Qev,Ov,O5,Bv,Ql]at p1 p2 p3;obtain⟨r1,r2,r3,r4,r5,_⟩:=p1;simp only[Qev];refine⟨by simp only[ha,Xu,List.map,Qn];omega,fun b1 _ b2 _=>?_⟩;simp only[D.ev,ha,hm,Xu,Wi,List.map,O4,O9,Ql,Qn,Qm]at a1 a3 a4 a5 a7 a8 b1 b2;have hz:=Ze7 a3 hl;have e6:Qr4 (0+1+1+1+1+1+1)=Qw:=by decide +kernel
 have e5:Qr4 (0+1+1+1+1+1)=2135987035920910082395021706169552114602704522356652769947041607822219725780640550022962086936576:=by decide +kernel
 rw[e6,show(A.lit 0).ev e=0 from rfl]at g3;rw[e5]at p3;have hqn:=Quy k3' hn0;have hxB:A.ev e x*jo e [y0,y1,y2,y3,y4,y5]=A.ev e x*B:=by rw[hB]
 have hvx:V+A.ev e x*jo e [y0,y1,y2,y3,y4,y5]<Qw*18446744073709551616:=by
  rw[hxB];generalize A.ev e x*B=z at *
  clear g3 p3 hz a1 a3 a4 a5 a7 a8 b1 b2 hqn hV hN hB hk;unfold Qw at *
  omega
 have hj5:0<=jo e [.v (b+13),.v (b+21),.v (b+29),.v (b+37),.v (b+45)]:=by
  unfold U at l1 l2 l3 l4 l5;simp only[jo,Ql];omega
 obtain⟨s1,s2,s3,s4⟩:=Qqi hz hqn hV ht6 (show jo e [.v (b+5),.v (b+13),.v (b+21),.v (b+29),.v (b+37),.v (b+45)]=_ from rfl) hj5 l0 g2 p2 hvx g3 a1 a4 a5 a7 a8 p3 b1 b2;have hqN:e (b+49)*N=e (b+49)*n0.ev e+18446744073709551616*(e (b+49)*jo e [n1,n2,n3,n4,n5]):=by
  rw[hN,show jo e [n0,n1,n2,n3,n4,n5]=n0.ev e+18446744073709551616*jo e [n1,n2,n3,n4,n5]from rfl,Int.mul_add,Int.mul_left_comm]
 rw[<- hqN]at s1;have s1':18446744073709551616*(jo e [.v (b+60),.v (b+68),.v (b+76),.v (b+84),.v (b+92),.v (b+95)]+Qw*e (b+96))=V+A.ev e x*B+e (b+49)*N:=by
  rw[hxB]at s1;rw[<- s1];simp only[jo,Ql];omega
 have m2:e (b+49)*N<=18446744073709551615*N:=M4 (by have:=k3'.2;omega) hN0;refine hk _ _ ⟨r1,r2,r3,r4,r5,s2,by exact⟨s3,by show e (b+96)<_;omega⟩,trivial⟩ rfl ?_ ?_ k3' s1'
 ·generalize jo e [.v (b+60),.v (b+68),.v (b+76),.v (b+84),.v (b+92),.v (b+95)]+Qw*e (b+96)=V' at *
  omega
 ·unfold U at r1 r2 r3 r4 r5 s2;have s3':0<=e (b+96):=s3;unfold Qw;simp only[jo,Ql];omega
end
def Qdj(i b:Nat)(t0 t1 t2 t3 t4 t5 t6:A)(k:A->A->A->A->A->A->A->Qq):Qq :=
 Qpg 1 0 b (.m 1 i) (.lit 9940570264628428797) (.lit 13402431016077863595) (.m 0 0) (.m 0 1) (.m 0 2) (.m 0 3) (.m 0 4) (.m 0 5) (.lit 2210141511517208575) (.lit 7435674573564081700) (.lit 7239337960414712511) (.lit 5412103778470702295) (.lit 1873798617647539866) t0 t1 t2 t3 t4 t5 t6 k
def Zrs:Qq :=
 Qdj 0 2 (.lit 0) (.lit 0) (.lit 0) (.lit 0) (.lit 0) (.lit 0) (.lit 0) fun t0 t1 t2 t3 t4 t5 t6 =>
 Qdj 1 99 t0 t1 t2 t3 t4 t5 t6 fun t0 t1 t2 t3 t4 t5 t6 =>
 Qdj 2 196 t0 t1 t2 t3 t4 t5 t6 fun t0 t1 t2 t3 t4 t5 t6 =>
 Qdj 3 293 t0 t1 t2 t3 t4 t5 t6 fun t0 t1 t2 t3 t4 t5 t6 =>
 Qdj 4 390 t0 t1 t2 t3 t4 t5 t6 fun t0 t1 t2 t3 t4 t5 t6 =>
 Qdj 5 487 t0 t1 t2 t3 t4 t5 t6 fun t0 t1 t2 t3 t4 t5 _ =>
 (.l 584 .num (.join [t0,t1,t2,t3,t4,t5])
 (.req 2 [.v 584]
 (.l 585 .num (.app 2 0 [.v 584])
 (.ret [.v 585]))))
theorem Zjv:jo (fun _=>0) [.lit 13402431016077863595,.lit 2210141511517208575,.lit 7435674573564081700,.lit 7239337960414712511,.lit 5412103778470702295,.lit 1873798617647539866]=bP:=by decide
theorem Za4(f1 f2 f3 f:FuncId)(e:Nat->Int)(hk:Q0 [.num,.num] [e 0,e 1])(hp:(Qc4 f).pre [e 0,e 1]) :
  Zrs.Xat [Xu f1,Wi f2,Qf5 f3] ⟨fun ys=>ys=(Qc4 f).sem [e 0,e 1],[]⟩ e:=by
 obtain⟨h0,h1,_⟩:=hk;have hab:e 0<bP:=hp;have hx:∀i j,U ((A.m i j).ev e):=Qdx e;have hb6:=jo6 h0 e 0 rfl;have hn6:jo e [.lit 13402431016077863595,.lit 2210141511517208575,.lit 7435674573564081700,.lit 7239337960414712511,.lit 5412103778470702295,.lit 1873798617647539866]=bP:=Zjv;have hB:Bv e [.m 0 0,.m 0 1,.m 0 2,.m 0 3,.m 0 4,.m 0 5]:=⟨hx _ _,hx _ _,hx _ _,hx _ _,hx _ _,hx _ _,trivial⟩
 have hN:Bv e [.lit 13402431016077863595,.lit 2210141511517208575,.lit 7435674573564081700,.lit 7239337960414712511,.lit 5412103778470702295,.lit 1873798617647539866]:=by
  refine⟨?_,?_,?_,?_,?_,?_,trivial⟩ <;> (show U _;simp only[Qn,U];decide)
 have hl0:(A.lit 13402431016077863595).ev e*(A.lit 9940570264628428797).ev e%18446744073709551616=18446744073709551615:=by simp only[Qn];decide
 have hz:U ((A.lit 0).ev e):=by show U 0;unfold U;omega
 have hbn:e 0+bP<Qw:=by have:=Zay;omega
 have hb0:0<=e 0:=h0.1;have hbp:=Q9;unfold Zrs Qdj;refine Vh (V:=0) rfl rfl (hx _ _) hB hN ⟨hz,hz,hz,hz,hz,hz,hz,trivial⟩ hb6.symm hn6.symm (by simp only[jo,Qn];omega) (by omega) hbn hl0 fun V1 q0 t1 v1 b1 _ k1 E1=>?_
 refine Vh rfl rfl (hx _ _) hB hN t1 hb6.symm hn6.symm v1 b1 hbn hl0 fun V2 q1 t2 v2 b2 _ k2 E2=>?_
 refine Vh rfl rfl (hx _ _) hB hN t2 hb6.symm hn6.symm v2 b2 hbn hl0 fun V3 q2 t3 v3 b3 _ k3 E3=>?_
 refine Vh rfl rfl (hx _ _) hB hN t3 hb6.symm hn6.symm v3 b3 hbn hl0 fun V4 q3 t4 v4 b4 _ k4 E4=>?_
 refine Vh rfl rfl (hx _ _) hB hN t4 hb6.symm hn6.symm v4 b4 hbn hl0 fun V5 q4 t5 v5 b5 _ k5 E5=>?_
 refine Vh rfl rfl (hx _ _) hB hN t5 hb6.symm hn6.symm v5 b5 hbn hl0 fun V6 q5 t6 v6 b6 p6 k6 E6=>?_
 have ha:e 1=wd (Q1 (e 1) 0) (Q1 (e 1) 1) (Q1 (e 1) 2) (Q1 (e 1) 3) (Q1 (e 1) 4) (Q1 (e 1) 5):=Z4 h1;have Jd:=Qtz E1 E2 E3 E4 E5 E6 ha;have hq:=Zqr k1 k2 k3 k4 k5 k6;have hlt:=Za0 h1 h0 hq (by decide) (.inr hab) Jd;have hmv:=Qtb Qbq Jd;obtain⟨u0,u1,u2,u3,u4,u5,u6,_⟩:=t6;have hv6:e 583=0/\V6=jo e [.v 547,.v 555,.v 563,.v 571,.v 579,.v 582]:=by
  have hj:0<=jo e [.v 547,.v 555,.v 563,.v 571,.v 579,.v 582]:=by
   have w0:U (e 547):=u0;have w1:U (e 555):=u1;have w2:U (e 563):=u2;have w3:U (e 571):=u3;have w4:U (e 579):=u4;have w5:U (e 582):=u5;unfold U at w0 w1 w2 w3 w4 w5;simp only[jo,Ql];omega
  have hu:0<=e 583:=u6.1;have hv6':V6=jo e [.v 547,.v 555,.v 563,.v 571,.v 579,.v 582]+Qw*e 583:=v6;have hN2:=Zay;generalize jo e [.v 547,.v 555,.v 563,.v 571,.v 579,.v 582]=J at *
  unfold Qw at hv6' hN2;omega
 refine fun c1 _=>⟨trivial,fun c2 _=>?_⟩
 have c1':e 584=V6:=by
  rw[c1,hv6.2];exact Qpz e [.v 547,.v 555,.v 563,.v 571,.v 579,.v 582]
 have c2':e 585=if bP<=e 584 then e 584-bP else e 584:=c2
 show[e 585]=[Yp bP (e 0) (e 1)]
 have hcm:Yp bP (e 0) (e 1)=Yp bP (e 1) (e 0):=by unfold Yp;rw[M0 (e 0)]
 rw[c2',c1',hcm,<- hmv];congr 1;split
 ·exact(J1 1 (by omega) (by omega) (by omega)).symm
 ·exact(Oy p6 (by omega)).symm
theorem Zt0{v s p:Int}(h:v=if p<=s then s-p else s)(h0:0<=s)(h1:s<2*p):v=s%p:=by
 rw[h];split
 ·exact(J1 1 (by omega) (by omega) (by omega)).symm
 ·exact(Oy h0 (by omega)).symm
theorem Qa1{s c x y i:Int}(hs:s=(x-y-i)%18446744073709551616)(hc:c=if x<y+i then 1 else 0)(hx:0<=x/\x<18446744073709551616)(hy:0<=y/\y<18446744073709551616)(hi:0<=i/\i<=1) :
  s=x-y-i+18446744073709551616*c/\(0<=c/\c<=1)/\(0<=s/\s<18446744073709551616):=by split at hc <;> omega
theorem Qa5{s c x y i:Int}(hs:s=(x+y+i)%18446744073709551616)(hc:c=(x+y+i)/18446744073709551616)(hx:0<=x/\x<18446744073709551616)(hy:0<=y/\y<18446744073709551616)(hi:0<=i/\i<=1) :
  s+18446744073709551616*c=x+y+i/\(0<=c/\c<=1)/\(0<=s/\s<18446744073709551616):=by omega
theorem Zwi{x0 x1 x2 x3 x4 x5 y0 y1 y2 y3 y4 y5 s0 s1 s2 s3 s4 s5 c0 c1 c2 c3 c4 c5:Int}(h0:s0=x0-y0-0+18446744073709551616*c0)(h1:s1=x1-y1-c0+18446744073709551616*c1)(h2:s2=x2-y2-c1+18446744073709551616*c2)(h3:s3=x3-y3-c2+18446744073709551616*c3)(h4:s4=x4-y4-c3+18446744073709551616*c4)(h5:s5=x5-y5-c4+18446744073709551616*c5) :
  s0+18446744073709551616*(s1+18446744073709551616*(s2+18446744073709551616*(s3+18446744073709551616*(s4+18446744073709551616*s5))))=(x0+18446744073709551616*(x1+18446744073709551616*(x2+18446744073709551616*(x3+18446744073709551616*(x4+18446744073709551616*x5)))))-(y0+18446744073709551616*(y1+18446744073709551616*(y2+18446744073709551616*(y3+18446744073709551616*(y4+18446744073709551616*y5)))))+39402006196394479212279040100143613805079739270465446667948293404245721771497210611414266254884915640806627990306816*c5:=by omega
theorem Zxj{x0 x1 x2 x3 x4 x5 y0 y1 y2 y3 y4 y5 s0 s1 s2 s3 s4 s5 c0 c1 c2 c3 c4 c5:Int}(h0:s0+18446744073709551616*c0=x0+y0+0)(h1:s1+18446744073709551616*c1=x1+y1+c0)(h2:s2+18446744073709551616*c2=x2+y2+c1)(h3:s3+18446744073709551616*c3=x3+y3+c2)(h4:s4+18446744073709551616*c4=x4+y4+c3)(h5:s5+18446744073709551616*c5=x5+y5+c4) :
  s0+18446744073709551616*(s1+18446744073709551616*(s2+18446744073709551616*(s3+18446744073709551616*(s4+18446744073709551616*s5))))+39402006196394479212279040100143613805079739270465446667948293404245721771497210611414266254884915640806627990306816*c5=(x0+18446744073709551616*(x1+18446744073709551616*(x2+18446744073709551616*(x3+18446744073709551616*(x4+18446744073709551616*x5)))))+(y0+18446744073709551616*(y1+18446744073709551616*(y2+18446744073709551616*(y3+18446744073709551616*(y4+18446744073709551616*y5))))):=by omega
theorem Zox{s0 s1 s2 s3 s4 s5:Int}(h0:0<=s0/\s0<18446744073709551616)(h1:0<=s1/\s1<18446744073709551616)(h2:0<=s2/\s2<18446744073709551616)(h3:0<=s3/\s3<18446744073709551616)(h4:0<=s4/\s4<18446744073709551616)(h5:0<=s5/\s5<18446744073709551616) :
  0<=s0+18446744073709551616*(s1+18446744073709551616*(s2+18446744073709551616*(s3+18446744073709551616*(s4+18446744073709551616*s5))))/\s0+18446744073709551616*(s1+18446744073709551616*(s2+18446744073709551616*(s3+18446744073709551616*(s4+18446744073709551616*s5))))<39402006196394479212279040100143613805079739270465446667948293404245721771497210611414266254884915640806627990306816:=by omega
theorem z01:(0:Int)<=0/\(0:Int)<=1:=by decide
theorem Zrm:bP=13402431016077863595+18446744073709551616*(2210141511517208575+18446744073709551616*(7435674573564081700+18446744073709551616*(7239337960414712511+18446744073709551616*(5412103778470702295+18446744073709551616*1873798617647539866)))):=by decide
theorem Qax{n:Int}(h:decide (0<=n/\n<18446744073709551616)=true):0<=n/\n<18446744073709551616:=of_decide_eq_true h
def Ziu:Qq:=(xw 0 [.m 0 0,.lit 13402431016077863595,.lit 0] 385 qca
(xw 0 [.m 0 1,.lit 2210141511517208575,.v 386] 1105 qca
(xw 0 [.m 0 2,.lit 7435674573564081700,.v 1106] 1825 qca
(xw 0 [.m 0 3,.lit 7239337960414712511,.v 1826] 2545 qca
(xw 0 [.m 0 4,.lit 5412103778470702295,.v 2546] 3265 qca
(xw 0 [.m 0 5,.lit 1873798617647539866,.v 3266] 3985 qca
(.l 4321 .bit (.cmp .eql (.v 3986) (.lit 1))
(.split 4321
(.ret [.v 0])
(.l 4322 .num (.join [.v 385,.v 1105,.v 1825,.v 2545,.v 3265,.v 3985])
(.ret [.v 4322]))))))))))
theorem Zbi(f1 f:FuncId)(e:Nat->Int)(hk:Q0 [.num] [e 0]):Ziu.Xat [Qam f1] ⟨fun ys=>ys=(Qf5 f).sem [e 0],[]⟩ e:=by
 obtain⟨ha,_⟩:=hk;have ea:=Z4 ha;have hb:=Zrm;have l0_0:=Qt (e 0) 0;have l0_1:=Qt (e 0) 1;have l0_2:=Qt (e 0) 2;have l0_3:=Qt (e 0) 3;have l0_4:=Qt (e 0) 4;have l0_5:=Qt (e 0) 5;have p_0:(0:Int)<=13402431016077863595/\(13402431016077863595:Int)<18446744073709551616:=Qax (by decide);have p_1:(0:Int)<=2210141511517208575/\(2210141511517208575:Int)<18446744073709551616:=Qax (by decide);have p_2:(0:Int)<=7435674573564081700/\(7435674573564081700:Int)<18446744073709551616:=Qax (by decide);have p_3:(0:Int)<=7239337960414712511/\(7239337960414712511:Int)<18446744073709551616:=Qax (by decide);have p_4:(0:Int)<=5412103778470702295/\(5412103778470702295:Int)<18446744073709551616:=Qax (by decide);have p_5:(0:Int)<=1873798617647539866/\(1873798617647539866:Int)<18446744073709551616:=Qax (by decide);simp only[Ziu,Qam,Qf5,KK.has,Ul,Qq.Xat,xw,xws,Nat.reduceAdd,O0,O3,List.map,Qn,Ql,Qp,D.ev,O4,O9];generalize Q1 (e 0) 0=x00 at *
 generalize Q1 (e 0) 1=x01 at *
 generalize Q1 (e 0) 2=x02 at *
 generalize Q1 (e 0) 3=x03 at *
 generalize Q1 (e 0) 4=x04 at *
 generalize Q1 (e 0) 5=x05 at *
 refine⟨z01,fun as0 _ at0 _=>?_⟩;obtain⟨ap0,aq0,ar0⟩:=Qa1 as0 at0 l0_0 p_0 z01;clear as0 at0;refine⟨aq0,fun as1 _ at1 _=>?_⟩;obtain⟨ap1,aq1,ar1⟩:=Qa1 as1 at1 l0_1 p_1 aq0;clear as1 at1;refine⟨aq1,fun as2 _ at2 _=>?_⟩;obtain⟨ap2,aq2,ar2⟩:=Qa1 as2 at2 l0_2 p_2 aq1;clear as2 at2;refine⟨aq2,fun as3 _ at3 _=>?_⟩;obtain⟨ap3,aq3,ar3⟩:=Qa1 as3 at3 l0_3 p_3 aq2;clear as3 at3;refine⟨aq3,fun as4 _ at4 _=>?_⟩;obtain⟨ap4,aq4,ar4⟩:=Qa1 as4 at4 l0_4 p_4 aq3;clear as4 at4;refine⟨aq4,fun as5 _ at5 _=>?_⟩;obtain⟨ap5,aq5,ar5⟩:=Qa1 as5 at5 l0_5 p_5 aq4;clear as5 at5;have tot:=Zwi ap0 ap1 ap2 ap3 ap4 ap5;have rg:=Zox ar0 ar1 ar2 ar3 ar4 ar5;rw[<- ea,<- hb]at tot;intro h1 _;have h1:=Zy h1;refine⟨fun n=>?_,fun n=>?_⟩
 ·rw[if_neg (by clear ea hb ap0 ap1 ap2 ap3 ap4 ap5 ar0 ar1 ar2 ar3 ar4 ar5;omega)]
 ·intro h2 h3;rw[<- h2]at tot;rw[if_pos (by clear ea hb ap0 ap1 ap2 ap3 ap4 ap5 ar0 ar1 ar2 ar3 ar4 ar5;omega)];congr 1;clear ea hb ap0 ap1 ap2 ap3 ap4 ap5 ar0 ar1 ar2 ar3 ar4 ar5;omega
def Zqf:Qq:=(xw 0 [.m 0 0,.m 1 0,.lit 0] 386 qca
(xw 0 [.m 0 1,.m 1 1,.v 387] 1106 qca
(xw 0 [.m 0 2,.m 1 2,.v 1107] 1826 qca
(xw 0 [.m 0 3,.m 1 3,.v 1827] 2546 qca
(xw 0 [.m 0 4,.m 1 4,.v 2547] 3266 qca
(xw 0 [.m 0 5,.m 1 5,.v 3267] 3986 qca
(.l 4322 .num (.join [.v 386,.v 1106,.v 1826,.v 2546,.v 3266,.v 3986])
(xw 1 [.v 4322] 4323 Z7
(.ret [.v 4323])))))))))
theorem Zk0(f1 f2 f:FuncId)(e:Nat->Int)(hk:Q0 [.num,.num] [e 0,e 1])(hp:(Qb1 f).pre [e 0,e 1]):Zqf.Xat [Xu f1,Qf5 f2] ⟨fun ys=>ys=(Qb1 f).sem [e 0,e 1],[]⟩ e:=by
 obtain⟨ha,hb,_⟩:=hk;obtain⟨u0,u1⟩:e 0<bP/\e 1<bP:=hp;have v0:0<=e 0:=ha.1;have v1:0<=e 1:=hb.1;have ea:=Z4 ha;have eb:=Z4 hb;have hP:=Zay;have l0_0:=Qt (e 0) 0;have l0_1:=Qt (e 0) 1;have l0_2:=Qt (e 0) 2;have l0_3:=Qt (e 0) 3;have l0_4:=Qt (e 0) 4;have l0_5:=Qt (e 0) 5;have l1_0:=Qt (e 1) 0;have l1_1:=Qt (e 1) 1;have l1_2:=Qt (e 1) 2;have l1_3:=Qt (e 1) 3;have l1_4:=Qt (e 1) 4;have l1_5:=Qt (e 1) 5;simp only[Zqf,Xu,Qf5,Qb1,KK.has,Ul,Qq.Xat,xw,xws,Nat.reduceAdd,O0,O3,List.map,Qn,Ql,Qp,D.ev,O4,O9];generalize Q1 (e 0) 0=x00 at *
 generalize Q1 (e 0) 1=x01 at *
 generalize Q1 (e 0) 2=x02 at *
 generalize Q1 (e 0) 3=x03 at *
 generalize Q1 (e 0) 4=x04 at *
 generalize Q1 (e 0) 5=x05 at *
 generalize Q1 (e 1) 0=x10 at *
 generalize Q1 (e 1) 1=x11 at *
 generalize Q1 (e 1) 2=x12 at *
 generalize Q1 (e 1) 3=x13 at *
 generalize Q1 (e 1) 4=x14 at *
 generalize Q1 (e 1) 5=x15 at *
 refine⟨z01,fun as0 _ at0 _=>?_⟩;obtain⟨ap0,aq0,ar0⟩:=Qa5 as0 at0 l0_0 l1_0 z01;clear as0 at0;refine⟨aq0,fun as1 _ at1 _=>?_⟩;obtain⟨ap1,aq1,ar1⟩:=Qa5 as1 at1 l0_1 l1_1 aq0;clear as1 at1;refine⟨aq1,fun as2 _ at2 _=>?_⟩;obtain⟨ap2,aq2,ar2⟩:=Qa5 as2 at2 l0_2 l1_2 aq1;clear as2 at2;refine⟨aq2,fun as3 _ at3 _=>?_⟩;obtain⟨ap3,aq3,ar3⟩:=Qa5 as3 at3 l0_3 l1_3 aq2;clear as3 at3;refine⟨aq3,fun as4 _ at4 _=>?_⟩;obtain⟨ap4,aq4,ar4⟩:=Qa5 as4 at4 l0_4 l1_4 aq3;clear as4 at4;refine⟨aq4,fun as5 _ at5 _=>?_⟩;obtain⟨ap5,aq5,ar5⟩:=Qa5 as5 at5 l0_5 l1_5 aq4;clear as5 at5;have tot:=Zxj ap0 ap1 ap2 ap3 ap4 ap5;have rg:=Zox ar0 ar1 ar2 ar3 ar4 ar5;rw[<- ea,<- eb]at tot;intro h1 h2;refine⟨trivial,fun h3 _=>?_⟩;rw[<- h1]at tot rg;clear ea eb h1 ap0 ap1 ap2 ap3 ap4 ap5 ar0 ar1 ar2 ar3 ar4 ar5;have hs:e 4322=e 0+e 1:=by unfold Qw at hP;omega
 have h4:=Zt0 h3 (by omega) (by omega);rw[hs]at h4;rw[Zv3 h4 (Vl v0 u0) (Vl v1 u1)]
def Zp2:Qq:=(xw 0 [.m 0 0,.m 1 0,.lit 0] 386 qca
(xw 0 [.m 0 1,.m 1 1,.v 387] 1106 qca
(xw 0 [.m 0 2,.m 1 2,.v 1107] 1826 qca
(xw 0 [.m 0 3,.m 1 3,.v 1827] 2546 qca
(xw 0 [.m 0 4,.m 1 4,.v 2547] 3266 qca
(xw 0 [.m 0 5,.m 1 5,.v 3267] 3986 qca
(.l 4322 .bit (.cmp .eql (.v 3987) (.lit 1))
(.split 4322
(xw 1 [.v 386,.lit 13402431016077863595,.lit 0] 4707 qca
(xw 1 [.v 1106,.lit 2210141511517208575,.v 4708] 5427 qca
(xw 1 [.v 1826,.lit 7435674573564081700,.v 5428] 6147 qca
(xw 1 [.v 2546,.lit 7239337960414712511,.v 6148] 6867 qca
(xw 1 [.v 3266,.lit 5412103778470702295,.v 6868] 7587 qca
(xw 1 [.v 3986,.lit 1873798617647539866,.v 7588] 8307 qca
(.l 8643 .num (.join [.v 4707,.v 5427,.v 6147,.v 6867,.v 7587,.v 8307])
(.ret [.v 8643]))))))))
(.l 4323 .num (.join [.v 386,.v 1106,.v 1826,.v 2546,.v 3266,.v 3986])
(.ret [.v 4323]))))))))))
theorem Zkt(f1 f2 f:FuncId)(e:Nat->Int)(hk:Q0 [.num,.num] [e 0,e 1])(hp:(Qjd f).pre [e 0,e 1]):Zp2.Xat [Qam f1,Xu f2] ⟨fun ys=>ys=(Qjd f).sem [e 0,e 1],[]⟩ e:=by
 obtain⟨ha,hb,_⟩:=hk;obtain⟨u0,u1⟩:e 0<bP/\e 1<bP:=hp;have v0:0<=e 0:=ha.1;have v1:0<=e 1:=hb.1;have ea:=Z4 ha;have eb:=Z4 hb;have hP:=Zay;have hW:=Zrm;have l0_0:=Qt (e 0) 0;have l0_1:=Qt (e 0) 1;have l0_2:=Qt (e 0) 2;have l0_3:=Qt (e 0) 3;have l0_4:=Qt (e 0) 4;have l0_5:=Qt (e 0) 5;have l1_0:=Qt (e 1) 0;have l1_1:=Qt (e 1) 1;have l1_2:=Qt (e 1) 2;have l1_3:=Qt (e 1) 3;have l1_4:=Qt (e 1) 4;have l1_5:=Qt (e 1) 5;have p_0:(0:Int)<=13402431016077863595/\(13402431016077863595:Int)<18446744073709551616:=Qax (by decide);have p_1:(0:Int)<=2210141511517208575/\(2210141511517208575:Int)<18446744073709551616:=Qax (by decide);have p_2:(0:Int)<=7435674573564081700/\(7435674573564081700:Int)<18446744073709551616:=Qax (by decide);have p_3:(0:Int)<=7239337960414712511/\(7239337960414712511:Int)<18446744073709551616:=Qax (by decide);have p_4:(0:Int)<=5412103778470702295/\(5412103778470702295:Int)<18446744073709551616:=Qax (by decide);have p_5:(0:Int)<=1873798617647539866/\(1873798617647539866:Int)<18446744073709551616:=Qax (by decide);simp only[Zp2,Qam,Xu,Qjd,KK.has,Ul,Qq.Xat,xw,xws,Nat.reduceAdd,O0,O3,List.map,Qn,Ql,Qp,D.ev,O4,O9];generalize Q1 (e 0) 0=x00 at *
 generalize Q1 (e 0) 1=x01 at *
 generalize Q1 (e 0) 2=x02 at *
 generalize Q1 (e 0) 3=x03 at *
 generalize Q1 (e 0) 4=x04 at *
 generalize Q1 (e 0) 5=x05 at *
 generalize Q1 (e 1) 0=x10 at *
 generalize Q1 (e 1) 1=x11 at *
 generalize Q1 (e 1) 2=x12 at *
 generalize Q1 (e 1) 3=x13 at *
 generalize Q1 (e 1) 4=x14 at *
 generalize Q1 (e 1) 5=x15 at *
 refine⟨z01,fun as0 _ at0 _=>?_⟩;obtain⟨ap0,aq0,ar0⟩:=Qa1 as0 at0 l0_0 l1_0 z01;clear as0 at0;refine⟨aq0,fun as1 _ at1 _=>?_⟩;obtain⟨ap1,aq1,ar1⟩:=Qa1 as1 at1 l0_1 l1_1 aq0;clear as1 at1;refine⟨aq1,fun as2 _ at2 _=>?_⟩;obtain⟨ap2,aq2,ar2⟩:=Qa1 as2 at2 l0_2 l1_2 aq1;clear as2 at2;refine⟨aq2,fun as3 _ at3 _=>?_⟩;obtain⟨ap3,aq3,ar3⟩:=Qa1 as3 at3 l0_3 l1_3 aq2;clear as3 at3;refine⟨aq3,fun as4 _ at4 _=>?_⟩;obtain⟨ap4,aq4,ar4⟩:=Qa1 as4 at4 l0_4 l1_4 aq3;clear as4 at4;refine⟨aq4,fun as5 _ at5 _=>?_⟩;obtain⟨ap5,aq5,ar5⟩:=Qa1 as5 at5 l0_5 l1_5 aq4;clear as5 at5;have tot:=Zwi ap0 ap1 ap2 ap3 ap4 ap5;have rg:=Zox ar0 ar1 ar2 ar3 ar4 ar5;rw[<- ea,<- eb]at tot;intro h1 _;have h1:=Zy h1;have Jd:∀v:Int,v=(e 0-e 1)%bP->[v]=[Qr (Qo (e 0)-Qo (e 1))]:=fun v hv=>by rw[Zv7 hv (Vl v0 u0) (Vl v1 u1)]
 refine⟨fun n=>?_,fun n=>?_⟩
 ·have hc:e 3987=1:=by
   rcases h1 with⟨_,h⟩|⟨h,_⟩
   ·exact h
   ·exact absurd h n
  refine⟨z01,fun bs0 _ bt0 _=>?_⟩;obtain⟨bp0,bq0,br0⟩:=Qa5 bs0 bt0 ar0 p_0 z01;clear bs0 bt0;refine⟨bq0,fun bs1 _ bt1 _=>?_⟩;obtain⟨bp1,bq1,br1⟩:=Qa5 bs1 bt1 ar1 p_1 bq0;clear bs1 bt1;refine⟨bq1,fun bs2 _ bt2 _=>?_⟩;obtain⟨bp2,bq2,br2⟩:=Qa5 bs2 bt2 ar2 p_2 bq1;clear bs2 bt2;refine⟨bq2,fun bs3 _ bt3 _=>?_⟩;obtain⟨bp3,bq3,br3⟩:=Qa5 bs3 bt3 ar3 p_3 bq2;clear bs3 bt3;refine⟨bq3,fun bs4 _ bt4 _=>?_⟩;obtain⟨bp4,bq4,br4⟩:=Qa5 bs4 bt4 ar4 p_4 bq3;clear bs4 bt4;refine⟨bq4,fun bs5 _ bt5 _=>?_⟩;obtain⟨bp5,bq5,br5⟩:=Qa5 bs5 bt5 ar5 p_5 bq4;clear bs5 bt5;have tot2:=Zxj bp0 bp1 bp2 bp3 bp4 bp5;have rg2:=Zox br0 br1 br2 br3 br4 br5;rw[<- hW,tot]at tot2;intro h2 h3;refine Jd _ ?_;rw[<- h2]at tot2 rg2;rw[tot]at rg;have b6:=bq5;clear ap0 ap1 ap2 ap3 ap4 ap5 ar0 ar1 ar2 ar3 ar4 ar5 bp0 bp1 bp2 bp3 bp4 bp5 br0 br1 br2 br3 br4 br5 ea eb h2 hW tot h3;unfold Qw at hP;have hs:e 8643=e 0-e 1+bP:=by omega
  rw[hs];exact(J1 (-1) (by omega) (by omega) (by omega)).symm
 ·have hc:e 3987=0:=by
   rcases h1 with⟨h,_⟩|⟨_,h⟩
   ·exact absurd (h.symm.trans n) (by decide)
   ·have:=aq5;clear tot rg ea eb hW;rcases this with⟨q1,q2⟩;rcases Int.lt_or_le 0 (e 3987)with z|z;exact absurd (show e 3987=1 from Int.le_antisymm q2 z) h;exact Int.le_antisymm z q1
  intro h2 h3;refine Jd _ ?_;rw[<- h2]at tot rg;clear ap0 ap1 ap2 ap3 ap4 ap5 ar0 ar1 ar2 ar3 ar4 ar5 ea eb h2 hW h3;have hs:e 4323=e 0-e 1:=by omega
  rw[hs];exact(Oy (by omega) (by omega)).symm
def Zxg:Qq:=(xw 0 [.lit 0,.v 0] 1 Z7
(.ret [.v 1]))
theorem Zjl(f1 f:FuncId)(e:Nat->Int)(hk:Q0 [.num] [e 0])(hp:(Qgy f).pre [e 0]):Zxg.Xat [Qjd f1] ⟨fun ys=>ys=(Qgy f).sem [e 0],[]⟩ e:=by
 have u0:e 0<bP:=hp;refine⟨⟨Q9,u0⟩,fun a1 _=>?_⟩;show[e 1]=[Qr (-Qo (e 0))]
 rw[show e 1=Qr (Qo 0-Qo (e 0))from a1,show Qo 0=0 by unfold Qo;rw[Oab];rfl,Int.zero_sub]
theorem Qtu{P:Program}{f:FuncId}(h:(Qc4 f).ok P):(Qay f).ok P:=by
 intro w hG args xs hin hp;have hx:∃a b,xs=[a,b]:=by
  match xs,hp with
  |[a,b],_=>exact⟨a,b,rfl⟩
 obtain⟨a,b,rfl⟩:=hx;have hp':a<bP/\b<bP:=hp;have h1:=Qgf _ _ _ hin;have ka:0<=a:=h1.1.1;have kb:0<=b:=h1.2.1.1;have h2:=h w hG args [a,b] hin hp'.1;have e1:(Qc4 f).sem [a,b]=(Qay f).sem [a,b]:=by
  show[Yp bP a b]=[Qr (Qo a*Qo b)]
  rw[Zwz rfl (Vl ka hp'.1) (Vl kb hp'.2)]
 rw[<- e1];exact h2
def Que(f:FuncId):K:={fn:=f,ext:=false,ins:=[],outs:=[oN],pre:=fun _=>True,sem:=fun _=>[Xc bP] }
def Qkv(f:FuncId):K:={fn:=f,ext:=false,ins:=[],outs:=[oN],pre:=fun _=>True,sem:=fun _=>[Qr 1] }
def Ztc:Qq:=(.ret [.lit 2708263910654730174793787626328176511836455197166317677006154293982164122222515399004018013397331347120527951271750])
theorem Za6(f:FuncId)(e:Nat->Int):Ztc.Xat [] ⟨fun ys=>ys=(Que f).sem [],[]⟩ e:=by
 show[(_:Int)]=[Xc bP]
 rw[show Xc bP=2708263910654730174793787626328176511836455197166317677006154293982164122222515399004018013397331347120527951271750 by decide +kernel];rfl
def Zxl:Qq:=(.ret [.lit 3380320199399472671518931668520476396067793891014375699959770179129436917079669831430077592723774664465579537268733])
theorem Zhn(f:FuncId)(e:Nat->Int):Zxl.Xat [] ⟨fun ys=>ys=(Qkv f).sem [],[]⟩ e:=by
 show[(3380320199399472671518931668520476396067793891014375699959770179129436917079669831430077592723774664465579537268733:Int)]=[Qr 1]
 rw[show Qr 1=Qw%bP by unfold Qr;rw[Int.one_mul]];decide +kernel
def Zyw:Qq:=(xw 1 [] 1 Z7
(xw 0 [.v 1,.v 0] 97 Z7
(.ret [.v 97])))
theorem Zo5(f1 f2 f:FuncId)(e:Nat->Int)(hk:Q0 [.num] [e 0]):Zyw.Xat [Qc4 f1,Que f2] ⟨fun ys=>ys=(Zn9 f).sem [e 0],[]⟩ e:=by
 refine⟨trivial,fun a1 _=>⟨?_,fun a2 _=>?_⟩⟩
 ·show e 1<bP;rw[show e 1=Xc bP from a1];exact(Qo5 Q9).2
 ·show[e 97]=[Qr (e 0)]
  rw[show e 97=Yp bP (e 1) (e 0)from a2,show e 1=Xc bP from a1,Zzb]
def Zvd:Qq:=(xw 0 [.v 0,.lit 1] 1 Z7
(.ret [.v 1]))
theorem Zbx(f1 f:FuncId)(e:Nat->Int)(hk:Q0 [.num] [e 0])(hp:(Qn7 f).pre [e 0]):Zvd.Xat [Qc4 f1] ⟨fun ys=>ys=(Qn7 f).sem [e 0],[]⟩ e:=by
 have u0:e 0<bP:=hp;refine⟨u0,fun a1 _=>?_⟩;show[e 1]=[Qo (e 0)]
 rw[show e 1=Yp bP (e 0) 1 from a1,Zsv]
theorem Zcu{N x a b:Int}(h:∃z,N*x=1+a*z)(hb:∃c,a*a=b*c)(hW:∃d,18446744073709551616=b*d) :
  ∃z,N*(x*((2-N*x%18446744073709551616)%18446744073709551616)%18446744073709551616)=1+b*z:=by
 obtain⟨z,hz⟩:=h;obtain⟨c,hc⟩:=hb;obtain⟨d,hd⟩:=hW;obtain⟨t1,h1⟩:=Y1 (x:=N*x) (n:=18446744073709551616);obtain⟨t2,h2⟩:=Y1 (x:=2-N*x%18446744073709551616) (n:=18446744073709551616);obtain⟨t3,h3⟩:=Y1 (x:=x*((2-N*x%18446744073709551616)%18446744073709551616)) (n:=18446744073709551616);rw[h3,h2,h1];generalize (18446744073709551616:Int)=W at *
 subst hd;refine⟨d*(N*t3+N*x*t2-N*x*t1)-c*z*z,?_⟩;have e1:N*x*(N*x)=(1+a*z)*(1+a*z):=by rw[hz]
 have e2:(1+a*z)*(1+a*z)=1+2*(a*z)+b*c*z*z:=by rw[<- hc];grind
 grind
theorem sq8{n:Int}(h:n%2=1):∃z,n*n=1+8*z:=by
 rcases Int.emod_two_eq (n/2)with h3|h3
 ·have h4:n=4*(n/2/2)+1:=by omega
  generalize n/2/2=q at *
  exact⟨q*(2*q)+q,by subst h4;grind⟩
 ·have h4:n=4*(n/2/2)+3:=by omega
  generalize n/2/2=q at *
  exact⟨q*(2*q)+3*q+1,by subst h4;grind⟩
theorem Bp{l x a b y:Int}{k:Nat}(h1:a=l*x%18446744073709551616)(h2:b=(2-a)%18446744073709551616)(h3:y=x*b%18446744073709551616):Qfg l (k+1) x=Qfg l k y:=by
 rw[h3,h2,h1];rfl
theorem Zbp{n:Int}(h:n%2=1):∃z,n*Qfg n 6 n=1+18446744073709551616*z:=by
 have s0:=sq8 h;have s1:=Zcu s0 (b:=64) ⟨1,by decide⟩ ⟨288230376151711744,by decide⟩;have s2:=Zcu s1 (b:=4096) ⟨1,by decide⟩ ⟨4503599627370496,by decide⟩;have s3:=Zcu s2 (b:=16777216) ⟨1,by decide⟩ ⟨1099511627776,by decide⟩;have s4:=Zcu s3 (b:=281474976710656) ⟨1,by decide⟩ ⟨65536,by decide⟩;have s5:=Zcu s4 (b:=18446744073709551616) ⟨4294967296,by decide⟩ ⟨1,by decide⟩;exact Zcu s5 (b:=18446744073709551616) ⟨18446744073709551616,by decide⟩ ⟨1,by decide⟩
theorem Zff{n:Int}(h:n%2=1):n*Qgv n%18446744073709551616=18446744073709551615:=by
 obtain⟨z,hz⟩:=Zbp (n:=n%18446744073709551616) (by omega);unfold Qgv;generalize Qfg (n%18446744073709551616) 6 (n%18446744073709551616)=x at *
 obtain⟨t1,h1⟩:=Y1 (x:=-x) (n:=18446744073709551616);obtain⟨t2,h2⟩:=Y1 (x:=n) (n:=18446744073709551616);rw[h1];rw[h2]at hz;refine J1 (n*t1+t2*x-z-1) ?_ (by decide) (by decide)
 grind
theorem Qis{n:Int}(h:n%2=1)(h3:3<=n)(hl:n<2^382):Qa0 n (Qgv n) (Xc n):=⟨⟨Zff h,h3,hl⟩,rfl⟩
theorem Zjo{x o0 o1 o2 o3 o4 o5:Int}(hx:0<=x/\x<Qw)(hs:2*x<Qw)(h0:o0=2*Q1 x 0%18446744073709551616)(h1:o1=2*Q1 x 1%18446744073709551616+Q1 x 0/9223372036854775808)
  (h2:o2=2*Q1 x 2%18446744073709551616+Q1 x 1/9223372036854775808) (h3:o3=2*Q1 x 3%18446744073709551616+Q1 x 2/9223372036854775808) (h4:o4=2*Q1 x 4%18446744073709551616+Q1 x 3/9223372036854775808)
  (h5:o5=2*Q1 x 5%18446744073709551616+Q1 x 4/9223372036854775808):Y6 [o0,o1,o2,o3,o4,o5]=2*x:=by
 have ex:=Z4 hx;have l0:=Qt x 0;have l1:=Qt x 1;have l2:=Qt x 2;have l3:=Qt x 3;have l4:=Qt x 4;have l5:=Qt x 5;rw[Ul];generalize Q1 x 0=x0 at *
 generalize Q1 x 1=x1 at *
 generalize Q1 x 2=x2 at *
 generalize Q1 x 3=x3 at *
 generalize Q1 x 4=x4 at *
 generalize Q1 x 5=x5 at *
 unfold Qw at hs;omega
def Zv5:Qq:=(.l 97 kU (.bin .and .u64 (.m 0 0) (.lit 1))
(.l 145 .bit (.cmp .eql (.v 97) (.lit 0))
(.split 145
(.bad 402 "")
(xw 0 [.v 0] 289 [kI]
(.l 337 .bit (.cmp .gtr (.v 289) (.lit 382))
(.split 337
(.bad 402 "")
(xw 3 [.lit 3] 529 Z7
(xw 1 [.v 0,.v 529] 577 [kI]
(.l 625 .bit (.cmp .lss (.v 577) (.lit 0))
(.split 625
(.bad 402 "")
(.l 721 kU (.bin .mul .u64 (.m 0 0) (.m 0 0))
(.l 722 kU (.bin .sub .u64 (.lit 2) (.v 721))
(.l 723 kU (.bin .mul .u64 (.m 0 0) (.v 722))
(.l 724 kU (.bin .mul .u64 (.m 0 0) (.v 723))
(.l 725 kU (.bin .sub .u64 (.lit 2) (.v 724))
(.l 726 kU (.bin .mul .u64 (.v 723) (.v 725))
(.l 727 kU (.bin .mul .u64 (.m 0 0) (.v 726))
(.l 728 kU (.bin .sub .u64 (.lit 2) (.v 727))
(.l 729 kU (.bin .mul .u64 (.v 726) (.v 728))
(.l 730 kU (.bin .mul .u64 (.m 0 0) (.v 729))
(.l 731 kU (.bin .sub .u64 (.lit 2) (.v 730))
(.l 732 kU (.bin .mul .u64 (.v 729) (.v 731))
(.l 733 kU (.bin .mul .u64 (.m 0 0) (.v 732))
(.l 734 kU (.bin .sub .u64 (.lit 2) (.v 733))
(.l 735 kU (.bin .mul .u64 (.v 732) (.v 734))
(.l 736 kU (.bin .mul .u64 (.m 0 0) (.v 735))
(.l 737 kU (.bin .sub .u64 (.lit 2) (.v 736))
(.l 738 kU (.bin .mul .u64 (.v 735) (.v 737))
(.l 739 kU (.bin .sub .u64 (.lit 0) (.v 738))
(xw 3 [.lit 1] 740 Z7
(.loop [.v 740,.lit 0] [.num,kI] 741
(.l 743 .bit (.cmp .lss (.v 742) (.lit 768))
(.split 743
(.l 744 kU (.bin .shl .u64 (.m 741 0) (.lit 1))
(.l 745 kU (.bin .shl .u64 (.m 741 1) (.lit 1))
(.l 1130 kU (.bin .shr .u64 (.m 741 0) (.lit 63))
(.l 1178 kU (.bin .or .u64 (.v 745) (.v 1130))
(.l 1322 kU (.bin .shl .u64 (.m 741 2) (.lit 1))
(.l 1707 kU (.bin .shr .u64 (.m 741 1) (.lit 63))
(.l 1755 kU (.bin .or .u64 (.v 1322) (.v 1707))
(.l 1899 kU (.bin .shl .u64 (.m 741 3) (.lit 1))
(.l 2284 kU (.bin .shr .u64 (.m 741 2) (.lit 63))
(.l 2332 kU (.bin .or .u64 (.v 1899) (.v 2284))
(.l 2476 kU (.bin .shl .u64 (.m 741 4) (.lit 1))
(.l 2861 kU (.bin .shr .u64 (.m 741 3) (.lit 63))
(.l 2909 kU (.bin .or .u64 (.v 2476) (.v 2861))
(.l 3053 kU (.bin .shl .u64 (.m 741 5) (.lit 1))
(.l 3438 kU (.bin .shr .u64 (.m 741 4) (.lit 63))
(.l 3486 kU (.bin .or .u64 (.v 3053) (.v 3438))
(.l 3630 .num (.join [.v 744,.v 1178,.v 1755,.v 2332,.v 2909,.v 3486])
(xw 2 [.v 0,.v 739,.lit 0,.v 3630] 3631 Z7
(.l 3632 kI (.bin .add .i64 (.v 742) (.lit 1))
(.back 0 [.v 3631,.v 3632]))))))))))))))))))))
(.ret [.v 0,.v 739,.v 741]))))))))))))))))))))))))))))))))))
theorem Zgw{n i x:Int}(hn:3<=n)(hi:0<=i)(hx:x=2^i.toNat%n):(if n<=2*x then 2*x-n else 2*x)=2^(i+1).toNat%n:=by
 have h1:(i+1).toNat=i.toNat+1:=by omega
 obtain⟨z,hz⟩:=Y1 (x:=(2:Int)^i.toNat) (n:=n);have hb:=Zo (x:=(2:Int)^i.toNat) (n:=n) (by omega);rw[h1,L3];rw[<- hx]at hb hz;have key:2^i.toNat*2%n=2*x%n:=md (-(2*z)) (by rw[hz];grind);rw[key];split
 ·exact(J1 1 (by omega) (by omega) (by omega)).symm
 ·exact(Oy (by omega) (by omega)).symm
theorem Zvn{v x:Int}(h:v=Qm .shl .u64 x 1):v=2*x%18446744073709551616:=by
 have:=Qk7 2 h rfl;simp only[wr]at this;omega
theorem Zoh(f1 f2 f3 f4 f:FuncId)(te:TypeId)(e:Nat->Int)(hk:Q0 [.num] [e 0])(hp:(Qhk f te).pre [e 0]):Zv5.Xat [Qml f1,Vt f2,Qg2 f3,kOf f4] ⟨fun ys=>ys=(Qhk f te).sem [e 0],[]⟩ e:=by
 obtain⟨hodd,hn3,hn⟩:=hp;have h0:=hk.1;have z:=Qdx e;have hl:2*e 0<Qw:=by rw[Ztv]at hn;unfold Qw;omega
 simp only[KK.has]at h0;have e00:Q1 (e 0) 0=e 0%18446744073709551616:=Qsg _;simp only[Zv5,Qml,Vt,Qg2,kOf,Qhk,Qq.Xat,xw,xws,Nat.reduceAdd,O0,O3,List.map,Qn,Ql,Qp,D.ev,O4,O9];intro a1 _ a2 _;have b1:=Qkp a1 (z 0 0);have b2:=Zy a2;refine⟨fun n=>by clear a1 z;omega,fun n=>⟨trivial,fun a3 _ a4 _=>?_⟩⟩;have b4:=Qeq a4;have hb:=Jh 382 (e 0) h0.1 hn;rw[<- a3]at hb;refine⟨fun n=>by clear a1 z;omega,fun n=>⟨trivial,fun a5 _=>⟨trivial,fun a6 _ a7 _=>?_⟩⟩⟩;have b7:=Zj a7;rw[a5]at a6;have b6:¬e 577<0:=by rw[a6];rw[if_neg (by clear a1 z;omega)];split <;> decide
 refine⟨fun n=>by clear a1 z;omega,fun n=>?_⟩;intro c1 _ c2 _ c3 _ c4 _ c5 _ c6 _ c7 _ c8 _ c9 _ c10 _ c11 _ c12 _ c13 _ c14 _ c15 _ c16 _ c17 _ c18 _ c19 _;have hlow:e 739=Qgv (e 0):=by
  simp only[Qm,wr]at c1 c2 c3 c4 c5 c6 c7 c8 c9 c10 c11 c12 c13 c14 c15 c16 c17 c18 c19;unfold Qgv;rw[<- e00,Bp c1 c2 c3,Bp c4 c5 c6,Bp c7 c8 c9,Bp c10 c11 c12,Bp c13 c14 c15,Bp c16 c17 c18,c19,Int.zero_sub];rfl
 clear c1 c2 c3 c4 c5 c6 c7 c8 c9 c10 c11 c12 c13 c14 c15 c16 c17 c18 c19;refine⟨trivial,fun d1 _=>?_⟩;refine⟨fun|[x,i]=>0<=i/\i<=768/\x=2^i.toNat%e 0|_=>False,fun|[_,i]=>(768-i).toNat|_=>0,?_,fun e' he hkk hI=>?_⟩
 ·refine⟨by decide,by decide,?_⟩;rw[d1];show(1:Int)=1%e 0;symm;exact Oy (by decide) (by omega)
 ·obtain⟨i0,i1,i2⟩:0<=e' 742/\e' 742<=768/\e' 741=2^(e' 742).toNat%e 0:=hI;have hx:=Zo (x:=(2:Int)^(e' 742).toNat) (n:=e 0) (by omega);rw[<- i2]at hx;intro g1 _;have g2:=Zj g1;refine⟨fun n=>?_,fun n=>?_⟩
  ·intro s0 _ s1 _ r1 _ o1 _ s2 _ r2 _ o2 _ s3 _ r3 _ o3 _ s4 _ r4 _ o4 _ s5 _ r5 _ o5 _ oj _;have zz:=Qdx e';have hj:=Zjo (x:=e' 741) (by constructor <;> (clear s0 s1 r1 o1 s2 r2 o2 s3 r3 o3 s4 r4 o4 s5 r5 o5 oj z zz;omega)) (by clear s0 s1 r1 o1 s2 r2 o2 s3 r3 o3 s4 r4 o4 s5 r5 o5 oj z zz;omega) (Zvn s0) (Zj7 o1 s1 r1 (zz _ _) (zz _ _)) (Zj7 o2 s2 r2 (zz _ _) (zz _ _)) (Zj7 o3 s3 r3 (zz _ _) (zz _ _)) (Zj7 o4 s4 r4 (zz _ _) (zz _ _)) (Zj7 o5 s5 r5 (zz _ _) (zz _ _));rw[<- oj]at hj;clear oj s0 s1 r1 o1 s2 r2 o2 s3 r3 o3 s4 r4 o4 s5 r5 o5 z zz;refine⟨trivial,fun k1 _ k2 _=>?_⟩;rw[he 0 (by decide),hj]at k1;have hi:e' 3632=e' 742+1:=by rw[k2];simp only[Qm,wr];omega
   show(0<=e' 3632/\e' 3632<=768/\e' 3631=2^(e' 3632).toNat%e 0)/\(768-e' 3632).toNat<(768-e' 742).toNat;rw[hi,k1,Zgw hn3 i0 i2];exact⟨⟨by omega,by omega,rfl⟩,by omega⟩
  ·have hi:e' 742=768:=by omega
   rw[he 0 (by decide),he 739 (by decide),hlow,i2,hi];rfl
theorem Qpo{x y:Int}(hx:0<=x/\x<Qw)(hy:0<=y/\y<Qw)(h:Q1 x 0=Q1 y 0/\Q1 x 1=Q1 y 1/\Q1 x 2=Q1 y 2/\Q1 x 3=Q1 y 3/\Q1 x 4=Q1 y 4/\Q1 x 5=Q1 y 5):x=y:=by
 have:=Z4 hx;have:=Z4 hy;omega
theorem Qsu{e:Nat->Int}{v:Int}{i j:Nat}(h:v=(D.eqs [(.m i 0,.m j 0),(.m i 1,.m j 1),(.m i 2,.m j 2),(.m i 3,.m j 3),(.m i 4,.m j 4),(.m i 5,.m j 5)]).ev [] e)(hi:0<=e i/\e i<Qw)(hj:0<=e j/\e j<Qw):(v=1/\e i=e j)∨(v=0/\¬e i=e j):=by
 simp only[D.ev,L1,Oaa,Qp,H6,Qfa,Oo,beq_iff_eq]at h;by_cases hc:e i=e j
 ·left;rw[hc]at h;simp at h;exact⟨h,hc⟩
 ·right
  rw[if_neg (fun hh=>hc (Qpo hi hj hh))]at h;exact⟨h,hc⟩
theorem Zj3{e:Nat->Int}{v:Int}{i:Nat}(h:v=(D.eqs [(.m i 0,.lit 0),(.m i 1,.lit 0),(.m i 2,.lit 0),(.m i 3,.lit 0),(.m i 4,.lit 0),(.m i 5,.lit 0)]).ev [] e)(hi:0<=e i/\e i<Qw):(v=1/\e i=0)∨(v=0/\¬e i=0):=by
 simp only[D.ev,L1,Oaa,Qp,Qn,H6,Qfa,Oo,beq_iff_eq]at h;by_cases hc:e i=0
 ·left;rw[hc]at h;simp[Q1]at h;exact⟨h,hc⟩
 ·right
  rw[if_neg (fun hh=>hc (by have:=Z4 hi;omega))]at h;exact⟨h,hc⟩
theorem Zfg{s:Int}(h:Vf s):Wk s%2=1/\3<=Wk s/\Wk s<2^382:=by
 obtain⟨h0,h1⟩:=h;have:s=0∨s=1∨s=2:=by omega
 rw[Ztv];rcases this with h|h|h <;> subst h <;> decide
def Zhb:Qq:=(.l 1 .bit (.cmp .eql (.v 0) (.lit 0))
(.split 1
(.ret [.lit 52435875175126190479447740508185965837690552500527637822603658699938581184513])
(.l 2 .bit (.cmp .eql (.v 0) (.lit 1))
(.split 2
(.ret [.lit 65521])
(.l 3 .bit (.cmp .eql (.v 0) (.lit 2))
(.split 3
(.ret [.lit 72057594037927889])
(.ret [.lit 0])))))))
theorem Zda(f:FuncId)(e:Nat->Int)(hk:Q0 [.int .i64] [e 0])(hp:(Vr f).pre [e 0]):Zhb.Xat [] ⟨fun ys=>ys=(Vr f).sem [e 0],[]⟩ e:=by
 obtain⟨p0,p1⟩:=hp;simp only[Zhb,Vr,Qq.Xat,xw,xws,Nat.reduceAdd,O0,O3,List.map,Qn,Ql,Qp,D.ev,O4,O9];intro a1 _;have b1:=Zy a1;refine⟨fun n=>?_,fun n=>?_⟩
 ·have:e 0=0:=by omega
  rw[this];rfl
 intro a2 _;have b2:=Zy a2;refine⟨fun n=>?_,fun n=>?_⟩
 ·have:e 0=1:=by omega
  rw[this];rfl
 intro a3 _;have b3:=Zy a3;refine⟨fun n=>?_,fun n=>?_⟩
 ·have:e 0=2:=by omega
  rw[this];rfl
 ·omega
def Zaw:Qq:=(.l 1 .bit (.cmp .eql (.v 0) (.lit 0))
(.split 1
(xw 0 [.v 0] 2 Z7
(.ret [.v 2,.lit 0]))
(.l 2 .bit (.cmp .eql (.v 0) (.lit 1))
(.split 2
(xw 0 [.v 0] 3 Z7
(.ret [.v 3,.lit 0]))
(.l 3 .bit (.cmp .eql (.v 0) (.lit 2))
(.l 4 .bit (.not (.v 3))
(.split 4
(.ret [.lit 0,.lit 2])
(xw 0 [.v 0] 5 Z7
(.ret [.v 5,.lit 0])))))))))
theorem Qv4(f1 f:FuncId)(e:Nat->Int)(hk:Q0 [.int .i64] [e 0]):Zaw.Xat [Vr f1] ⟨fun ys=>ys=(Qci f).sem [e 0],[]⟩ e:=by
 simp only[Zaw,Vr,Qci,Qq.Xat,xw,xws,Nat.reduceAdd,O0,O3,List.map,Qn,Ql,Qp,D.ev,O4,O9];intro a1 _;have b1:=Zy a1;refine⟨fun n=>?_,fun n=>?_⟩
 ·have hs:Vf (e 0):=by unfold Vf;omega
  exact⟨hs,fun a _=>by rw[if_pos hs,a]⟩
 intro a2 _;have b2:=Zy a2;refine⟨fun n=>?_,fun n=>?_⟩
 ·have hs:Vf (e 0):=by unfold Vf;omega
  exact⟨hs,fun a _=>by rw[if_pos hs,a]⟩
 intro a3 _ a4 _;have b3:=Zy a3;have b4:=Ju a4;refine⟨fun n=>?_,fun n=>?_⟩
 ·rw[if_neg (by unfold Vf;omega)]
 ·have hs:Vf (e 0):=by unfold Vf;omega
  exact⟨hs,fun a _=>by rw[if_pos hs,a]⟩
def br2(b:Nat):Qq:=(.req 0 [.v 0]
(.l b .num (.app 0 0 [.v 0])
(.req 1 [.v 1,(.v b)]
(.l (b+1) (.int .i64) (.app 1 0 [.v 1,(.v b)])
(.l (b+2) .bit (.cmp .geq (.v (b+1)) (.lit 0))
(.split (b+2)
 (.ret [.lit 0,.lit 2])
 (.req 1 [.v 2,(.v b)]
 (.l (b+3) (.int .i64) (.app 1 0 [.v 2,(.v b)])
 (.l (b+4) .bit (.cmp .geq (.v (b+3)) (.lit 0))
 (.split (b+4)
 (.ret [.lit 0,.lit 2])
 (.req 2 [(.v b)]
 (.l (b+5) .num (.app 2 0 [(.v b)])
 (.l (b+6) (.int .u64) (.app 2 1 [(.v b)])
 (.l (b+7) .num (.app 2 2 [(.v b)])
 (.req 3 [(.v (b+5)),(.v (b+6)),(.v (b+7)),.v 1,.v 2]
 (.l (b+8) .num (.app 3 0 [(.v (b+5)),(.v (b+6)),(.v (b+7)),.v 1,.v 2])
 (.ret [(.v (b+8)),.lit 0])))))))))))))))))
def tS2:Qq:=(.l 3 .bit (.cmp .eql (.v 0) (.lit 0))
(.split 3
(br2 4)
(.l 4 .bit (.cmp .eql (.v 0) (.lit 1))
(.split 4
(br2 5)
(.l 5 .bit (.cmp .eql (.v 0) (.lit 2))
(.l 6 .bit (.not (.v 5))
(.split 6
(.ret [.lit 0,.lit 2])
(br2 7))))))))
theorem Qpc{a b v w:Int}(h:v=if a<b then -1 else if a=b then 0 else 1)(hw:w=Xo (Js .geq v 0)):(w=1/\b<=a)∨(w=0/\a<b):=by
 have:=Qdf hw;split at h
 ·omega
 ·split at h <;> omega
theorem Qix{X:K}{op:Int->Int->Int}(f0 f1 f2:FuncId)(te:TypeId)(hpre:∀n l w a b,Qa0 n l w->X.pre [n,l,w,a,b])(hsem:∀n l w a b,X.sem [n,l,w,a,b]=[op a b%n])(e:Nat->Int)(hs:Vf (e 0))(b:Nat) :
  (br2 b).Xat [Vr f0,Vt f1,Qhk f2 te,X] ⟨fun ys=>ys=Qq9 op [e 0,e 1,e 2],[]⟩ e:=by
 simp only[br2,Vr,Vt,Qhk,Qq9,hsem,Qq.Xat,xw,xws,Nat.reduceAdd,O0,O3,List.map,Qn,Ql,Qp,D.ev,O4,O9];refine⟨hs,fun a0 _=>⟨trivial,fun a1 _ a2 _=>?_⟩⟩;have b2:=Qpc a1 a2;rw[a0]at b2;refine⟨fun n=>by rw[if_neg (by omega)],fun n=>⟨trivial,fun a3 _ a4 _=>?_⟩⟩;have b4:=Qpc a3 a4;rw[a0]at b4;refine⟨fun n'=>by rw[if_neg (by omega)],fun n'=>?_⟩;obtain⟨r1,r2,r3⟩:=Zfg hs;rw[a0];refine⟨⟨r1,r2,r3⟩,fun a5 _ a6 _ a7 _=>⟨hpre _ _ _ _ _ (by rw[a5,a6,a7];exact Qis r1 r2 r3),fun a8 _=>?_⟩⟩;rw[if_pos ⟨hs,by omega,by omega⟩,a8,a5]
theorem Ztk{X:K}{op:Int->Int->Int}(f0 f1 f2 f:FuncId)(te:TypeId)(hpre:∀n l w a b,Qa0 n l w->X.pre [n,l,w,a,b])(hsem:∀n l w a b,X.sem [n,l,w,a,b]=[op a b%n])(e:Nat->Int) :
  tS2.Xat [Vr f0,Vt f1,Qhk f2 te,X] ⟨fun ys=>ys=(kS2 f op).sem [e 0,e 1,e 2],[]⟩ e:=by
 unfold tS2;intro a1 _;have b1:=Zy a1;simp only[Ql,Qn]at b1;refine⟨fun n=>Qix f0 f1 f2 te hpre hsem e (by unfold Vf;omega) _,fun n=>?_⟩;intro a2 _;have b2:=Zy a2;simp only[Ql,Qn]at b2;refine⟨fun n=>Qix f0 f1 f2 te hpre hsem e (by unfold Vf;omega) _,fun n=>?_⟩;intro a3 _ a4 _;have b3:=Zy a3;have b4:=Ju a4;simp only[Ql,Qn]at b3 b4;refine⟨fun n=>?_,fun n=>Qix f0 f1 f2 te hpre hsem e (by unfold Vf;omega) _⟩;show[(0:Int),2]=Qq9 op [e 0,e 1,e 2];simp only[Qq9];rw[if_neg (by unfold Vf;omega)]
def br1(b:Nat)(j:Bool):Qq:=(.req 0 [.v 0]
 (.l b .num (.app 0 0 [.v 0])
 (.req 1 [.v 1,(.v b)]
 (.l (b+1) (.int .i64) (.app 1 0 [.v 1,(.v b)])
 (.l (b+2) .bit (.cmp .geq (.v (b+1)) (.lit 0))
 (.split (b+2)
  (.ret [.lit 0,.lit 2])
  (.req 2 [(.v b)]
  (.l (b+3) .num (.app 2 0 [(.v b)])
  (.l (b+4) (.int .u64) (.app 2 1 [(.v b)])
  (.l (b+5) .num (.app 2 2 [(.v b)])
  (.req 3 [(.v (b+3)),(.v (b+4)),(.v (b+5)),.v 1]
  (.l (b+6) .num (.app 3 0 [(.v (b+3)),(.v (b+4)),(.v (b+5)),.v 1])
   (if j then(.l (b+7) (.int .i64) (.app 3 1 [(.v (b+3)),(.v (b+4)),(.v (b+5)),.v 1]) (.ret [(.v (b+6)),(.v (b+7))]))else(.ret [(.v (b+6)),.lit 0]))))))))))))))
def tS1(j:Bool):Qq:=(.l 2 .bit (.cmp .eql (.v 0) (.lit 0))
(.split 2 (br1 3 j)
(.l 3 .bit (.cmp .eql (.v 0) (.lit 1))
(.split 3 (br1 4 j)
(.l 4 .bit (.cmp .eql (.v 0) (.lit 2))
(.l 5 .bit (.not (.v 4))
(.split 5
 (.ret [.lit 0,.lit 2])
 (br1 6 j))))))))
theorem Zn8(f0 f1 f2 f3 f:FuncId)(te:TypeId)(e:Nat->Int)(hs:Vf (e 0))(b:Nat) :
  (br1 b true).Xat [Vr f0,Vt f1,Qhk f2 te,Qkg f3] ⟨fun ys=>ys=(Qbt f).sem [e 0,e 1],[]⟩ e:=by
 simp only[br1,Vr,Vt,Qhk,Qkg,Qbt,if_true,Qq.Xat,xw,xws,Nat.reduceAdd,O0,O3,List.map,Qn,Ql,Qp,D.ev,O4,O9];refine⟨hs,fun a0 _=>⟨trivial,fun a1 _ a2 _=>?_⟩⟩;have b2:=Qpc a1 a2;rw[a0]at b2;refine⟨fun n=>by rw[if_neg (by omega)],fun n=>?_⟩;obtain⟨r1,r2,r3⟩:=Zfg hs;rw[a0];refine⟨⟨r1,r2,r3⟩,fun a5 _ a6 _ a7 _=>⟨by rw[a5,a6,a7];exact Qis r1 r2 r3,fun a8 _ a9 _=>?_⟩⟩;rw[if_pos ⟨hs,by omega⟩,a8,a9,a5]
theorem Znq{T:List K}{G:Gl}{j:Bool}(e:Nat->Int)(hb:Vf (e 0)->∀b,(br1 b j).Xat T G e)(hn:¬Vf (e 0)->G.goal [0,2]):(tS1 j).Xat T G e:=by
 unfold tS1;intro a1 _;have b1:=Zy a1;simp only[Ql,Qn]at b1;refine⟨fun n=>hb (by unfold Vf;omega) _,fun n=>?_⟩;intro a2 _;have b2:=Zy a2;simp only[Ql,Qn]at b2;refine⟨fun n=>hb (by unfold Vf;omega) _,fun n=>?_⟩;intro a3 _ a4 _;have b3:=Zy a3;have b4:=Ju a4;simp only[Ql,Qn]at b3 b4;exact⟨fun n=>hn (by unfold Vf;omega),fun n=>hb (by unfold Vf;omega) _⟩
theorem Zid(f0 f1 f2 f3 f:FuncId)(te:TypeId)(e:Nat->Int):(tS1 true).Xat [Vr f0,Vt f1,Qhk f2 te,Qkg f3] ⟨fun ys=>ys=(Qbt f).sem [e 0,e 1],[]⟩ e :=
 Znq e (fun hs b=>Zn8 f0 f1 f2 f3 f te e hs b) fun hn=>by simp only[Qbt];rw[if_neg (fun h=>hn h.1)]
def Zqh:Qq:=(.l 1 kU (.bin .shl .u64 (.m 0 1) (.lit 63))
(.l 386 kU (.bin .shr .u64 (.m 0 0) (.lit 1))
(.l 434 kU (.bin .or .u64 (.v 1) (.v 386))
(.l 578 kU (.bin .shl .u64 (.m 0 2) (.lit 63))
(.l 963 kU (.bin .shr .u64 (.m 0 1) (.lit 1))
(.l 1011 kU (.bin .or .u64 (.v 578) (.v 963))
(.l 1155 kU (.bin .shl .u64 (.m 0 3) (.lit 63))
(.l 1540 kU (.bin .shr .u64 (.m 0 2) (.lit 1))
(.l 1588 kU (.bin .or .u64 (.v 1155) (.v 1540))
(.l 1732 kU (.bin .shl .u64 (.m 0 4) (.lit 63))
(.l 2117 kU (.bin .shr .u64 (.m 0 3) (.lit 1))
(.l 2165 kU (.bin .or .u64 (.v 1732) (.v 2117))
(.l 2309 kU (.bin .shl .u64 (.m 0 5) (.lit 63))
(.l 2694 kU (.bin .shr .u64 (.m 0 4) (.lit 1))
(.l 2742 kU (.bin .or .u64 (.v 2309) (.v 2694))
(.l 3270 kU (.bin .shr .u64 (.m 0 5) (.lit 1))
(.l 3318 kU (.bin .or .u64 (.lit 0) (.v 3270))
(.l 3462 .num (.join [.v 434,.v 1011,.v 1588,.v 2165,.v 2742,.v 3318])
(.ret [.v 3462])))))))))))))))))))
theorem Zgt(f:FuncId)(e:Nat->Int)(hk:Q0 [.num] [e 0]):Zqh.Xat [] ⟨fun ys=>ys=(Qr1 f).sem [e 0],[]⟩ e:=by
 have h0:=hk.1;have z:=Qdx e;simp only[Zqh,Qr1,Qq.Xat,xw,xws,Nat.reduceAdd,O0,O3,List.map,Qn,Ql,Qp,D.ev,O4,O9];intro s1 _ r1 _ o1 _ s2 _ r2 _ o2 _ s3 _ r3 _ o3 _ s4 _ r4 _ o4 _ s5 _ r5 _ o5 _ r6 _ o6 _ aj _;have hj:=Qgh h0 (Uz o1 s1 r1 (z _ _) (z _ _)) (Uz o2 s2 r2 (z _ _) (z _ _)) (Uz o3 s3 r3 (z _ _) (z _ _)) (Uz o4 s4 r4 (z _ _) (z _ _)) (Uz o5 s5 r5 (z _ _) (z _ _)) (Zsi o6 r6 (z _ _));rw[<- aj]at hj;rw[hj]
theorem Zxb{a b n:Int}(ha:0<=a/\a<n)(hb:0<=b/\b<n)(z:Int)(h:a=b+n*z):a=b:=by
 have:=md z h;rwa[Oy ha.1 ha.2,Oy hb.1 hb.2]at this
theorem md1{x n:Int}(h:x%n=1):∃z,x=1+n*z:=⟨x/n,by have:=L2 x n;omega⟩
theorem Qyn{n a y:Int}(h0:0<=y/\y<n)(h:a*y%n=1):Zd8 n a=y/\∃y,0<=y/\y<n/\a*y%n=1:=by
 have hex:∃y,0<=y/\y<n/\a*y%n=1:=⟨y,h0.1,h0.2,h⟩
 refine⟨?_,hex⟩;unfold Zd8;rw[dif_pos hex];obtain⟨c0,c1,c2⟩:=hex.choose_spec;generalize hex.choose=c at *
 obtain⟨s,hs⟩:=md1 h;obtain⟨t,ht⟩:=md1 c2;refine Zxb ⟨c0,c1⟩ h0 (t*y-c*s) ?_;have e1:c*(a*y)=c*(1+n*s):=by rw[hs]
 have e2:y*(a*c)=y*(1+n*t):=by rw[ht]
 grind
theorem Zbh{n a:Int}(h:¬ ∃y,0<=y/\y<n/\a*y%n=1):Zd8 n a=0:=by unfold Zd8;rw[dif_neg h]
def Zq2:Qq:=(.l 4 .bit (.cmp .eql (.v 1) (.lit 0))
(.split 4
(.ret [.lit 0,.lit 1])
(xw 1 [.v 0,.v 1,.v 2,.v 3] 101 Z7
(xw 0 [.lit 1] 533 Z7
(.loop [.v 101,.v 0,.v 533,.lit 0] [.num,.num,.num,.num] 534
(.l 538 .bit (.eqs [((.m 534 0),(.lit 0)),((.m 534 1),(.lit 0)),((.m 534 2),(.lit 0)),((.m 534 3),(.lit 0)),((.m 534 4),(.lit 0)),((.m 534 5),(.lit 0))])
(.l 539 .bit (.not (.v 538))
(.split 539
(.l 540 kU (.bin .and .u64 (.m 534 0) (.lit 1))
(.l 541 .bit (.cmp .eql (.v 540) (.lit 0))
(.split 541
(xw 2 [.v 534] 590 Z7
(xw 3 [.v 0,.v 1,.v 2,.v 536] 734 Z7
(.back 0 [.v 590,.v 535,.v 734,.v 537])))
(.l 542 kU (.bin .and .u64 (.m 535 0) (.lit 1))
(.l 543 .bit (.cmp .eql (.v 542) (.lit 0))
(.split 543
(xw 2 [.v 535] 592 Z7
(xw 3 [.v 0,.v 1,.v 2,.v 537] 736 Z7
(.back 0 [.v 534,.v 592,.v 536,.v 736])))
(xw 4 [.v 534,.v 535] 544 [kI]
(.l 545 .bit (.cmp .geq (.v 544) (.lit 0))
(.split 545
(xw 5 [.v 534,.v 535] 546 qha
(xw 6 [.v 0,.v 1,.v 2,.v 536,.v 537] 548 Z7
(.back 0 [.v 546,.v 535,.v 548,.v 537])))
(xw 5 [.v 535,.v 534] 546 qha
(xw 6 [.v 0,.v 1,.v 2,.v 537,.v 536] 548 Z7
(.back 0 [.v 534,.v 546,.v 536,.v 548]))))))))))))
(xw 0 [.lit 1] 588 Z7
(.l 636 .bit (.eqs [((.m 535 0),(.m 588 0)),((.m 535 1),(.m 588 1)),((.m 535 2),(.m 588 2)),((.m 535 3),(.m 588 3)),((.m 535 4),(.m 588 4)),((.m 535 5),(.m 588 5))])
(.l 637 .bit (.not (.v 636))
(.split 637
(.ret [.lit 0,.lit 6])
(.ret [.v 537,.lit 0])))))))))))))
def Zb2(n a:Int):List Int->Prop
 |[u,v,x,y]=>1<=v/\x<n/\y<n/\(∃z,x*a=u+n*z)/\(∃z,y*a=v+n*z)/\(∀d:Int,d∣u->d∣v->d∣a/\d∣n)
 |_=>False
def Qf3:List Int->Nat
 |[u,v,_,_]=>(u+v).toNat
 |_=>0
theorem Qnk{n a u x:Int}(ho:n%2=1)(hu:u%2=0)(h:∃z,x*a=u+n*z):∃z,(x*Zm n%n)*a=u/2+n*z:=by
 obtain⟨z,hz⟩:=h;obtain⟨t,ht⟩:=Y1 (x:=x*Zm n) (n:=n);have e2:2*Zm n=n+1:=by unfold Zm;omega
 have hu2:u=2*(u/2):=by omega
 generalize u/2=w at *
 generalize Zm n=i at *
 rw[ht];refine⟨w+z*i+t*a,?_⟩;have e1:x*a*i=(u+n*z)*i:=by rw[hz]
 have e3:u*i=w*(n+1):=by rw[hu2,<- e2];grind
 grind
theorem Qty{n a u v x y:Int}(h:∃z,x*a=u+n*z)(h':∃z,y*a=v+n*z):∃z,((x-y)%n)*a=(u-v)+n*z:=by
 obtain⟨z,hz⟩:=h;obtain⟨w,hw⟩:=h';obtain⟨t,ht⟩:=Y1 (x:=x-y) (n:=n);rw[ht];exact⟨z-w+t*a,by grind⟩
theorem Zf0(f0 f1 f2 f3 f4 f5 f6 f:FuncId)(e:Nat->Int)(hk:Q0 [.num,.int .u64,.num,.num] [e 0,e 1,e 2,e 3])(hp:(Qkg f).pre [e 0,e 1,e 2,e 3]) :
  Zq2.Xat [kOf f0,Jn f1,Qr1 f2,Qmp f3,Vt f4,Qe0 f5,Qnj f6] ⟨fun ys=>ys=(Qkg f).sem [e 0,e 1,e 2,e 3],[]⟩ e:=by
 obtain⟨hm,hw⟩:=hp;have hn3:=hm.2.1;have hl:=hm.lt;have ho:=hm.odd;have hlow:=hm.Xbl;have h0:=hk.1;simp only[KK.has]at h0;simp only[Zq2,kOf,Jn,Qr1,Qmp,Vt,Qe0,Qnj,Qkg,Qq.Xat,xw,xws,Nat.reduceAdd,O0,O3,List.map,Qn,Ql,Qp,D.ev,O4,O9];intro a4 _;have b4:=Zy a4;refine⟨fun n=>by omega,fun n=>⟨⟨hm,hw⟩,fun a5 _=>⟨trivial,fun a6 _=>?_⟩⟩⟩;refine⟨Zb2 (e 0) (e 3),Qf3,?_,fun e' he hkk hI=>?_⟩
 ·rw[a5,a6];refine⟨by omega,by omega,by omega,?_,⟨-1,by omega⟩,fun d d1 d2=>⟨?_,d2⟩⟩
  ·obtain⟨z,hz⟩:=Y1 (x:=e 3) (n:=e 0);exact⟨-z,by rw[hz];grind⟩
  ·have:=L2 (e 3) (e 0);rw[<- this];exact Oax d1 (Int.dvd_trans d2 (Oaj ..))
 ·obtain⟨i1,i2,i3,i4,i5,i6⟩:Zb2 (e 0) (e 3) [e' 534,e' 535,e' 536,e' 537]:=hI;obtain⟨k1,k2,k3,k4,_⟩:Q0 [.num,.num,.num,.num] [e' 534,e' 535,e' 536,e' 537]:=hkk;simp only[KK.has]at k1 k2 k3 k4;have m0:e' 0=e 0:=he 0 (by decide);have m1:e' 1=e 1:=he 1 (by decide);have m2:e' 2=e 2:=he 2 (by decide);have z:=Qdx e';have hmod:∀i,Q1 (e' i) 0=e' i%18446744073709551616:=fun i=>Qsg _
  intro c1 _ c2 _;have d1:=Zj3 c1 k1;have d2:=Ju c2;refine⟨fun hs=>?_,fun hs=>?_⟩
  ·have hu:1<=e' 534:=by omega
   intro g1 _ g2 _;have j1:=Qkp g1 (z 534 0);have j2:=Zy g2;rw[hmod 534]at j1;refine⟨fun hs2=>?_,fun hs2=>?_⟩
   ·refine⟨trivial,fun r1 _=>⟨by rw[m0,m1,m2];exact⟨⟨hm,hw⟩,i2⟩,fun r2 _=>?_⟩⟩;rw[m0]at r2;have hev:e' 534%2=0:=by clear g1 z;omega
    show Zb2 (e 0) (e 3) [e' 590,e' 535,e' 734,e' 537]/\Qf3 [e' 590,e' 535,e' 734,e' 537]<Qf3 [e' 534,e' 535,e' 536,e' 537];rw[r1,r2];refine⟨⟨i1,(Zo (by omega)).2,i3,Qnk ho hev i4,i5,fun d x1 x2=>i6 d ?_ x2⟩,?_⟩
    ·rw[show e' 534=e' 534/2*2 by clear g1 z;omega];exact Int.dvd_trans x1 (Oaj ..)
    ·simp only[Qf3];clear g1 z;omega
   ·intro g3 _ g4 _;have j3:=Qkp g3 (z 535 0);have j4:=Zy g4;rw[hmod 535]at j3;refine⟨fun hs3=>?_,fun hs3=>?_⟩
    ·refine⟨trivial,fun r1 _=>⟨by rw[m0,m1,m2];exact⟨⟨hm,hw⟩,i3⟩,fun r2 _=>?_⟩⟩;rw[m0]at r2;have hev:e' 535%2=0:=by clear g1 g3 z;omega
     show Zb2 (e 0) (e 3) [e' 534,e' 592,e' 536,e' 736]/\Qf3 [e' 534,e' 592,e' 536,e' 736]<Qf3 [e' 534,e' 535,e' 536,e' 537];rw[r1,r2];refine⟨⟨by clear g1 g3 z;omega,i2,(Zo (by omega)).2,i4,Qnk ho hev i5,fun d x1 x2=>i6 d x1 ?_⟩,?_⟩
     ·rw[show e' 535=e' 535/2*2 by clear g1 g3 z;omega];exact Int.dvd_trans x2 (Oaj ..)
     ·simp only[Qf3];clear g1 g3 z;omega
    ·refine⟨trivial,fun r1 _ r2 _=>?_⟩;have q:=Qpc r1 r2;clear g1 g3 z r1 r2;refine⟨fun hs4=>?_,fun hs4=>?_⟩
     ·refine⟨trivial,fun r3 _ _ _=>⟨by rw[m0,m1,m2];exact⟨hm,hw⟩,fun r4 _=>?_⟩⟩;rw[m0]at r4;rw[Oy (by omega) (by omega)]at r3;show Zb2 (e 0) (e 3) [e' 546,e' 535,e' 548,e' 537]/\Qf3 [e' 546,e' 535,e' 548,e' 537]<Qf3 [e' 534,e' 535,e' 536,e' 537];rw[r3,r4];refine⟨⟨i1,(Zo (by omega)).2,i3,Qty i4 i5,i5,fun d x1 x2=>i6 d ?_ x2⟩,?_⟩
      ·rw[show e' 534=e' 534-e' 535+e' 535 by omega];exact Oax x1 x2
      ·simp only[Qf3];omega
     ·refine⟨trivial,fun r3 _ _ _=>⟨by rw[m0,m1,m2];exact⟨hm,hw⟩,fun r4 _=>?_⟩⟩;rw[m0]at r4;rw[Oy (by omega) (by omega)]at r3;show Zb2 (e 0) (e 3) [e' 534,e' 546,e' 536,e' 548]/\Qf3 [e' 534,e' 546,e' 536,e' 548]<Qf3 [e' 534,e' 535,e' 536,e' 537];rw[r3,r4];refine⟨⟨by omega,i2,(Zo (by omega)).2,i4,Qty i5 i4,fun d x1 x2=>i6 d x1 ?_⟩,?_⟩
      ·rw[show e' 535=e' 535-e' 534+e' 534 by omega];exact Oax x2 x1
      ·simp only[Qf3];omega
  ·have hu:e' 534=0:=by omega
   rw[hu]at i6;refine⟨trivial,fun r1 _ r2 _ r3 _=>?_⟩;have t2:=Qsu r2 k2 (by rw[r1];unfold Qw;decide);have t3:=Ju r3;rw[r1]at t2;refine⟨fun hs2=>?_,fun hs2=>?_⟩
   ·have hno:¬ ∃y,0<=y/\y<e 0/\e 3*y%e 0=1:=by
     rintro ⟨y,_,_,hy⟩
     obtain⟨q1,q2⟩:=i6 (e' 535) (Int.dvd_zero _) (H3 _);obtain⟨t,ht⟩:=md1 hy;have:e' 535∣1:=by
      have h1:(1:Int)=e 3*y-e 0*t:=by omega
      rw[h1];exact Int.dvd_sub (Int.dvd_trans q1 (Oaj ..)) (Int.dvd_trans q2 (Oaj ..))
     have:=Int.le_of_dvd (by decide) this;omega
    rw[Zbh hno,if_neg hno]
   ·have hv:e' 535=1:=by omega
    obtain⟨t,ht⟩:=i5;obtain⟨q1,q2⟩:=Qyn (n:=e 0) (a:=e 3) (y:=e' 537) ⟨k4.1,i3⟩ (J1 t (by rw[M0,ht,hv]) (by decide) (by omega));rw[q1,if_pos q2]
def Zsc(lvl n m:Nat)(k:Nat->A->Qq):Qq :=
 (.l m (.int .u64) (.bin .sub .u64 (.v n) (.lit 1))
 (.l (m+1) (.int .u64) (.bin .add .u64 (.v (n+1)) (.v 10))
 (.l (m+2) .bit (.cmp .geq (.v (m+1)) (.lit 4294967296))
 (.split (m+2) (k (m+3) (.v m)) (.back lvl [.v m,.v (m+1)])))))
def Zsn(lvl n w:Nat)(q0 r0:A)(k:Nat->A->Qq):Qq :=
 (.loop [q0,r0] [(.int .u64),(.int .u64)] n
 (.l (n+2) .bit (.cmp .geq (.v n) (.lit 4294967296))
 (.split (n+2) (Zsc lvl n (n+3) k)
 (.l (n+3) (.int .u64) (.bin .mul .u64 (.v n) (.v 11))
 (.l (n+4) (.int .u64) (.bin .mul .u64 (.lit 4294967296) (.v (n+1)))
 (.l (n+5) (.int .u64) (.bin .add .u64 (.v (n+4)) (.v w))
 (.l (n+6) .bit (.cmp .gtr (.v (n+3)) (.v (n+5)))
 (.split (n+6) (Zsc lvl n (n+7) k) (k (n+7) (.v n))))))))))
def k2T(c:Nat)(q1:A)(b:Nat)(q0:A):Qq :=
 (.l b (.int .u64) (.bin .mul .u64 q1 (.lit 4294967296))
 (.l (b+1) (.int .u64) (.bin .add .u64 (.v b) q0)
 (.l (b+2) (.int .u64) (.bin .mul .u64 (.v (c+3)) (.lit 4294967296))
 (.l (b+3) (.int .u64) (.bin .add .u64 (.v (b+2)) (.v 18))
 (.l (b+4) (.int .u64) (.bin .mul .u64 q0 (.v 9))
 (.l (b+5) (.int .u64) (.bin .sub .u64 (.v (b+3)) (.v (b+4)))
 (.l (b+6) (.int .u64) (.bin .shr .u64 (.v (b+5)) (.v 8))
 (.ret [.v (b+1),.v (b+6)]))))))))
def k1T(b:Nat)(q1:A):Qq :=
 (.l b (.int .u64) (.bin .mul .u64 (.v 15) (.lit 4294967296))
 (.l (b+1) (.int .u64) (.bin .add .u64 (.v b) (.v 17))
 (.l (b+2) (.int .u64) (.bin .mul .u64 q1 (.v 9))
 (.l (b+3) (.int .u64) (.bin .sub .u64 (.v (b+1)) (.v (b+2)))
 (.l (b+4) (.int .u64) (.bin .quo .u64 (.v (b+3)) (.v 10))
 (.nz (.v 10)
 (.l (b+5) (.int .u64) (.bin .mul .u64 (.v (b+4)) (.v 10))
 (.l (b+6) (.int .u64) (.bin .sub .u64 (.v (b+3)) (.v (b+5)))
 (Zsn 1 (b+7) 18 (.v (b+4)) (.v (b+6)) (k2T b q1))))))))))
def Zg1:Qq :=
(.l 3 .bit (.cmp .eql (.v 2) (.lit 0))
(.split 3
 (.bad 41 "bits.go:520")
 (.l 4 .bit (.cmp .leq (.v 2) (.v 0))
 (.split 4
  (.bad 41 "bits.go:523")
  (.l 5 .bit (.cmp .eql (.v 0) (.lit 0))
  (.split 5
  (.l 102 (.int .u64) (.bin .quo .u64 (.v 1) (.v 2))
  (.nz (.v 2)
  (.l 246 (.int .u64) (.bin .rem .u64 (.v 1) (.v 2))
  (.nz (.v 2)
  (.ret [.v 102,.v 246])))))
  (.req 0 [.v 2]
  (.l 6 (.int .i64) (.app 0 0 [.v 2])
  (.l 7 (.int .i64) (.bin .sub .i64 (.lit 64) (.v 6))
  (.l 8 (.int .u64) (.conv .u64 (.v 7))
  (.l 9 (.int .u64) (.bin .shl .u64 (.v 2) (.v 8))
  (.l 10 (.int .u64) (.bin .shr .u64 (.v 9) (.lit 32))
  (.l 11 (.int .u64) (.bin .and .u64 (.v 9) (.lit 4294967295))
  (.l 12 (.int .u64) (.bin .shl .u64 (.v 0) (.v 8))
  (.l 13 (.int .u64) (.bin .sub .u64 (.lit 64) (.v 8))
  (.l 14 (.int .u64) (.bin .shr .u64 (.v 1) (.v 13))
  (.l 15 (.int .u64) (.bin .or .u64 (.v 12) (.v 14))
  (.l 16 (.int .u64) (.bin .shl .u64 (.v 1) (.v 8))
  (.l 17 (.int .u64) (.bin .shr .u64 (.v 16) (.lit 32))
  (.l 18 (.int .u64) (.bin .and .u64 (.v 16) (.lit 4294967295))
  (.l 19 (.int .u64) (.bin .quo .u64 (.v 15) (.v 10))
  (.nz (.v 10)
  (.l 20 (.int .u64) (.bin .mul .u64 (.v 19) (.v 10))
  (.l 21 (.int .u64) (.bin .sub .u64 (.v 15) (.v 20))
   (Zsn 0 22 17 (.v 19) (.v 21) k1T)))))))))))))))))))))))))
def Zfr(X0 Y y1 u:Int):List Int->Prop
 |[q,r]=>q*y1+r=X0/\0<=r/\r<4294967296/\X0*4294967296+u<(q+1)*Y/\0<=q/\q<=4294967297
 |_=>False
theorem Qoh{X Y q:Int}(hY:0<Y)(h1:q*Y<=X)(h2:X<(q+1)*Y):q=X/Y:=by
 have a1:=Int.le_ediv_of_mul_le hY h1;have a2:=Int.ediv_lt_of_lt_mul hY h2;omega
theorem Qni{T:List K}{G:Gl}{e:Nat->Int}{lvl n w:Nat}{q0 r0:A}{k:Nat->A->Qq}{X0 Y:Int}(hn:19<=n)(hwn:w<n)(h10:e 10=Y/4294967296)(h11:e 11=Y%4294967296)(hY:9223372036854775808<=Y/\Y<18446744073709551616)
  (hD:0<=X0/\X0<Y) (hu:0<=e w/\e w<4294967296) (hq:q0.ev e=X0/(Y/4294967296)) (hr:r0.ev e=X0%(Y/4294967296)) (hl:G.stk.length=lvl)
  (hk:∀(e':Nat->Int) (b q:Nat) (G':Gl),(∀i,i<n->e' i=e i)->e' q=(X0*4294967296+e w)/Y->G'.goal=G.goal->G'.stk.length=lvl+1->n<=q->q<b->(k b (.v q)).Xat T G' e'):(Zsn lvl n w q0 r0 k).Xat T G e:=by
 refine⟨Zfr X0 Y (Y/4294967296) (e w),fun|[q,_]=>q.toNat|_=>0,?_,fun e' he hkk hI=>?_⟩
 ·show Zfr X0 Y (Y/4294967296) (e w) [q0.ev e,r0.ev e];rw[hq,hr];have hy1:2147483648<=Y/4294967296/\Y/4294967296<4294967296:=by omega
  have hm:=L2 X0 (Y/4294967296);have hlt:=Mv X0 (show 0<Y/4294967296 by omega);have hnn:=Mw X0 (show Y/4294967296≠0 by omega);have hq0:0<=X0/(Y/4294967296):=M9 hD.1 (by omega);rw[M0 (Y/4294967296)]at hm;generalize X0/(Y/4294967296)=q at *
  generalize X0%(Y/4294967296)=r at *
  have hYe:Y=Y/4294967296*4294967296+Y%4294967296:=by omega
  have hy0:0<=Y%4294967296/\Y%4294967296<4294967296:=by omega
  generalize Y/4294967296=y1 at *
  generalize Y%4294967296=y0 at *
  have e1:(q+1)*Y=4294967296*(q*y1)+4294967296*y1+(q+1)*y0:=by rw[hYe];grind
  have e2:0<=(q+1)*y0:=Kx (by omega) hy0.1;refine⟨by omega,hnn,by omega,by omega,hq0,?_⟩;by_cases hc:q<=4294967297
  ·exact hc
  ·exfalso;have h1:4294967298*y1<=q*y1:=M4 (by omega) (by omega);omega
 ·obtain⟨i1,i2,i3,i4,i5,i6⟩:Zfr X0 Y (Y/4294967296) (e w) [e' n,e' (n+1)]:=hI;have m10:e' 10=Y/4294967296:=(he 10 (by omega)).trans h10;have m11:e' 11=Y%4294967296:=(he 11 (by omega)).trans h11;have mw:e' w=e w:=he w hwn;have hy1:2147483648<=Y/4294967296/\Y/4294967296<4294967296:=by omega
  have hYe:Y=Y/4294967296*4294967296+Y%4294967296:=by omega
  have hy0:0<=Y%4294967296/\Y%4294967296<4294967296:=by omega
  have dec:∀m,n+3<=m->X0*4294967296+e w<e' n*Y->1<=e' n ->
    (Zsc lvl n m k).Xat T {G with stk:=G.stk++[fun us=>Zfr X0 Y (Y/4294967296) (e w) us/\(match us with|[q,_]=>q.toNat|_=>0)<(match Qa9 e' n 2 with|[q,_]=>q.toNat|_=>0)] } e':=by
   intro m hm hX hq1 a1 _ a2 _ a3 _;simp only[D.ev,Ql,Qn,Qm,wr]at a1 a2;have b3:=Qdf a3;simp only[Ql,Qn]at b3;rw[m10]at a2;have hq':e' m=e' n-1:=by rw[a1];omega
   have hr':e' (m+1)=e' (n+1)+Y/4294967296:=by rw[a2];omega
   generalize Y/4294967296=y1 at *
   generalize Y%4294967296=y0 at *
   have e1:(e' n-1)*Y=4294967296*(e' n*y1)-4294967296*y1+(e' n-1)*y0:=by rw[hYe];grind
   have e2:(e' n-1)*y1=e' n*y1-y1:=by grind
   refine⟨fun hs=>?_,fun hs=>?_⟩
   ·refine hk e' (m+3) m _ (fun i hi=>he i hi) ?_ rfl (by simp[hl]) (by omega) (by omega);show e' m=_;rw[hq'];have e3:(e' n-1)*y0<=4294967296*4294967295:=Oak (by omega) (by omega) hy0.1 (by omega);exact Qoh (by omega) (by omega) (by rw[Hq];exact hX)
   ·show match (G.stk++[_])[lvl]? with|some R=>R ([A.v m,A.v (m+1)].map (·.ev e'))|none=>False
    rw[<- hl,Mf (Nat.le_refl _)];simp only[Nat.sub_self,O0,List.map,Ql];show Zfr X0 Y y1 (e w) [e' m,e' (m+1)]/\(e' m).toNat<(e' n).toNat;rw[hq',hr'];refine⟨⟨?_,by omega,by omega,by rw[Hq];exact hX,by omega,by omega⟩,by omega⟩;omega
  intro a2 _;have b2:=Qdf a2;simp only[Ql,Qn]at b2;have eY:e' n*Y=4294967296*(e' n*(Y/4294967296))+e' n*(Y%4294967296):=by
   generalize Y/4294967296=y1 at *
   generalize Y%4294967296=y0 at *
   rw[hYe];grind
  refine⟨fun hs=>?_,fun hs=>?_⟩
  ·refine dec (n+3) (by omega) ?_ (by omega);have:4294967296*Y<=e' n*Y:=M4 (by omega) (by omega);omega
  ·intro a3 _ a4 _ a5 _ a6 _;simp only[D.ev,Ql,Qn,Qm,wr]at a3 a4 a5;have b6:=Qeq a6;simp only[Ql,Qn]at b6;rw[m11]at a3;rw[mw]at a5;have p0:0<=e' n*(Y%4294967296)/\e' n*(Y%4294967296)<=4294967295*4294967295:=⟨Kx i5 hy0.1,Oak (by omega) (by omega) hy0.1 (by omega)⟩
   have c3:e' (n+3)=e' n*(Y%4294967296):=by rw[a3];exact Oy p0.1 (by omega)
   have c5:e' (n+5)=4294967296*e' (n+1)+e w:=by rw[a5,a4];omega
   refine⟨fun hs2=>?_,fun hs2=>?_⟩
   ·refine dec (n+7) (by omega) (by omega) ?_;by_cases hc:1<=e' n
    ·exact hc
    ·exfalso;have:e' n=0:=by omega
     rw[this]at c3;omega
   ·refine hk e' (n+7) n _ (fun i hi=>he i hi) ?_ rfl (by simp[hl]) (by omega) (by omega);show e' n=_;exact Qoh (by omega) (by omega) i4
theorem Zbl{s:Nat}(hs:s<=64):(2:Int)^s*2^(64-s)=18446744073709551616:=by
 rw[<- Kz,show s+(64-s)=64 by omega];decide +kernel
set_option maxHeartbeats 4000000 in
theorem Za3(f1 f:FuncId)(e:Nat->Int)(hk:Q0 [.int .u64,.int .u64,.int .u64] [e 0,e 1,e 2])(hp:(Qkd f).pre [e 0,e 1,e 2]):Zg1.Xat [Uv f1] ⟨fun ys=>ys=(Qkd f).sem [e 0,e 1,e 2],[]⟩ e:=by
 obtain⟨h0,h1,h2,_⟩:=hk;have u0:=Zb h0;have u1:=Zb h1;have u2:=Zb h2;have hlt:e 0<e 2:=hp;unfold Zg1;intro a3 _;have b3:=Zy a3;simp only[Ql,Qn]at b3;refine⟨fun n=>by omega,fun n=>?_⟩;intro a4 _;have b4:=Yv a4;simp only[Ql,Qn]at b4;refine⟨fun n=>by omega,fun n=>?_⟩;intro a5 _;have b5:=Zy a5;simp only[Ql,Qn]at b5;refine⟨fun n=>?_,fun n=>?_⟩
 ·intro a6 _;refine⟨by show e 2≠0;omega,?_⟩;intro a7 _;refine⟨by show e 2≠0;omega,?_⟩;simp only[D.ev,Ql,Qm,wr]at a6 a7;rw[Kw u1.1]at a6;rw[Mt u1.1]at a7;have hle:=K7 (e 2) u1.1;have hnn:=M9 u1.1 u2.1;show[e 102,e 246]=[(e 0*18446744073709551616+e 1)/e 2,(e 0*18446744073709551616+e 1)%e 2]
  rw[show e 0=0 by omega,Oab,Int.zero_add,a6,a7,Oy hnn (by omega)]
 ·have hy:1<=e 2:=by omega
  refine⟨trivial,?_⟩;intro a6 _ a7 _ a8 _ a9 _ a10 _ a11 _ a12 _ a13 _ a14 _ a15 _ a16 _ a17 _ a18 _ a19 _;have c6:e 6=X5 (e 2):=a6;have hb0:1<=X5 (e 2):=by rw[Qqb hy];have:=Qap (e 2/2);omega
  have hb1:X5 (e 2)<=64:=Jh 64 _ u2.1 (by rw[Qsc];exact u2.2);have c7:e 7=64-X5 (e 2):=by rw[a7];simp only[D.ev,Ql,Qn,Qm,wr];omega
  have c8:e 8=64-X5 (e 2):=by rw[a8];simp only[D.ev,Ql,wr];omega
  obtain⟨s,hs⟩:=Oz (show 0<=e 8 by omega);have hs64:s<=63:=by omega
  have hP:=Zbl (s:=s) (by omega);have hp1:(0:Int)<2^s:=K2 (by decide);have hp2:(0:Int)<2^(64-s):=K2 (by decide);have hyu:e 2<2^(64-s):=by
   by_cases hc:e 2<2^(64-s)
   ·exact hc
   ·have:=Qil (64-s) (e 2) (by omega);omega
  have hyl:(2:Int)^(63-s)<=e 2:=by
   by_cases hc:(2:Int)^(63-s)<=e 2
   ·exact hc
   ·have:=Jh (63-s) (e 2) u2.1 (by omega);omega
  have hP2:(2:Int)^s*2^(63-s)=9223372036854775808:=by
   rw[<- Kz,show s+(63-s)=63 by omega];decide +kernel
  have hYu:e 2*2^s<18446744073709551616:=by
   rw[<- hP,M0];exact Int.mul_lt_mul_of_pos_left hyu hp1
  have hYl:9223372036854775808<=e 2*2^s:=by
   rw[<- hP2,M0 (e 2)];exact Int.mul_le_mul_of_nonneg_left hyl (by omega)
  have hshl:∀ {v x:Int},v=Qm .shl .u64 x (e 8)->v=x*2^s%18446744073709551616:=by
   intro v x h;rw[h,hs];simp only[Qm];rw[show min ((s:Int).toNat) IntKind.u64.bits=s by show min s 64=s;omega,Kj];rfl
  have c9:e 9=e 2*2^s:=by
   have h:=hshl a9;simp only[Ql]at h;rw[h];exact Oy (by omega) hYu
  have c10:e 10=e 9/4294967296:=Qj9 a10;have c11:e 11=e 9%4294967296:=Qj0 a11 (by constructor <;> omega);have hhi:e 0*2^s<=e 2*2^s-2^s:=by
   have:=M4 (show e 0<=e 2-1 by omega) (show(0:Int)<=2^s by omega);rw[Int.sub_mul,Int.one_mul]at this;exact this
  have hhi0:0<=e 0*2^s:=Kx u0.1 (by omega);have c12:e 12=e 0*2^s:=by
   have h:=hshl a12;simp only[Ql]at h;rw[h];exact Oy hhi0 (by omega)
  have c13:e 13=((64-s:Nat):Int):=by rw[a13];simp only[D.ev,Ql,Qn,Qm,wr];rw[hs];omega
  have c14:e 14=e 1/2^(64-s):=by
   rw[a14];simp only[D.ev,Ql,Qm];rw[c13,show min (((64-s:Nat):Int).toNat) IntKind.u64.bits=64-s by show min (64-s) 64=_;omega,Kj];exact Kl _ (by exact H9 hp2)
  have hlo:e 1/2^(64-s)<2^s:=Int.ediv_lt_of_lt_mul hp2 (by rw[hP];exact u1.2);have hlo0:0<=e 1/2^(64-s):=M9 u1.1 (by omega);have c15:e 15=e 0*2^s+e 1/2^(64-s):=by
   rw[<- c12,<- c14];exact Qbl (k:=s) (q:=e 0) a15 (by rw[c12,Kj];rfl) u0.1 (by rw[c14,Kj];exact⟨hlo0,hlo⟩) (by rw[c12,c14];omega)
  have c16:e 16=e 1*2^s%18446744073709551616:=hshl a16;have c17:e 17=e 16/4294967296:=Qj9 a17;have c18:e 18=e 16%4294967296:=Qj0 a18 (by constructor <;> omega);have htot:(e 0*18446744073709551616+e 1)*2^s=e 15*18446744073709551616+e 16:=by
   have h1:e 1*2^s=e 1/2^(64-s)*18446744073709551616+e 1%2^(64-s)*2^s:=by
    have hm:=L2 (e 1) (2^(64-s))
    conv=>lhs;rw[<- hm]
    rw[<- hP];grind
   have h2:0<=e 1%2^(64-s)*2^s:=Kx (Mw _ (by omega)) (by omega);have h3:e 1%2^(64-s)*2^s<18446744073709551616:=by
    rw[<- hP,M0];exact Int.mul_lt_mul_of_pos_left (Mv _ hp2) hp1
   have h4:e 16=e 1%2^(64-s)*2^s:=by
    rw[c16];exact J1 (e 1/2^(64-s)) (by rw[h1];omega) h2 h3
   rw[c15,h4,Int.add_mul,h1,Int.add_mul];rw[Int.mul_right_comm];omega
  have hD:0<=e 15/\e 15<e 9:=by omega
  have hy1:2147483648<=e 10:=by omega
  simp only[D.ev,Ql,Qm,wr]at a19;rw[Kw hD.1]at a19;have hqn:0<=e 15/e 10:=M9 hD.1 (by omega);have hql:e 15/e 10<=e 15:=K7 _ hD.1;have c19:e 19=e 15/e 10:=by rw[a19];exact Oy hqn (by omega)
  have hmm:=L2 (e 15) (e 10);have hml:=Mv (e 15) (show 0<e 10 by omega);have hmn:=Mw (e 15) (show e 10≠0 by omega);have hpn:0<=e 10*(e 15/e 10):=Kx (by omega) hqn;refine⟨by show e 10≠0;omega,?_⟩;intro a20 _ a21 _;simp only[D.ev,Ql,Qm,wr]at a20 a21;have c20:e 20=e 10*(e 15/e 10):=by rw[a20,c19,M0];exact Oy (by omega) (by omega)
  have c21:e 21=e 15%e 10:=by rw[a21,c20];rw[show e 15-e 10*(e 15/e 10)=e 15%e 10 by omega];exact Oy hmn (by omega)
  clear a6 a7 a8 a9 a10 a11 a12 a13 a14 a15 a16 a17 a18 a19 a20 a21 hshl;rw[<- c9]at hYu hYl;rw[c10]at c19 c21;refine Qni (T:=[Uv f1]) (X0:=e 15) (Y:=e 9) (by decide) (by decide) c10 c11 ⟨hYl,hYu⟩ hD (by omega) c19 c21 rfl fun e1 b qa G1 he1 hqa hG1 hS1 hqa0 hb=>?_
  have g:∀i,i<22->e1 i=e i:=he1;have hX0:0<=e 15*4294967296+e 17:=by omega
  have hQ1:0<=e1 qa:=by rw[hqa];exact M9 hX0 (by omega)
  have hQ1l:e1 qa<4294967296:=by rw[hqa];exact Int.ediv_lt_of_lt_mul (by omega) (by omega)
  have hR1:=L2 (e 15*4294967296+e 17) (e 9);have hR1l:=Mv (e 15*4294967296+e 17) (show 0<e 9 by omega);have hR1n:=Mw (e 15*4294967296+e 17) (show e 9≠0 by omega);rw[<- hqa]at hR1;generalize (e 15*4294967296+e 17)%e 9=R1 at *
  unfold k1T;intro a1 _ a2 _ a3 _ a4 _ a5 _;simp only[D.ev,Ql,Qn,Qm,wr]at a1 a2 a3 a4 a5;rw[g 15 (by decide)]at a1;rw[g 17 (by decide)]at a2;rw[g 9 (by decide)]at a3;rw[M0 (e 9)]at hR1;generalize hQY:e1 qa*e 9=QY at *
  have d4:e1 (b+3)=R1:=by rw[a4,a3,a2,a1];omega
  rw[d4,Kw hR1n,g 10 (by decide)]at a5;have hy1':0<e 10:=by omega
  have hrn:0<=R1/e 10:=M9 hR1n (by omega);have hrl:R1/e 10<=R1:=K7 _ hR1n;have d5:e1 (b+4)=R1/e 10:=by rw[a5];exact Oy hrn (by omega)
  refine⟨by show e1 10≠0;rw[g 10 (by decide)];omega,?_⟩;intro a6 _ a7 _;simp only[D.ev,Ql,Qn,Qm,wr]at a6 a7;rw[g 10 (by decide),d5]at a6;have nmm:=L2 R1 (e 10);have nml:=Mv R1 hy1';have nmn:=Mw R1 (show e 10≠0 by omega);have npn:0<=e 10*(R1/e 10):=Kx (by omega) hrn;have d6:e1 (b+5)=e 10*(R1/e 10):=by rw[a6,M0];exact Oy (by omega) (by omega)
  have d7:e1 (b+6)=R1%e 10:=by rw[a7,d4,d6];rw[show R1-e 10*(R1/e 10)=R1%e 10 by omega];exact Oy nmn (by omega)
  refine Qni (X0:=R1) (Y:=e 9) (by omega) (by omega) (by rw[g 10 (by decide)];exact c10) (by rw[g 11 (by decide)];exact c11) ⟨hYl,hYu⟩ ⟨hR1n,hR1l⟩ (by rw[g 18 (by decide)];omega) (by rw[<- c10];exact d5) (by rw[<- c10];exact d7) hS1 fun e2 b2 qb G2 he2 hqb hG2 hS2 hqb0 hb2=>?_
  have gg:∀i,i<22->e2 i=e i:=fun i hi=>(he2 i (by omega)).trans (g i hi)
  rw[g 18 (by decide)]at hqb;have hX1:0<=R1*4294967296+e 18:=by omega
  have hQ2:0<=e2 qb:=by rw[hqb];exact M9 hX1 (by omega)
  have hQ2l:e2 qb<4294967296:=by rw[hqb];exact Int.ediv_lt_of_lt_mul (by omega) (by omega)
  have hR2:=L2 (R1*4294967296+e 18) (e 9);have hR2l:=Mv (R1*4294967296+e 18) (show 0<e 9 by omega);have hR2n:=Mw (R1*4294967296+e 18) (show e 9≠0 by omega);rw[<- hqb]at hR2;generalize (R1*4294967296+e 18)%e 9=R2 at *
  have hqe:e2 qa=e1 qa:=he2 qa (by omega);unfold k2T;intro f1 _ f2 _ f3 _ f4 _ f5 _ f6 _ f7 _;simp only[D.ev,Ql,Qn,Qm,wr]at f1 f2 f3 f4 f5 f6 f7;rw[hqe]at f1;rw[he2 (b+3) (by omega),d4]at f3;rw[gg 18 (by decide)]at f4;rw[gg 9 (by decide),M0]at f5;have hXt:(e 0*18446744073709551616+e 1)*2^s=(e1 qa*4294967296+e2 qb)*e 9+R2:=by
   rw[htot];have h16:e 16=e 17*4294967296+e 18:=by omega
   rw[Int.add_mul,Int.mul_right_comm,hQY,M0 (e2 qb)];omega
  generalize e 9*e2 qb=QZ at *
  have d6':e2 (b2+5)=R2:=by rw[f6,f5,f4,f3];omega
  have d2':e2 (b2+1)=e1 qa*4294967296+e2 qb:=by rw[f2,f1];omega
  rw[d6',gg 8 (by decide),hs,show min ((s:Int).toNat) IntKind.u64.bits=s by show min s 64=s;omega,Kj]at f7;rw[Kl _ (by exact H9 hp1)]at f7;show G2.goal [e2 (b2+1),e2 (b2+6)];rw[hG2,hG1];show[e2 (b2+1),e2 (b2+6)]=[(e 0*18446744073709551616+e 1)/e 2,(e 0*18446744073709551616+e 1)%e 2]
  rw[d2',f7];rw[c9]at hXt;generalize e 0*18446744073709551616+e 1=X at *
  generalize e1 qa*4294967296+e2 qb=q at *
  have hr:R2=2^s*(X-q*e 2):=by rw[Int.mul_sub,M0 _ X,hXt];grind
  have hr0:0<=X-q*e 2:=by
   by_cases hc:0<=X-q*e 2
   ·exact hc
   ·have:=Int.mul_neg_of_pos_of_neg hp1 (show X-q*e 2<0 by omega);omega
  have hr1:X-q*e 2<e 2:=by
   have:2^s*(X-q*e 2)<2^s*e 2:=by rw[<- hr,M0 _ (e 2),<- c9];exact hR2l
   exact Int.lt_of_mul_lt_mul_left this (H9 hp1)
  have hq:X/e 2=q:=(Qoh (by omega) (by omega) (by rw[Int.add_mul];omega)).symm;have hm:X%e 2=X-q*e 2:=J1 q (by rw[M0 q];omega) hr0 hr1;rw[hq,hm];congr 2;rw[hr];exact Int.mul_ediv_cancel_left _ (by exact Int.ne_of_gt hp1)
def Zet:Qq:=(.l 3 kU (.bin .rem .u64 (.v 0) (.v 2))
(.nz (.v 2)
(xw 0 [.v 3,.v 1,.v 2] 4 qca
(.ret [.v 5]))))
theorem Zc2(f1 f:FuncId)(e:Nat->Int)(hk:Q0 [.int .u64,.int .u64,.int .u64] [e 0,e 1,e 2])(hp:(Qge f).pre [e 0,e 1,e 2]):Zet.Xat [Qkd f1] ⟨fun ys=>ys=(Qge f).sem [e 0,e 1,e 2],[]⟩ e:=by
 obtain⟨h0,h1,h2,_⟩:=hk;have u0:=Zb h0;have hy:0<e 2:=hp;simp only[Zet,Qkd,Qge,Qq.Xat,xw,xws,Nat.reduceAdd,O0,O3,List.map,Qn,Ql,Qp,D.ev,O4,O9];intro a3 _;have c3:e 3=e 0%e 2:=by rw[a3];simp only[Qm];exact Mt u0.1
 refine⟨by omega,by rw[c3];exact Mv _ hy,fun a4 _ a5 _=>?_⟩;rw[a5,c3];congr 1;obtain⟨z,hz⟩:=Y1 (x:=e 0) (n:=e 2);exact md (z*18446744073709551616) (by rw[hz];grind)
end Go.Sx


namespace Go.Sx
open Go Go.RowKit
set_option maxRecDepth 100000
theorem Qya(a:Int)(x:Int)(hx:0<=x)(i:Nat):a^(x/2^i).toNat=a^(x/2^(i+1)).toNat*a^(x/2^(i+1)).toNat*(if x/2^i%2=1 then a else 1):=by
 have hp:(0:Int)<2^i:=K2 (by decide);have h1:x/2^(i+1)=x/2^i/2:=by rw[L3,Kt (by omega)]
 have h0:=M9 hx (show(0:Int)<=2^i by omega);rw[h1,<- Kz];generalize x/2^i=y at *
 split
 ·rw[show y.toNat=((y/2).toNat+(y/2).toNat)+1 by omega,L3]
 ·rw[Hg];congr 1;omega
theorem Zgn{a b n:Int}:a%n*(b%n)%n=a*b%n:=by rw[<- Int.mul_emod]
def Zn2(n a x:Int):List Int->Prop
 |[i,o]=>-1<=i/\i<=383/\o=a^(x/2^(i+1).toNat).toNat%n
 |_=>False
theorem Zcf{n a x o o1:Int}{i:Nat}(hx:0<=x)(ho:o=a^(x/2^(i+1)).toNat%n)(h1:o1=o*o%n)(hb:x/2^i%2=0):o1=a^(x/2^i).toNat%n:=by
 rw[Qya a x hx i,if_neg (by omega),Hg,h1,ho,Zgn]
theorem Zcj{n a x o o1 o2:Int}{i:Nat}(hx:0<=x)(ho:o=a^(x/2^(i+1)).toNat%n)(h1:o1=o*o%n)(h2:o2=o1*a%n)(hb:x/2^i%2=1):o2=a^(x/2^i).toNat%n:=by
 rw[Qya a x hx i,if_pos hb,h2,h1,ho,Zgn];obtain⟨z,hz⟩:=Y1 (x:=a^(x/2^(i+1)).toNat*a^(x/2^(i+1)).toNat) (n:=n);rw[hz];exact md (z*a) (by grind)
theorem Zei{x:Int}{i:Nat}(hx:0<=x):(x/2^i).toNat=2*(x/2^(i+1)).toNat+(x/2^i%2).toNat:=by
 have hq:(0:Int)<2^i:=K2 (by decide);rw[L3,<- Kt (by omega)];have:=M9 hx (show(0:Int)<=2^i by omega);omega
def Qx3(a n:Int):List Int->Prop
 |[i,o]=>-1<=i/\i<=383/\o=Qr (a^(n/2^(i+1).toNat).toNat)
 |_=>False
theorem Znh{x:Int}(h:0<=x/\x<Qw):x/2^384=0:=by
 refine Hl h.1 ?_;rw[show(2:Int)^384=Qw by decide +kernel];exact h.2
def Zx7:Qq:=(xw 1 [] 2 Z7
(.loop [.n 383,.v 2] [kI,.num] 3
(.l 5 .bit (.c .geq (.v 3) (.n 0))
(.split 5
(xw 0 [.v 4,.v 4] 6 Z7
(.l 7 kI (.b .quo .i64 (.v 3) (.n 64))
(.l 8 .bit (.c .leq (.n 0) (.v 7))
(.l 9 .bit (.c .lss (.v 7) (.n 6))
(.nz (.v 8)
(.nz (.v 9)
(.l 10 kU (.sel (.v 7) [.m 1 0,.m 1 1,.m 1 2,.m 1 3,.m 1 4,.m 1 5])
(.l 11 kI (.b .rem .i64 (.v 3) (.n 64))
(.l 12 .bit (.c .leq (.n 0) (.v 11))
(.l 13 kU (.b .shr .u64 (.v 10) (.v 11))
(.nz (.v 12)
(.l 14 kU (.b .and .u64 (.v 13) (.n 1))
(.l 15 .bit (.c .eql (.v 14) (.n 1))
(.split 15
(xw 0 [.v 6,.v 0] 16 Z7
(.l 17 kI (.b .sub .i64 (.v 3) (.n 1))
(.back 0 [.v 17,.v 16])))
(.l 16 kI (.b .sub .i64 (.v 3) (.n 1))
(.back 0 [.v 16,.v 6]))))))))))))))))
(.ret [.v 4])))))
theorem Zgd(f1 f2 f:FuncId)(e:Nat->Int)(hk:Q0 [.num,.num] [e 0,e 1])(hp:(Qso f).pre [e 0,e 1]):Zx7.Xat [Qay f1,Qkv f2] ⟨fun ys=>ys=(Qso f).sem [e 0,e 1],[]⟩ e:=by
 have u0:e 0<bP:=hp;have v0:0<=e 0:=hk.1.1;have h1:0<=e 1/\e 1<Qw:=hk.2.1;have q0:=Vl v0 u0;obtain⟨A,hA⟩:∃A,A=Qo (e 0):=⟨_,rfl⟩
 rw[<- hA]at q0;refine⟨trivial,fun a2 _=>?_⟩;have q2:e 2=Qr 1:=a2;refine⟨Qx3 A (e 1),fun|[i,_]=>(i+1).toNat|_=>0,?_,fun e' he hkk hI=>?_⟩
 ·refine⟨(show(-1:Int)<=383 by decide),(show(383:Int)<=383 by decide),?_⟩;show e 2=Qr (A^(e 1/2^384).toNat);rw[Znh h1,q2,H8,Oal]
 ·obtain⟨i1,i2,i3⟩:Qx3 A (e 1) [e' 3,e' 4]:=hI;rw[<- he 0 (by decide)]at q0 u0;rw[<- he 1 (by decide)]at h1 i3 ⊢;have e0:e 0=e' 0:=(he 0 (by decide)).symm;rw[e0];rw[e0]at hA;clear he a2 q2 hk hkk e0;intro a5 _;have b5:=Qdf a5;refine⟨fun hs=>?_,fun hs=>?_⟩
  ·have c5:0<=e' 3:=by
    rcases b5 with⟨_,h⟩|⟨h,_⟩
    ·exact h
    ·exact absurd h hs
   obtain⟨n,hi⟩:=Oz c5;rw[hi,show((n:Int)+1).toNat=n+1 by omega]at i3;refine⟨⟨Q6 i3,Q6 i3⟩,fun a6 _=>?_⟩;have q6:=Qdh (show e' 6=Qr (Qo (e' 4)*Qo (e' 4))from a6) i3 i3;intro a7 _;have h7:e' 7=e' 3/64:=by
    have:e' 7=Qm .quo .i64 (e' 3) 64:=a7;rw[this];simp only[Qm];rw[Kw c5];simp only[wr];omega
   intro a8 _ a9 _;refine⟨Xf a8 (by show 0<=e' 7;rw[h7];omega),Xi a9 (by show e' 7<6;rw[h7];omega),fun a10 _ a11 _ a12 _ a13 k13=>?_⟩;have h11:e' 11=e' 3%64:=by
    have:e' 11=Qm .rem .i64 (e' 3) 64:=a11;rw[this];simp only[Qm];rw[Mt c5]
   refine⟨Xf a12 (by show 0<=e' 11;rw[h11];omega),fun a14 _ a15 _=>?_⟩;have hb:=Qz3 (e:=e') (a:=e' 1) (i:=e' 3) (q:=e' 7) (s:=e' 10) (r:=e' 11) (v:=e' 13) (w:=e' 14) (z:=wr .i64 (e' 14)) ⟨c5,by omega⟩ h1 h7 a10 h11 a13 a14 rfl;have h14:=Qkp a14 (Zb k13);have h14':e' 14=e' 1/2^(e' 3).toNat%2:=by
    rw[<- hb,h14];simp only[wr];omega
   rw[hi,Mi]at h14';have hh:=Zei (i:=n) h1.1;have b15:=Zy a15;refine⟨fun hs2=>?_,fun hs2=>?_⟩
   ·have c15:e' 14=1:=by
     rcases b15 with⟨_,h⟩|⟨h,_⟩
     ·exact h
     ·exact absurd h hs2
    refine⟨⟨Q6 q6,u0⟩,fun a16 _ a17 _=>?_⟩;have q16:=Qdh (show e' 16=Qr (Qo (e' 6)*Qo (e' 0))from a16) q6 q0;have h17:e' 17=n-1:=by
     have:e' 17=Qm .sub .i64 (e' 3) 1:=a17;rw[this,hi];simp only[Qm,wr];omega
    show Qx3 A (e' 1) [e' 17,e' 16]/\(e' 17+1).toNat<(e' 3+1).toNat;rw[h17,hi];refine⟨⟨by omega,by omega,?_⟩,by omega⟩;rw[show((n:Int)-1+1).toNat=n by omega,q16,hh,<- h14',c15,<- Kz,<- L3];congr 2;omega
   ·have c15:e' 14=0:=by
     rcases b15 with⟨h,_⟩|⟨_,h⟩
     ·exact absurd (h.symm.trans hs2) (by decide)
     ·have:e' 14≠1:=h;omega
    intro a16 _;have h16:e' 16=n-1:=by
     have:e' 16=Qm .sub .i64 (e' 3) 1:=a16;rw[this,hi];simp only[Qm,wr];omega
    show Qx3 A (e' 1) [e' 16,e' 6]/\(e' 16+1).toNat<(e' 3+1).toNat;rw[h16,hi];refine⟨⟨by omega,by omega,?_⟩,by omega⟩;rw[show((n:Int)-1+1).toNat=n by omega,q6,hh,<- h14',c15,<- Kz];congr 2;omega
  ·have c5:e' 3=-1:=by
    rcases b5 with⟨h,_⟩|⟨_,h⟩
    ·exact absurd (h.symm.trans hs) (by decide)
    ·have:¬e' 3≥0:=h;omega
   rw[c5]at i3;show[e' 4]=[Qr (Qo (e' 0)^(e' 1).toNat)]
   rw[i3,<- hA];show[Qr (A^(e' 1/1).toNat)]=_;rw[Oan]
def Zwv:Qq:=(xw 0 [.v 0,.n 4002409555221667393417789825735904156556882819939007885332058136124031650490837864442687629129015664037894272559785] 1 Z7
(.ret [.v 1]))
theorem Zjn(f1 f:FuncId)(e:Nat->Int)(hk:Q0 [.num] [e 0])(hp:(Qg8 f).pre [e 0]):Zwv.Xat [Qso f1] ⟨fun ys=>ys=(Qg8 f).sem [e 0],[]⟩ e:=by
 have u0:e 0<bP:=hp;refine⟨u0,fun a1 _=>?_⟩;show[e 1]=[Qr (Qo (e 0)^(bP-2).toNat)]
 rw[show e 1=Qr (Qo (e 0)^(Int.toNat 4002409555221667393417789825735904156556882819939007885332058136124031650490837864442687629129015664037894272559785))from a1];rfl
theorem z_E{x X:Int}(h:x=Qr X)(hn:x=0):X%bP=0:=Qbd.1 (h.symm.trans hn)
theorem Xn{v:Int}{p:Prop}(b:(v=1/\p)∨(v=0/\¬p))(h:v≠0):p:=by
 rcases b with⟨_,h1⟩|⟨h1,_⟩
 ·exact h1
 ·exact absurd h1 h
theorem Wc{v:Int}{p:Prop}(b:(v=1/\p)∨(v=0/\¬p))(h:v=0):¬p:=by
 rcases b with⟨h1,_⟩|⟨_,h1⟩
 ·exact absurd (h1.symm.trans h) (by decide)
 ·exact h1
def Jeq(P Q:J Int):Prop:=P.x%bP=Q.x%bP/\P.y%bP=Q.y%bP/\P.z%bP=Q.z%bP
theorem Jeq.refl(P:J Int):Jeq P P:=⟨rfl,rfl,rfl⟩
theorem Jeq.symm{P Q:J Int}(h:Jeq P Q):Jeq Q P:=⟨h.1.symm,h.2.1.symm,h.2.2.symm⟩
theorem Jeq.trans{P Q S:J Int}(h:Jeq P Q)(k:Jeq Q S):Jeq P S:=⟨h.1.trans k.1,h.2.1.trans k.2.1,h.2.2.trans k.2.2⟩
theorem Jeq.l{P Q:J Int}(h:Jeq P Q):P.l=Q.l:=by unfold J.l;rw[Z3 h.1,Z3 h.2.1,Z3 h.2.2]
theorem Za(x:Int):x%bP%bP=x%bP:=Kv _ (H3 _)
theorem Zga{α:Type}{R:Rg α}{P:J α}{n:Nat}(h0:n≠0)(h:n<2^384):W5 R P 384 n=if n%2=1 then J.md R (Wo R (J.md R (Yj R (W5 R P 384 (n/2)))) P)else J.md R (Yj R (W5 R P 384 (n/2))):=by
 have hf:W5 R P 384 (n/2)=W5 R P 383 (n/2):=Qtd 383 (n/2) (by omega);rw[hf]
 conv=>lhs;unfold W5
 rw[if_neg h0]
theorem Zy4:(2:Int)^384=Qw:=by decide +kernel
theorem Zwj:((2^384:Nat):Int)=Qw:=by decide +kernel
theorem Zlv{n:Int}{i:Nat}(h:0<=n/\n<Qw)(hi:(i:Int)<X5 n):1<=n/2^i/\(n/2^i).toNat<2^384:=by
 have hq:(0:Int)<2^i:=K2 (by decide);have hl:(2:Int)^i<=n:=by
  rcases Int.lt_or_le n (2^i)with hc|hc
  ·have:=Jh i n h.1 hc;omega
  ·exact hc
 refine⟨(Int.le_ediv_iff_mul_le hq).2 (by omega),?_⟩;have h1:n/2^i<=n:=K7 _ h.1;have h2:((n/2^i).toNat:Int)<Qw:=by
  have:=M9 h.1 (show(0:Int)<=2^i by omega);omega
 exact Int.ofNat_lt.1 (Int.lt_of_lt_of_le h2 (Int.le_of_eq Zwj.symm))
def Zuf(P:J Int):Int×Int×Int :=
 if P.z%bP=0 then(0,0,1)else
 let i:=P.z^(bP-2).toNat
 (P.x*(i*i),P.y*(i*i*i),0)
def onV(x y z:Int):Prop:=(x<bP/\y<bP)/\if z=0 then y*y%bP=(x*x*x+4)%bP else x=0/\y=0
def rsV(x y z:Int):J Int:=if z=0 then⟨x,y,1⟩else oJ R1
def inG(x y z:Int):Prop:=onV x y z/\(W5 R1 (rsV x y z) 384 Xs.toNat).z%bP=0
open Classical in
noncomputable def bj(p:Prop):Int:=if p then 1 else 0
theorem Ql9{p:Prop}(h:p):bj p=1:=if_pos h
theorem Qcj{p:Prop}(h:¬p):bj p=0:=if_neg h
theorem Qrp{v:Int}{p:Prop}(b:(v=1/\p)∨(v=0/\¬p)):v=bj p:=by
 rcases b with⟨h,k⟩|⟨h,k⟩
 ·rw[h,Ql9 k]
 ·rw[h,Qcj k]
theorem Qcp{v:Int}{p:Prop}(h:v=bj p)(hn:v≠0):p:=by
 by_cases hp:p
 ·exact hp
 ·exact absurd (h.trans (Qcj hp)) hn
theorem Qly{v:Int}{p:Prop}(h:v=bj p)(hn:v=0):¬p:=fun hp=>by
 rw[Ql9 hp,hn]at h;exact absurd h (by decide)
theorem Qbw{p q:Prop}(h:p↔q):bj p=bj q:=by rw[propext h]
def Qpf(f:FuncId):K:={fn:=f,ext:=false,ins:=[],outs:=[oN],pre:=fun _=>True,sem:=fun _=>[Xs] }
def Qjs(f:FuncId):K:={fn:=f,ext:=false,ins:=[],outs:=[oN],pre:=fun _=>True,sem:=fun _=>[bP] }
def Zml:Qq:=(.ret [.n 52435875175126190479447740508185965837690552500527637822603658699938581184513])
theorem Quf(f:FuncId)(e:Nat->Int):Zml.Xat [] ⟨fun ys=>ys=(Qpf f).sem [],[]⟩ e:=rfl
def Zu5:Qq:=(.ret [.n 4002409555221667393417789825735904156556882819939007885332058136124031650490837864442687629129015664037894272559787])
theorem Zea(f:FuncId)(e:Nat->Int):Zu5.Xat [] ⟨fun ys=>ys=(Qjs f).sem [],[]⟩ e:=rfl
theorem Qzd{v a b:Int}(h:v=if a<b then -1 else if a=b then 0 else 1):v<0↔a<b:=by
 rw[h];split
 ·rename_i h1;exact⟨fun _=>h1,fun _=>by decide⟩
 ·rename_i h1;split <;> exact⟨fun h2=>absurd h2 (by decide),fun h2=>absurd h2 h1⟩
theorem getD_lt{l:List Int}{i:Nat}(h:i<l.length):l.getD i 0=l[i]:=by
 rw[Ou,O1 h];rfl
end Go.Sx

namespace Go.Sx
open Go Go.RowKit
set_option maxRecDepth 100000
abbrev iE2:Sh:=.agg [.num,.num]
abbrev oE2:Oh:=.agg [.num,.num]
def nrm(a b:Int):Int:=(a*a+b*b)^(bP-2).toNat
theorem Zvq{a A:Int}(h:a=A%bP):a<bP:=by rw[h];exact(Zo Q9).2
theorem Ua{p a A:Int}(h:a%p=A%p):(-a)%p=(-A)%p:=by
 rw[<- Int.zero_sub a,<- Int.zero_sub A];exact Wh rfl h
abbrev E2:Type:=Int×Int
def PQ(x y:Int)(Y:E2):Prop:=x=Y.1%bP/\y=Y.2%bP
theorem PQ.l1{x y:Int}{Y:E2}(h:PQ x y Y):x<bP:=Zvq h.1
theorem PQ.l2{x y:Int}{Y:E2}(h:PQ x y Y):y<bP:=Zvq h.2
section
variable {α:Type}
def hT(R:Rg α)(t u:J α):α:=R.sub (R.mul u.x (R.mul t.z t.z)) t.x
end
def J.l2(P:J E2):List Int:=[P.x.1%bP,P.x.2%bP,P.y.1%bP,P.y.2%bP,P.z.1%bP,P.z.2%bP]
theorem Qaq{e:Nat->Int}{v:Int}{i j:Nat}(h:v=(D.eqs [(.m i 0,.lit 0),(.m i 1,.lit 0),(.m i 2,.lit 0),(.m i 3,.lit 0),(.m i 4,.lit 0),(.m i 5,.lit 0),(.m j 0,.lit 0),(.m j 1,.lit 0),(.m j 2,.lit 0),(.m j 3,.lit 0),(.m j 4,.lit 0),(.m j 5,.lit 0)]).ev [] e)(hi:0<=e i/\e i<Qw)(hj:0<=e j/\e j<Qw):(v=1/\(e i=0/\e j=0))∨(v=0/\¬(e i=0/\e j=0)):=by
 simp only[D.ev,L1,Oaa,Qp,Qn,H6,Qfa,Oo,beq_iff_eq]at h;by_cases hc:e i=0/\e j=0
 ·left;rw[hc.1,hc.2]at h;simp[Q1]at h;exact⟨h,hc⟩
 ·right
  rw[if_neg (fun hh=>hc (by have:=Z4 hi;have:=Z4 hj;omega))]at h;exact⟨h,hc⟩
end Go.Sx



namespace Go.Sx
open Go Go.RowKit
abbrev oPt:Oh:=.agg [.int .u64,.int .u64,.bool]
abbrev iPt:Sh:=.agg [.int .u64,.int .u64,.bool]
def pOk(p:Int):Prop:=3<=p/\p<4611686018427387904
def Qd3(f:FuncId):K:={fn:=f,ext:=false,ins:=[iC,iU,iU],outs:=[oU],pre:=fun|[p,_,_,_,_,_,a,b]=>pOk p/\a<p/\b<p|_=>False,sem:=fun|[p,_,_,_,_,_,a,b]=>[(a+b)%p]|_=>[] }
def Qez(f:FuncId):K:={fn:=f,ext:=false,ins:=[iC,iU,iU],outs:=[oU],pre:=fun|[p,_,_,_,_,_,a,b]=>pOk p/\a<p/\b<p|_=>False,sem:=fun|[p,_,_,_,_,_,a,b]=>[(a-b)%p]|_=>[] }
def Uu(f:FuncId):K:={fn:=f,ext:=false,ins:=[iC,iU,iU],outs:=[oU],pre:=fun|[p,_,_,_,_,_,_,_]=>pOk p|_=>False,sem:=fun|[p,_,_,_,_,_,a,b]=>[a*b%p]|_=>[] }
def pwM(p a n:Int):Int:=((a.toNat^n.toNat%p.toNat:Nat):Int)
def Qjr(f:FuncId):K:={fn:=f,ext:=false,ins:=[iC,iU,iU],outs:=[oU],pre:=fun|[p,_,_,_,_,_,_,_]=>pOk p|_=>False,sem:=fun|[p,_,_,_,_,_,a,n]=>[pwM p a n]|_=>[] }
def Qa8(p a:Int):Int:=pwM p a (p-2)
def Qmw(f:FuncId):K:={fn:=f,ext:=false,ins:=[iC,iU],outs:=[oU],pre:=fun|[p,_,_,_,_,_,_]=>pOk p|_=>False,sem:=fun|[p,_,_,_,_,_,a]=>[Qa8 p a]|_=>[] }
def W8(p x:Int):Int:=(x*x%p*x%p+x)%p
def Qaa(f:FuncId):K:={fn:=f,ext:=false,ins:=[iC,iU],outs:=[oU],pre:=fun|[p,_,_,_,_,_,x]=>pOk p/\x<p|_=>False,sem:=fun|[p,_,_,_,_,_,x]=>[W8 p x]|_=>[] }
def onP(p x y z:Int):Prop:=if z=0 then x<p/\y<p/\y*y%p=W8 p x else x=0/\y=0
instance  (p x y z:Int):Decidable (onP p x y z):=by unfold onP;exact inferInstance
def Qvg(f:FuncId):K:={fn:=f,ext:=false,ins:=[iC,iPt],outs:=[oB],pre:=fun|[p,_,_,_,_,_,_,_,_]=>pOk p|_=>False,sem:=fun|[p,_,_,_,_,_,x,y,z]=>[bi (onP p x y z)]|_=>[] }
def Wj(p x y x' y':Int):Int×Int :=
 if x≠x' then((y'-y)%p*Qa8 p ((x'-x)%p)%p,1)
 else if y≠y'∨y=0 then(0,0)
 else((((x*x%p+x*x%p)%p+x*x%p)%p+1)%p*Qa8 p ((y+y)%p)%p,1)
def Qb6(f:FuncId):K:={fn:=f,ext:=false,ins:=[iC,iPt,iPt],outs:=[oU,oB],pre:=fun|[p,_,_,_,_,_,x,y,_,x',y',_]=>pOk p/\x<p/\y<p/\x'<p/\y'<p|_=>False,sem:=fun|[p,_,_,_,_,_,x,y,_,x',y',_]=>[(Wj p x y x' y').1,(Wj p x y x' y').2]|_=>[] }
structure Pt where
 x:Int
 y:Int
 z:Int
 deriving DecidableEq
def Yg(p:Int)(a b:Pt):Pt :=
 if a.z≠0 then b else if b.z≠0 then a else
 let s:=Wj p a.x a.y b.x b.y
 if s.2=0 then⟨0,0,1⟩else
 let x:=((s.1*s.1%p-a.x)%p-b.x)%p
 ⟨x,(s.1*((a.x-x)%p)%p-a.y)%p,0⟩
def Pt.l(a:Pt):List Int:=[a.x,a.y,a.z]
def Pt.lt(a:Pt)(p:Int):Prop:=(0<=a.x/\a.x<p)/\(0<=a.y/\a.y<p)
def Qmf(f:FuncId):K:={fn:=f,ext:=false,ins:=[iC,iPt,iPt],outs:=[oPt],pre:=fun|[p,_,_,_,_,_,x,y,_,x',y',_]=>pOk p/\x<p/\y<p/\x'<p/\y'<p|_=>False,sem:=fun|[p,_,_,_,_,_,x,y,z,x',y',z']=>(Yg p ⟨x,y,z⟩ ⟨x',y',z'⟩).l|_=>[] }
def Xa(p:Int)(a:Pt):Nat->Nat->Pt
 |0,_=>⟨0,0,1⟩
 |k+1,n=>if n=0 then⟨0,0,1⟩else
  let h:=Xa p a k (n/2)
  let d:=Yg p h h
  if n%2=1 then Yg p d a else d
def Qar(f:FuncId):K:={fn:=f,ext:=false,ins:=[iC,iPt,iU],outs:=[oPt],pre:=fun|[p,_,_,_,_,_,x,y,_,_]=>pOk p/\x<p/\y<p|_=>False,sem:=fun|[p,_,_,_,_,_,x,y,z,n]=>(Xa p ⟨x,y,z⟩ 64 n.toNat).l|_=>[] }
def inP(p r x y z:Int):Prop:=onP p x y z/\(Xa p ⟨x,y,z⟩ 64 r.toNat).z≠0
instance  (p r x y z:Int):Decidable (inP p r x y z):=by unfold inP;exact inferInstance
def Qwn(f:FuncId):K:={fn:=f,ext:=false,ins:=[iC,iPt],outs:=[oB],pre:=fun|[p,_,_,_,_,_,_,_,_]=>pOk p|_=>False,sem:=fun|[p,r,_,_,_,_,x,y,z]=>[bi (inP p r x y z)]|_=>[] }
end Go.Sx
