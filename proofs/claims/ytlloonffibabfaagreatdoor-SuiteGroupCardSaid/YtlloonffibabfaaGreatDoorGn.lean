/- Part Gn of the proof. -/
import Derived.Test.YtlloonffibabfaaGreatDoorGm
import Derived.Test.YtlloonffibabfaaGreatDoorGk
import Derived.Test.YtlloonffibabfaaGreatDoorGl
set_option linter.unusedVariables false
set_option linter.unusedSimpArgs false
namespace Go.Sx
open Go Go.RowKit
set_option maxRecDepth 100000
noncomputable def Qox(c:Int):Int:=enc [Qo (cq c 0),Qo (cq c 1),Qo (cq c 2),Qo (cq c 3),cq c 4]
theorem Zpj(c:Int):dec (Qox c)=[Qo (cq c 0),Qo (cq c 1),Qo (cq c 2),Qo (cq c 3),cq c 4]:=Qr _
noncomputable def rsW(c:Int):J E2:=Ja (cq c 0) (cq c 1) (cq c 2) (cq c 3) (cq c 4)
def onW(c:Int):Prop:=Qd9 (cq c 0) (cq c 1) (cq c 2) (cq c 3) (cq c 4)
def nnW(c:Int):Prop:=0<=cq c 0/\0<=cq c 1/\0<=cq c 2/\0<=cq c 3
theorem Zy3{c:Int}(h:onW c)(k:nnW c):rsC (Qox c)=rsW c:=by
 unfold rsC cq;rw[Zpj];exact Ze2 k.1 k.2.1 k.2.2.1 k.2.2.2 h.1
noncomputable def Jk(l n:List Int):J E2:=((l.zip n)).foldl (fun acc p=>J.md R2 (Xb R2 acc (Xd R2 (rsW p.1) 384 p.2.toNat))) (oJ R2)
theorem Qt9(F:J E2->J E2->Int->J E2):∀(l n:List Int) (a:J E2),(∀c∈l,onW c/\nnW c)->((l.map Qox).zip n).foldl (fun acc p=>F acc (rsC p.1) p.2) a=(l.zip n).foldl (fun acc p=>F acc (rsW p.1) p.2) a
 |[],n,a,_=>rfl
 |c::l,[],a,_=>rfl
 |c::l,m::n,a,h=>by
  have hc:=h c (Mj ..);simp only[Mm,List.zip_cons_cons,List.foldl_cons];rw[Zy3 hc.1 hc.2];exact Qt9 F l n _ fun d hd=>h d (Md _ hd)
theorem Zff{l n:List Int}(h:∀c∈l,onW c/\nnW c):Jt (l.map Qox) n (l.map Qox).length=Jk l n:=by
 unfold Jt Jk;rw[O8 (by rw[List.length_zip];exact Nat.min_le_left _ _)];exact Qt9 (fun acc P m=>J.md R2 (Xb R2 acc (Xd R2 P 384 m.toNat))) l n (oJ R2) h
noncomputable def Yd(f:FuncId):K:={fn:=f,ext:=false,ins:=[.lst Qxt,.lst .num],outs:=[.agg Qax,oI],pre:=fun|[l,n]=>(dec l).length=(dec n).length/\(dec l).length<=1000/\∀c∈dec l,onW c|_=>False,sem:=fun|[l,n]=>Wc (Jk (dec l) (dec n))++[0]|_=>[] }
def V7(f:FuncId):K:={fn:=f,ext:=false,ins:=[.agg Qax,iN],outs:=[.agg Qax,oI],pre:=fun|[a,b,c,d,z,_]=>Qd9 a b c d z|_=>False,sem:=fun|[a,b,c,d,z,n]=>Wc (Xd R2 (Ja a b c d z) 384 n.toNat)++[0]|_=>[] }
def Qdl(f:FuncId):K:={fn:=f,ext:=false,ins:=[.agg Qax,.agg Qax],outs:=[.agg Qax,oI],pre:=fun|[a,b,c,d,z,a',b',c',d',z']=>Qd9 a b c d z/\Qd9 a' b' c' d' z'|_=>False,sem:=fun|[a,b,c,d,z,a',b',c',d',z']=>Wc (Xb R2 (Ja a b c d z) (Ja a' b' c' d' z'))++[0]|_=>[] }
theorem Ztl{l:List Int}(h:Qxt.hasL l){c:Int}(hc:c∈l):nnW c:=by
 have h1:Qlh [.num,.num,.num,.num,.bit] (dec c):=h.2 c hc;unfold nnW cq
 match hd:dec c,h1 with
 |[a,b,d,f,g],h1=>exact⟨h1.1.1,h1.2.1.1,h1.2.2.1.1,h1.2.2.2.1.1⟩
def Xas:Qn:=(.l 2 kI (.llen (.v 0))
(.loop [.n 0,.n 0] [kI,(.lst (.tup .num [.num,.num,.num,.bit]))] 3
(.l 5 .bit (.c .lss (.v 3) (.v 2))
(.split 5
(.l 6 kI (.llen (.v 0))
(.l 7 .bit (.c .leq (.n 0) (.v 3))
(.l 8 .bit (.c .lss (.v 3) (.v 6))
(.nz (.v 7)
(.nz (.v 8)
(.l 9 .any (.lget (.v 0) (.v 3))
(.l 10 .num (.lget (.v 9) (.n 0))
(.l 11 .num (.lget (.v 9) (.n 1))
(.l 12 .num (.lget (.v 9) (.n 2))
(.l 13 .num (.lget (.v 9) (.n 3))
(.l 14 .bit (.lget (.v 9) (.n 4))
(.l 15 kI (.llen (.v 0))
(.l 16 kI (.llen (.v 1))
(.l 17 .bit (.c .eql (.v 15) (.v 16))
(.split 17
(xw 0 [.v 10,.v 11,.v 12,.v 13,.v 14] 18 U3
(.l 19 .bit (.not (.v 18))
(.split 19
(.ret [.n 0,.n 0,.n 0,.n 0,.n 0,.n 5])
(xw 1 [.v 10,.v 11,.v 12,.v 13,.v 14] 20 qma
(.l 25 .any (.lapp (.n 0) [.v 20,.v 21,.v 22,.v 23,.v 24])
(.l 26 kI (.llen (.v 4))
(.l 27 .bit (.c .lss (.v 26) (.n 4294967296))
(.nz (.v 27)
(.l 28 (.lst (.tup .num [.num,.num,.num,.bit])) (.lapp (.v 4) [.v 25])
(.l 29 kI (.b .add .i64 (.v 3) (.n 1))
(.back 0 [.v 29,.v 28])))))))))))
(xw 1 [.v 10,.v 11,.v 12,.v 13,.v 14] 18 qma
(.l 23 .any (.lapp (.n 0) [.v 18,.v 19,.v 20,.v 21,.v 22])
(.l 24 kI (.llen (.v 4))
(.l 25 .bit (.c .lss (.v 24) (.n 4294967296))
(.nz (.v 25)
(.l 26 (.lst (.tup .num [.num,.num,.num,.bit])) (.lapp (.v 4) [.v 23])
(.l 27 kI (.b .add .i64 (.v 3) (.n 1))
(.back 0 [.v 27,.v 26])))))))))))))))))))))))
(xw 2 [] 6 [.num,.num,.num,.num]
(xw 3 [.v 6,.v 7,.v 8,.v 9,.v 4,.v 1] 10 qda
(xw 4 [.v 10,.v 11,.v 12,.v 13,.v 14] 16 qma
(.ret [.v 16,.v 17,.v 18,.v 19,.v 20,.v 15]))))))))
theorem Zgz(o:Fo)(f1 f2 f3 f4 f5 f:FuncId)(e:Nat->Int)(hk:Qy [.lst Qxt,.lst .num] [e 0,e 1])(hp:(Yd f).pre [e 0,e 1]):Xas.Xij [Qkj f1,Zub f2,Qky o f3,Ut o f4,Zeu f5] ⟨fun ys=>ys=(Yd f).sem [e 0,e 1],[]⟩ e:=by
 obtain⟨hlen,hll,hok⟩:(dec (e 0)).length=(dec (e 1)).length/\(dec (e 0)).length<=1000/\∀c∈dec (e 0),onW c:=hp;obtain⟨l,d0⟩:∃l,dec (e 0)=l:=⟨_,rfl⟩
 obtain⟨n,d1⟩:∃n,dec (e 1)=n:=⟨_,rfl⟩
 have hplk:Qxt.hasL l:=by rw[<- d0];exact hk.1
 have hr:(Yd f).sem [e 0,e 1]=Wc (Jk l n)++[0]:=by rw[<- d0,<- d1];rfl
 rw[hr];rw[d0,d1]at hlen;rw[d0]at hok hll;have hon:∀c∈l,onW c/\nnW c:=fun c hc=>⟨hok c hc,Ztl hplk hc⟩
 clear hr hk hok;intro a2 _;have v2:e 2=(l.length:Int):=by rw[<- d0];exact a2
 refine⟨fun|[i,q]=>0<=i/\i<=l.length/\dec q=(l.take i.toNat).map Qox|_=>False,fun|[i,_]=>(l.length-i).toNat|_=>0,⟨Int.le_refl _,(show(0:Int)<=l.length by omega),Qu⟩,fun e' he hkk hI=>?_⟩;obtain⟨i0,i1,d4⟩:0<=e' 3/\e' 3<=l.length/\dec (e' 4)=(l.take (e' 3).toNat).map Qox:=hI;have v2:=(he 2 (by decide)).trans v2;have d0:=(congrArg dec (he 0 (by decide))).trans d0;have d1:=(congrArg dec (he 1 (by decide))).trans d1;clear he hkk a2;intro a5 _;have b5:=Va a5;simp only[Qm]at b5;refine⟨fun hs=>?_,fun hs=>?_⟩
 ·have c5:e' 3<l.length:=by omega
  intro a6 _ a7 _ a8 _;have v6:e' 6=(l.length:Int):=by rw[<- d0];exact a6
  refine⟨Zb a7 i0,Zk a8 (by show e' 3<e' 6;omega),fun a9 _ a10 _ a11 _ a12 _ a13 _ a14 _ a15 _ a16 _ a17 _=>?_⟩;have v9:e' 9=l.getD (e' 3).toNat 0:=by rw[<- d0];exact a9
  have hm:e' 9∈l:=by rw[v9,getD_lt (by omega)];exact M9 _
  have v10:e' 10=cq (e' 9) 0:=a10;have v11:e' 11=cq (e' 9) 1:=a11;have v12:e' 12=cq (e' 9) 2:=a12;have v13:e' 13=cq (e' 9) 3:=a13;have v14:e' 14=cq (e' 9) 4:=a14;have ho:=(hon _ hm).1;have v15:e' 15=(l.length:Int):=by rw[<- d0];exact a15
  have v16:e' 16=(n.length:Int):=by rw[<- d1];exact a16
  have b17:=Zi a17;simp only[Qm]at b17;refine⟨fun _=>?_,fun h=>by omega⟩;refine⟨trivial,fun a18 _ a19 _=>?_⟩;have v18:e' 18=bj ((e' 10<bP/\e' 11<bP)/\(e' 12<bP/\e' 13<bP)):=a18;rw[v10,v11,v12,v13,Qbp ho.1]at v18;have b19:=Z6 a19;simp only[Qm]at b19;refine⟨fun h=>by omega,fun _=>⟨trivial,fun a20 _ a21 _ a22 _ a23 _ a24 _ a25 _ a26 _ a27 _=>?_⟩⟩;have v20:e' 20=Qo (e' 10):=a20;have v21:e' 21=Qo (e' 11):=a21;have v22:e' 22=Qo (e' 12):=a22;have v23:e' 23=Qo (e' 13):=a23;have v24:e' 24=e' 14:=a24;have v25:e' 25=Qox (e' 9):=by
   have h:e' 25=enc (dec 0++[e' 20,e' 21,e' 22,e' 23,e' 24]):=a25;rw[h,Qu,v20,v21,v22,v23,v24,v10,v11,v12,v13,v14];rfl
  have v26:e' 26=((dec (e' 4)).length:Int):=a26;rw[d4,Mn,Mi]at v26;refine⟨Zk a27 (by show e' 26<4294967296;omega),fun a28 _ a29 _=>?_⟩;have d28:dec (e' 28)=dec (e' 4)++[e' 25]:=by
   have h:e' 28=enc (dec (e' 4)++[e' 25]):=a28;rw[h,Qr]
  have v29:e' 29=e' 3+1:=by
   have h:e' 29=Qw .add .i64 (e' 3) 1:=a29;rw[h];simp only[Qw,wr];omega
  show(0<=e' 29/\e' 29<=l.length/\dec (e' 28)=(l.take (e' 29).toNat).map Qox)/\(l.length-e' 29).toNat<(l.length-e' 3).toNat;refine⟨⟨by omega,by omega,?_⟩,by omega⟩;rw[v29,show(e' 3+1).toNat=(e' 3).toNat+1 by omega,d28,d4,v25,M8 (by omega),Kf,v9,getD_lt (by omega)];rfl
 ·rw[show(e' 3).toNat=l.length by omega,O8 (Nat.le_refl _)]at d4;refine⟨trivial,fun a6 _ a7 _ a8 _ a9 _=>?_⟩;have v6:e' 6=Qo 1:=a6;have v7:e' 7=0:=a7;have v8:e' 8=Qo 4:=a8;have v9:e' 9=Qo 4:=a9;have hg:Qkr (l.map Qox):=fun c hc=>by
   obtain⟨d,hd,rfl⟩:=Kz.1 hc;obtain⟨h,k⟩:=hon d hd;unfold cq;rw[Zpj];exact⟨⟨⟨(Qe5 _).2,(Qe5 _).2⟩,(Qe5 _).2,(Qe5 _).2⟩,(Qst k.1 k.2.1 k.2.2.1 k.2.2.2 h.1).2 h⟩
  refine⟨⟨⟨v6,v7⟩,⟨v8,v9⟩,(by show(dec (e' 4)).length=(dec (e' 1)).length;rw[d4,d1,Mn,hlen]),(by show Qkr (dec (e' 4));rw[d4];exact hg)⟩,fun a10 _ a11 _ a12 _ a13 _ a14 _ a15 _=>?_⟩;have hs:(Ut o f4).sem [e' 6,e' 7,e' 8,e' 9,e' 4,e' 1]=Yu (Jk l n)++[0]:=by
   show Yu (Jt (dec (e' 4)) (dec (e' 1)) (dec (e' 4)).length)++[0]=_;rw[d4,d1,Zff hon]
  rw[Qav]at hs;rw[Jp];generalize Qaq (Jk l n)=G at hs ⊢;generalize Qkd (Jk l n)=g at hs ⊢;have v10:e' 10=Qo G.1.1:=by
   have h:e' 10=((Ut o f4).sem [e' 6,e' 7,e' 8,e' 9,e' 4,e' 1]).getD 0 0:=a10;rw[h,hs];rfl
  have v11:e' 11=Qo G.1.2:=by
   have h:e' 11=((Ut o f4).sem [e' 6,e' 7,e' 8,e' 9,e' 4,e' 1]).getD 1 0:=a11;rw[h,hs];rfl
  have v12:e' 12=Qo G.2.1:=by
   have h:e' 12=((Ut o f4).sem [e' 6,e' 7,e' 8,e' 9,e' 4,e' 1]).getD 2 0:=a12;rw[h,hs];rfl
  have v13:e' 13=Qo G.2.2:=by
   have h:e' 13=((Ut o f4).sem [e' 6,e' 7,e' 8,e' 9,e' 4,e' 1]).getD 3 0:=a13;rw[h,hs];rfl
  have v14:e' 14=g:=by
   have h:e' 14=((Ut o f4).sem [e' 6,e' 7,e' 8,e' 9,e' 4,e' 1]).getD 4 0:=a14;rw[h,hs];rfl
  have v15:e' 15=0:=by
   have h:e' 15=((Ut o f4).sem [e' 6,e' 7,e' 8,e' 9,e' 4,e' 1]).getD 5 0:=a15;rw[h,hs];rfl
  refine⟨⟨⟨Qq v10,Qq v11⟩,Qq v12,Qq v13⟩,fun a16 _ a17 _ a18 _ a19 _ a20 _=>?_⟩;show[e' 16,e' 17,e' 18,e' 19,e' 20,e' 15]=_;rw[show e' 16=Ql (e' 10)from a16,show e' 17=Ql (e' 11)from a17,show e' 18=Ql (e' 12)from a18,show e' 19=Ql (e' 13)from a19,show e' 20=e' 14 from a20,v10,v11,v12,v13,v14,v15,Z7,Z7,Z7,Z7];rfl
theorem Xb7:R2.isz (oJ R2).z=true:=Qap.2 ⟨rfl,rfl⟩
theorem Zmf(Q:J E2):Xb R2 (oJ R2) Q=Q:=by
 rw[V9,if_pos Xb7]
theorem Zx3(P:J E2):JS (Xd R2 P 384 1) P:=by
 have e1:∀k n,Xd R2 P (k+1) n=if n=0 then oJ R2 else(if n%2=1 then J.md R2 (Xb R2 (J.md R2 (Xg R2 (Xd R2 P k (n/2)))) P)else J.md R2 (Xg R2 (Xd R2 P k (n/2)))):=fun _ _=>rfl
 have z0:∀k,Xd R2 P k 0=oJ R2:=fun k=>by
  cases k with
  |zero=>rfl
  |succ k=>rw[e1,if_pos rfl]
 rw[show(384:Nat)=383+1 from rfl,e1,if_neg (by decide),if_pos rfl,show 1/2=0 from rfl,z0];refine(Qel _).trans ?_;rw[V9,if_pos]
 ·exact JS.refl _
 ·rw[Zy4 (Qel (Xg R2 (oJ R2)))];exact Qap.2 ⟨by decide,by decide⟩
def Xal:Qn:=(.l 6 .any (.lapp (.n 0) [.v 0,.v 1,.v 2,.v 3,.v 4])
(.l 7 (.lst (.tup .num [.num,.num,.num,.bit])) (.lapp (.n 0) [.v 6])
(.l 8 (.lst .num) (.lapp (.n 0) [.v 5])
(xw 0 [.v 7,.v 8] 9 qda
(.ret [.v 9,.v 10,.v 11,.v 12,.v 13,.v 14])))))
theorem Zg4(f1 f:FuncId)(e:Nat->Int)(hp:(V7 f).pre [e 0,e 1,e 2,e 3,e 4,e 5]):Xal.Xij [Yd f1] ⟨fun ys=>ys=(V7 f).sem [e 0,e 1,e 2,e 3,e 4,e 5],[]⟩ e:=by
 have hon:Qd9 (e 0) (e 1) (e 2) (e 3) (e 4):=hp;intro a6 _ a7 _ a8 _;have d6:dec (e 6)=[e 0,e 1,e 2,e 3,e 4]:=by
  have h:e 6=enc (dec 0++[e 0,e 1,e 2,e 3,e 4]):=a6;rw[h,Qr,Qu];rfl
 have d7:dec (e 7)=[e 6]:=by
  have h:e 7=enc (dec 0++[e 6]):=a7;rw[h,Qr,Qu];rfl
 have d8:dec (e 8)=[e 5]:=by
  have h:e 8=enc (dec 0++[e 5]):=a8;rw[h,Qr,Qu];rfl
 have hw:rsW (e 6)=Ja (e 0) (e 1) (e 2) (e 3) (e 4):=by unfold rsW cq;rw[d6];rfl
 have how:onW (e 6):=by unfold onW cq;rw[d6];exact hon
 refine⟨⟨(by show(dec (e 7)).length=(dec (e 8)).length;rw[d7,d8];rfl),(by show(dec (e 7)).length<=1000;rw[d7];simp),(by
  show ∀c∈dec (e 7),_;rw[d7];intro c hc;rw[O5.1 hc];exact how)⟩,fun a9 _ a10 _ a11 _ a12 _ a13 _ a14 _=>?_⟩
 have hs:(Yd f1).sem [e 7,e 8]=Wc (Xd R2 (Ja (e 0) (e 1) (e 2) (e 3) (e 4)) 384 (e 5).toNat)++[0]:=by
  show Wc (Jk (dec (e 7)) (dec (e 8)))++[0]=_;rw[d7,d8];show Wc (J.md R2 (Xb R2 (oJ R2) (Xd R2 (rsW (e 6)) 384 (e 5).toNat)))++[0]=_;rw[hw,Zmf,Qtz (Qel _)]
 show[e 9,e 10,e 11,e 12,e 13,e 14]=(V7 f).sem [e 0,e 1,e 2,e 3,e 4,e 5];rw[show e 9=((Yd f1).sem [e 7,e 8]).getD 0 0 from a9,show e 10=((Yd f1).sem [e 7,e 8]).getD 1 0 from a10,show e 11=((Yd f1).sem [e 7,e 8]).getD 2 0 from a11,show e 12=((Yd f1).sem [e 7,e 8]).getD 3 0 from a12,show e 13=((Yd f1).sem [e 7,e 8]).getD 4 0 from a13,show e 14=((Yd f1).sem [e 7,e 8]).getD 5 0 from a14,hs];show _=Wc (Xd R2 (Ja (e 0) (e 1) (e 2) (e 3) (e 4)) 384 (e 5).toNat)++[0]
 rw[Jp];rfl
def Xb1:Qn:=(xw 1 [.n 1] 154 Q7
(xw 1 [.n 1] 202 Q7
(.l 298 .any (.lapp (.n 0) [.v 0,.v 1,.v 2,.v 3,.v 4])
(.l 299 .any (.lapp (.n 0) [.v 5,.v 6,.v 7,.v 8,.v 9])
(.l 300 (.lst (.tup .num [.num,.num,.num,.bit])) (.lapp (.n 0) [.v 298,.v 299])
(.l 301 (.lst .num) (.lapp (.n 0) [.v 154,.v 202])
(xw 0 [.v 300,.v 301] 302 qda
(.ret [.v 302,.v 303,.v 304,.v 305,.v 306,.v 307]))))))))
theorem Zhu(f1 f2 f:FuncId)(e:Nat->Int)(hp:(Qdl f).pre [e 0,e 1,e 2,e 3,e 4,e 5,e 6,e 7,e 8,e 9]):Xb1.Xij [Yd f1,kOf f2] ⟨fun ys=>ys=(Qdl f).sem [e 0,e 1,e 2,e 3,e 4,e 5,e 6,e 7,e 8,e 9],[]⟩ e:=by
 obtain⟨hon,hon'⟩:Qd9 (e 0) (e 1) (e 2) (e 3) (e 4)/\Qd9 (e 5) (e 6) (e 7) (e 8) (e 9):=hp;refine⟨trivial,fun a154 _=>⟨trivial,fun a202 _ a298 _ a299 _ a300 _ a301 _=>?_⟩⟩;have v154:e 154=1:=a154;have v202:e 202=1:=a202;have d298:dec (e 298)=[e 0,e 1,e 2,e 3,e 4]:=by
  have h:e 298=enc (dec 0++[e 0,e 1,e 2,e 3,e 4]):=a298;rw[h,Qr,Qu];rfl
 have d299:dec (e 299)=[e 5,e 6,e 7,e 8,e 9]:=by
  have h:e 299=enc (dec 0++[e 5,e 6,e 7,e 8,e 9]):=a299;rw[h,Qr,Qu];rfl
 have d300:dec (e 300)=[e 298,e 299]:=by
  have h:e 300=enc (dec 0++[e 298,e 299]):=a300;rw[h,Qr,Qu];rfl
 have d301:dec (e 301)=[e 154,e 202]:=by
  have h:e 301=enc (dec 0++[e 154,e 202]):=a301;rw[h,Qr,Qu];rfl
 rw[v154,v202]at d301;have w1:rsW (e 298)=Ja (e 0) (e 1) (e 2) (e 3) (e 4):=by unfold rsW cq;rw[d298];rfl
 have w2:rsW (e 299)=Ja (e 5) (e 6) (e 7) (e 8) (e 9):=by unfold rsW cq;rw[d299];rfl
 have o1:onW (e 298):=by unfold onW cq;rw[d298];exact hon
 have o2:onW (e 299):=by unfold onW cq;rw[d299];exact hon'
 refine⟨⟨(by show(dec (e 300)).length=(dec (e 301)).length;rw[d300,d301];rfl),(by show(dec (e 300)).length<=1000;rw[d300];simp),(by
  show ∀c∈dec (e 300),_;rw[d300];intro c hc;rcases O6.1 hc with rfl|hc
  ·exact o1
  ·rw[O5.1 hc];exact o2)⟩,fun a0 _ a1 _ a2 _ a3 _ a4 _ a5 _=>?_⟩
 have hs:(Yd f1).sem [e 300,e 301]=Wc (Xb R2 (Ja (e 0) (e 1) (e 2) (e 3) (e 4)) (Ja (e 5) (e 6) (e 7) (e 8) (e 9)))++[0]:=by
  show Wc (Jk (dec (e 300)) (dec (e 301)))++[0]=_;rw[d300,d301];show Wc (J.md R2 (Xb R2 (J.md R2 (Xb R2 (oJ R2) (Xd R2 (rsW (e 298)) 384 1))) (Xd R2 (rsW (e 299)) 384 1)))++[0]=_;rw[w1,w2,Zmf,Qtz ((Qel _).trans (Qq3 ((Qel _).trans (Zx3 _)) (Zx3 _)))]
 show[e 302,e 303,e 304,e 305,e 306,e 307]=(Qdl f).sem [e 0,e 1,e 2,e 3,e 4,e 5,e 6,e 7,e 8,e 9];rw[show e 302=((Yd f1).sem [e 300,e 301]).getD 0 0 from a0,show e 303=((Yd f1).sem [e 300,e 301]).getD 1 0 from a1,show e 304=((Yd f1).sem [e 300,e 301]).getD 2 0 from a2,show e 305=((Yd f1).sem [e 300,e 301]).getD 3 0 from a3,show e 306=((Yd f1).sem [e 300,e 301]).getD 4 0 from a4,show e 307=((Yd f1).sem [e 300,e 301]).getD 5 0 from a5,hs];show _=Wc (Xb R2 (Ja (e 0) (e 1) (e 2) (e 3) (e 4)) (Ja (e 5) (e 6) (e 7) (e 8) (e 9)))++[0]
 rw[Jp];rfl
theorem Xaf{a:Int}(h:¬a%bP=0):a^(bP-1).toNat%bP=1:=by
 have hf:=Qb8 h;unfold Xo at hf;rw[show(bP-1).toNat=(bP-2).toNat+1 by unfold bP;decide];generalize (bP-2).toNat=n at hf ⊢;rw[M7,Mw];exact hf
theorem Zbs(x:Int)(k:Nat):(-x)^(2*k+1)=-(x^(2*k+1)):=by
 rw[M7,M7,Int.pow_mul,Int.pow_mul,show(-x)^2=x^2 by grind,Int.mul_neg]
theorem Qut:(bP-1).toNat=2*(2*((bP-3)/4).toNat+1):=by unfold bP;decide
theorem Xhk{a b:Int}(h:(a*a+b*b)%bP=0):a%bP=0/\b%bP=0:=by
 have h1:(a*a)%bP=(-(b*b))%bP:=by
  have:=Ye (p:=bP) (a:=a*a+b*b) (A:=0) (by rw[h];rfl) (show(b*b)%bP=(b*b)%bP from rfl);rwa[Int.add_sub_cancel,Hu]at this
 by_cases ha:a%bP=0
 ·refine⟨ha,?_⟩;by_cases hb:b%bP=0
  ·exact hb
  ·have h2:(b*b)%bP=0:=by
    have h3:(a*a)%bP=0:=Yx _ ha;have:=Ye (p:=bP) (a:=a*a+b*b) (A:=0) (by rw[h];rfl) (show(a*a)%bP=0%bP by rw[h3];rfl);rw[show a*a+b*b-a*a=b*b by omega]at this;exact this
   exact Qbk h2 hb
 ·exfalso;have hb:¬b%bP=0:=fun hb=>ha (by
   have h3:(b*b)%bP=0:=Yx _ hb;have h4:(a*a)%bP=0:=by
    have:=Ye (p:=bP) (a:=a*a+b*b) (A:=0) (by rw[h];rfl) (show(b*b)%bP=0%bP by rw[h3];rfl);rw[Int.add_sub_cancel]at this;exact this
   exact Qbk h4 ha)
  have fa:=Xaf ha;have fb:=Xaf hb;rw[Qut]at fa fb;generalize ((bP-3)/4).toNat=k at fa fb;have h2:=J7 h1 (2*k+1);rw[Zbs]at h2;have e:∀x:Int,(x*x)^(2*k+1)=x^(2*(2*k+1)):=fun x=>by
   rw[Int.pow_mul,show x^2=x*x by grind]
  rw[e,e,fa]at h2;have h3:(-(b^(2*(2*k+1))))%bP=(-1)%bP:=U7 (by rw[fb];rfl);rw[h3]at h2;exact absurd h2 (by decide)
theorem Xex{A:E2}(h:¬R2.isz A=true):¬(A.1*A.1+A.2*A.2)%bP=0:=fun hc=>h (Qap.2 (Xhk hc))
theorem Zo8{A:E2}(h:¬R2.isz A=true):S2 (R2.mul A (Zq A)) (1,0):=by
 have hi:=Qb8 (Xex h);have e1:(R2.mul A (Zq A)).1=(A.1*A.1+A.2*A.2)*Xo (A.1*A.1+A.2*A.2):=by
  show A.1*(A.1*nrm A.1 A.2)-A.2 * -(A.2*nrm A.1 A.2)=_;rw[show nrm A.1 A.2=Xo (A.1*A.1+A.2*A.2)from rfl];generalize Xo (A.1*A.1+A.2*A.2)=n
  grind
 have e2:(R2.mul A (Zq A)).2=0:=by
  show A.1 * -(A.2*nrm A.1 A.2)+A.2*(A.1*nrm A.1 A.2)=0;generalize nrm A.1 A.2=n
  grind
 exact⟨by rw[e1,hi];rfl,by rw[e2]⟩
theorem Zkc(a:E2):R2.mul a (1,0)=a:=by
 show(a.1*1-a.2*0,a.1*0+a.2*1)=a;rw[Ha,H7,Ha,H7,Int.sub_zero,Int.zero_add]
theorem X8{a b c:E2}(h:S2 a b)(k:S2 b c):S2 a c:=⟨h.1.trans k.1,h.2.trans k.2⟩
theorem Zcc{a b:E2}(h:S2 a b):S2 b a:=⟨h.1.symm,h.2.symm⟩
theorem Zwq{a b:E2}(h:a=b):S2 a b:=by rw[h];exact W5 _
theorem Xa9{x y:E2}(h:R2.isz (R2.mul x y)=true)(hx:¬R2.isz x=true):R2.isz y=true:=by
 have hi:=Zo8 hx;have h1:S2 (R2.mul y (R2.mul x (Zq x))) y:=X8 (Q4 (W5 y) hi) (Zwq (Zkc y));rw[<- Qc0 h1];have e:R2.mul y (R2.mul x (Zq x))=R2.mul (R2.mul x y) (Zq x):=by
  obtain⟨x1,x2⟩:=x;obtain⟨y1,y2⟩:=y;generalize Zq (x1,x2)=i;obtain⟨i1,i2⟩:=i;simp only[R2];refine Prod.ext ?_ ?_
  ·show y1*(x1*i1-x2*i2)-y2*(x1*i2+x2*i1)=(x1*y1-x2*y2)*i1-(x1*y2+x2*y1)*i2
   grind
  ·show y1*(x1*i2+x2*i1)+y2*(x1*i1-x2*i2)=(x1*y1-x2*y2)*i2+(x1*y2+x2*y1)*i1
   grind
 rw[e];exact Zsu h
def t3(x:E2):E2:=R2.add (R2.add (R2.mul x x) (R2.mul x x)) (R2.mul x x)
def cn(a:E2):Prop:=(0<=a.1/\a.1<bP)/\(0<=a.2/\a.2<bP)
def ng2(a:E2):E2:=((-a.1)%bP,(-a.2)%bP)
theorem Zxj(a:E2):cn (ng2 a):=⟨Zl Q5,Zl Q5⟩
theorem Zty:¬R2.isz (1,0)=true:=fun h=>one_ne (Qap.1 h).1
theorem Zy5{x y:E2}(hx:cn x)(hy:cn y)(h:R2.isz (R2.sub y x)=true):x=y:=by
 obtain⟨h1,h2⟩:=Qap.1 h;refine Prod.ext ?_ ?_
 ·exact Classical.byContradiction fun hc=>Znk hx.1 hy.1 hc h1
 ·exact Classical.byContradiction fun hc=>Znk hx.2 hy.2 hc h2
theorem Xby{y y':E2}(hy:cn y)(hy':cn y')(h:R2.isz (R2.add y' y)=true):y=ng2 y':=by
 obtain⟨h1,h2⟩:=Qap.1 h;exact Prod.ext (Zm3 hy.1 hy'.1 h1) (Zm3 hy.2 hy'.2 h2)
theorem Zh3(x:E2):R2.isz (R2.sub x x)=true:=Qap.2 ⟨by rw[Int.sub_self];rfl,by rw[Int.sub_self];rfl⟩
theorem Zr4{y y' s:E2}(h:R2.md (R2.mul y y)=R2.md s)(h':R2.md (R2.mul y' y')=R2.md s):R2.isz (R2.mul (R2.sub y' y) (R2.add y' y))=true:=by
 have e:R2.mul (R2.sub y' y) (R2.add y' y)=R2.sub (R2.mul y' y') (R2.mul y y):=by
  obtain⟨a,b⟩:=y;obtain⟨c,d⟩:=y';simp only[R2];refine Prod.ext ?_ ?_
  ·simp only[]
   grind
  ·simp only[]
   grind
 rw[e];have h2:=h'.trans h.symm;have h3:S2 (R2.mul y' y') (R2.mul y y):=⟨congrArg Prod.fst h2,congrArg Prod.snd h2⟩
 rw[Qc0 (Ua h3 (W5 (R2.mul y y)))];exact Zh3 _
section
variable {x y x' y':E2}
end
theorem PQ.S{a b:Int}{A:E2}(h:PQ a b A):S2 (a,b) A:=⟨by rw[h.1];exact Q9 _,by rw[h.2];exact Q9 _⟩
def Wt(a:E2):Prop:=∃y:E2,S2 (R2.mul y y) a
def Qbn(y:E2):Prop:=bP/2<y.2∨(y.2=0/\bP/2<y.1)
instance  (y:E2):Decidable (Qbn y):=by unfold Qbn;exact inferInstance
def We(y:E2):E2:=if Qbn y then ng2 y else y
open Classical in
noncomputable def rt2(a:E2):E2:=if h:Wt a then We (R2.md h.choose)else(0,0)
theorem Zkt{c:Int}(h:0<=c/\c<bP):(c=0/\(-c)%bP=0)∨(0<c/\(-c)%bP=bP-c):=by
 by_cases h0:c=0
 ·left;rw[h0];exact⟨rfl,rfl⟩
 ·right;exact⟨by omega,Zno (by omega) h.2⟩
theorem Xju{c:E2}(h:cn c):ng2 (ng2 c)=c:=by
 have one:∀ {c:Int},0<=c/\c<bP->(-((-c)%bP))%bP=c:=fun {c} h=>by
  rcases Zkt h with⟨h0,h1⟩|⟨h0,h1⟩
  ·rw[h1,h0];rfl
  ·rw[h1,Zno (by omega) (by omega)];omega
 exact Prod.ext (one h.1) (one h.2)
theorem Xch{c:E2}(h:cn c):We (ng2 c)=We c:=by
 have hodd:=Bj;have g:Qbn (ng2 c)↔(¬Qbn c/\¬c=(0,0)):=by
  have e0:c=(0,0)↔c.1=0/\c.2=0:=⟨fun h=>by rw[h];exact⟨rfl,rfl⟩,fun h=>Prod.ext h.1 h.2⟩
  rw[e0];unfold Qbn;show(bP/2<(-c.2)%bP∨((-c.2)%bP=0/\bP/2<(-c.1)%bP))↔_;rcases Zkt h.1 with⟨a0,a1⟩|⟨a0,a1⟩ <;> rcases Zkt h.2 with⟨b0,b1⟩|⟨b0,b1⟩ <;> rw[a1,b1] <;> have:=h.1.2 <;> have:=h.2.2 <;> clear a1 b1 <;> generalize bP=p at * <;> omega
 unfold We;by_cases hg:Qbn c
 ·rw[if_pos hg,if_neg (fun hc=>(g.1 hc).1 hg)]
 ·by_cases h0:c=(0,0)
  ·rw[h0];rfl
  ·rw[if_neg hg,if_pos (g.2 ⟨hg,h0⟩),Xju h]
theorem Qem(a:E2):cn (R2.md a):=⟨Zl Q5,Zl Q5⟩
theorem Qi6(a:E2):S2 (R2.md a) a:=⟨Q9 _,Q9 _⟩
theorem Qct{a b:E2}(h:S2 a b):R2.md a=R2.md b:=Prod.ext h.1 h.2
theorem Qij{y a:E2}(hy:cn y)(h:S2 (R2.mul y y) a):rt2 a=We y:=by
 have hs:Wt a:=⟨y,h⟩
 unfold rt2;rw[dif_pos hs];have hc:=hs.choose_spec;generalize hs.choose=c at hc ⊢;have hc':S2 (R2.mul (R2.md c) (R2.md c)) a:=X8 (Q4 (Qi6 c) (Qi6 c)) hc;have hd:=Zr4 (y:=y) (y':=R2.md c) (Qct h) (Qct hc');by_cases hz:R2.isz (R2.sub (R2.md c) y)=true
 ·rw[Zy5 hy (Qem c) hz]
 ·rw[Xby hy (Qem c) (Xa9 hd hz),Xch (Qem c)]
theorem Qtk{a:E2}(h:¬Wt a):rt2 a=(0,0):=dif_neg h
theorem Zzt{y:E2}(h:cn y):cn (We y):=by
 unfold We;split
 ·exact Zxj y
 ·exact h
theorem Qlf{x y:Int}(h:x%bP=y%bP):(x-y)%bP=0:=by rw[Int.sub_emod,h,Int.sub_self];rfl
theorem V8{x y:Int}(h:(x-y)%bP=0):x%bP=y%bP:=by
 have:=Z8 (p:=bP) (a:=x-y) (A:=0) (b:=y) (B:=y) (by rw[h];rfl) rfl;rwa[Kt,Int.zero_add]at this
theorem Znh{u v E a b:Int}(hu:u%bP=0)(hv:v%bP=0)(h:E=u*a+v*b):E%bP=0:=by
 rw[h];exact Qkv (Yx _ hu) (Yx _ hv)
theorem Xdl{u v w E a b c:Int}(hu:u%bP=0)(hv:v%bP=0)(hw:w%bP=0)(h:E=u*a+v*b+w*c):E%bP=0:=by
 rw[h];exact Qkv (Qkv (Yx _ hu) (Yx _ hv)) (Yx _ hw)
def kE:Nat:=((bP-3)/4).toNat
theorem Xgu:eR=kE+1:=by unfold eR kE bP;decide
theorem Zpi{a:Int}(h:¬a%bP=0):a^(2*(2*kE+1))%bP=1:=by
 have:=Xaf h;rwa[Qut]at this
theorem Zv3(c:Int):rtV c*rtV c%bP=c*c^(2*kE+1)%bP:=by
 have e:c^eR*c^eR=c*c^(2*kE+1):=by
  rw[Xgu,<- L9,Mw c,<- M7];congr 1 <;> omega
 rw[<- e];exact Q2 (Q9 _) (Q9 _)
theorem Zz6{c:Int}(h:c^(2*kE+1)%bP=1):sqV c:=by
 unfold sqV;rw[Zv3];have:=Q2 (p:=bP) (a:=c) (A:=c) (b:=c^(2*kE+1)) (B:=1) rfl (by rw[h];rfl);rwa[Ha]at this
theorem Xdu{c:Int}(h:c%bP=0):sqV c:=by
 unfold sqV;rw[Zv3,h];exact Yx _ h
theorem Zkj{c d:Int}(h:c%bP=d*d%bP):sqV c:=by
 by_cases hd:d%bP=0
 ·exact Xdu (by rw[h];exact Yx _ hd)
 ·refine Zz6 ?_;rw[<- Zpi hd];have:=J7 h (2*kE+1);rw[this,show d*d=d^2 by grind,<- Int.pow_mul]
theorem Xb4{c:Int}(h:¬sqV c):sqV (-c):=by
 have hc:¬c%bP=0:=fun h0=>h (Xdu h0)
 have h1:=Zpi hc;have e:c^(2*(2*kE+1))=c^(2*kE+1)*c^(2*kE+1):=by rw[<- L9];congr 1 <;> omega
 rw[e]at h1;have hn:(-c)^(2*kE+1)=-(c^(2*kE+1)):=Zbs c kE;have hu:¬c^(2*kE+1)%bP=1:=fun hu=>h (Zz6 hu)
 generalize c^(2*kE+1)=u at *
 have h2:((u-1)*(u+1))%bP=0:=by
  have:=Qlf (x:=u*u) (y:=1) (by rw[h1];rfl);rwa[show(u-1)*(u+1)=u*u-1 by grind]
 have h3:¬(u-1)%bP=0:=fun h0=>hu (by rw[V8 h0];rfl)
 have h4:=Qbk h2 h3;refine Zz6 ?_;rw[hn];have:=Qlf (x:=u+1) (y:=0) (by rw[h4];rfl);have h5:(-u-1)%bP=0:=by
  have:=Yx (-1) h4;rwa[show(u+1) * -1=-u-1 by omega]at this
 rw[V8 h5];rfl
theorem Xe4{a b:Int}(h:a*a%bP=b*b%bP):a%bP=b%bP∨a%bP=(-b)%bP:=by
 have h2:((a-b)*(a+b))%bP=0:=by
  have:=Qlf h;rwa[show(a-b)*(a+b)=a*a-b*b by grind]
 by_cases h3:(a-b)%bP=0
 ·exact .inl (V8 h3)
 ·right
  have h4:=Qbk h2 h3;exact V8 (by rwa[Int.sub_neg])
theorem Zlx:¬(2:Int)%bP=0:=by decide
theorem Zrb{A B s x w H i:Int}(hH:(2*H)%bP=1)(hs:s*s%bP=(A*A+B*B)%bP)(hB:¬B%bP=0)(hx:x*x%bP=(A+s)*H%bP)(hi:¬(x+x)%bP=0->(x+x)*i%bP=1)(hw:w%bP=B*i%bP):S2 (R2.mul (x,w) (x,w)) (A,B):=by
 have U2:=Qlf hs;have V1:=Qlf hx;have V2:(2*H-1)%bP=0:=Qlf (by rw[hH];rfl);have U1:((x+x)*x-(A+s))%bP=0:=Znh (a:=2) (b:=A+s) V1 V2 (by grind);have hx0:¬(x+x)%bP=0:=fun h0=>hB (by
  have hx1:x%bP=0:=Qbk (x:=2) (by rw[show(2:Int)*x=x+x by omega];exact h0) Zlx;have h1:(B*B)%bP=0:=Xdl (a:=-1) (b:=A-s) (c:=x*2*(s-A)) U2 U1 hx1 (by grind);exact Classical.byContradiction fun hb=>hb (Qbk h1 hb))
 have h1:((x+x)*w-B)%bP=0:=by
  have W:=Qlf hw;have I:=Qlf (x:=(x+x)*i) (y:=1) (by rw[hi hx0];rfl);exact Znh (a:=x+x) (b:=B) W I (by grind)
 refine⟨?_,?_⟩
 ·refine V8 (x:=x*x-w*w) (y:=A) ?_;have hD:((x+x)*((x+x)*(x*x-w*w-A)))%bP=0:=Xdl (a:=(x+x)*x-(A+s)+2*s) (b:=-((x+x)*w-B+2*B)) (c:=1) U1 h1 U2 (by grind);exact Qbk (Qbk hD hx0) hx0
 ·refine V8 (x:=x*w+w*x) (y:=B) ?_;rw[show x*w+w*x-B=(x+x)*w-B by grind];exact h1
theorem Qts{A B:Int}(h:Wt (A,B)){H:Int}(hH:(2*H)%bP=1):∃n c d:Int,(A*A+B*B)%bP=n*n%bP/\(A+n)*H%bP=c*c%bP/\(n-A)*H%bP=d*d%bP/\A%bP=(c*c-d*d)%bP/\B%bP=(c*d+d*c)%bP:=by
 obtain⟨⟨c,d⟩,h1,h2⟩:=h;have a:(A-(c*c-d*d))%bP=0:=Qlf h1.symm;have b:(B-(c*d+d*c))%bP=0:=Qlf h2.symm;have V2:(2*H-1)%bP=0:=Qlf (by rw[hH];rfl);refine⟨c*c+d*d,c,d,V8 ?_,V8 ?_,V8 ?_,V8 a,V8 b⟩
 ·exact Znh (a:=A+(c*c-d*d)) (b:=B+(c*d+d*c)) a b (by grind)
 ·exact Znh (a:=H) (b:=c*c) a V2 (by grind)
 ·exact Znh (a:=-H) (b:=d*d) a V2 (by grind)
theorem Xeb{a b:E2}(h:S2 a b):rt2 a=rt2 b/\(Wt a↔Wt b):=by
 have hi:Wt a↔Wt b:=⟨fun⟨y,hy⟩=>⟨y,X8 hy h⟩,fun⟨y,hy⟩=>⟨y,X8 hy (Zcc h)⟩⟩
 refine⟨?_,hi⟩;by_cases hs:Wt a
 ·obtain⟨y,hy⟩:=hs;have hy':S2 (R2.mul (R2.md y) (R2.md y)) a:=X8 (Q4 (Qi6 y) (Qi6 y)) hy;rw[Qij (Qem y) hy',Qij (Qem y) (X8 hy' h)]
 ·rw[Qtk hs,Qtk (fun hb=>hs (hi.2 hb))]
theorem Qy2(a:E2):cn (rt2 a):=by
 by_cases hs:Wt a
 ·obtain⟨y,hy⟩:=hs;rw[Qij (Qem y) (X8 (Q4 (Qi6 y) (Qi6 y)) hy)];exact Zzt (Qem y)
 ·rw[Qtk hs];exact⟨⟨by decide,Q5⟩,by decide,Q5⟩
def Qrc(f:FuncId):K:={fn:=f,ext:=false,ins:=[iE2],outs:=[oE2],pre:=fun|[a,b]=>a<bP/\b<bP|_=>False,sem:=fun|[a,b]=>[Qo (-Ql a),Qo (-Ql b)]|_=>[] }
noncomputable def Qdp(f:FuncId):K:={fn:=f,ext:=false,ins:=[iN],outs:=[oN,oB],pre:=fun|[a]=>a<bP|_=>False,sem:=fun|[a]=>[Qo (rtV (Ql a)),bj (sqV (Ql a))]|_=>[] }
def Qbw(f:FuncId):K:={fn:=f,ext:=false,ins:=[iE2],outs:=[oE2],pre:=fun|[a,b]=>a<bP/\b<bP|_=>False,sem:=fun|[a,b]=>[(We (Ql a,Ql b)).1,(We (Ql a,Ql b)).2]|_=>[] }
open Classical in
noncomputable def Uu(a:E2):List Int:=if Wt a then[(rt2 a).1,(rt2 a).2,0]else[0,0,6]
theorem Qon{a:E2}(h:Wt a):Uu a=[(rt2 a).1,(rt2 a).2,0]:=if_pos h
theorem Qhm{a:E2}(h:¬Wt a):Uu a=[0,0,6]:=if_neg h
theorem Zih{y a:E2}(hy:cn y)(h:S2 (R2.mul y y) a):Uu a=[(We y).1,(We y).2,0]:=by rw[Qon ⟨y,h⟩,Qij hy h]
noncomputable def Qn6(f:FuncId):K:={fn:=f,ext:=false,ins:=[iE2],outs:=[oE2,oI],pre:=fun _=>True,sem:=fun|[a,b]=>Uu (a,b)|_=>[] }
def Qkw(f:FuncId):K:={fn:=f,ext:=false,ins:=[iE2,iE2],outs:=[oE2],pre:=fun _=>True,sem:=fun|[a,b,c,d]=>[(a+c)%bP,(b+d)%bP]|_=>[] }
def Qth(f:FuncId):K:={fn:=f,ext:=false,ins:=[iE2,iE2],outs:=[oE2],pre:=fun _=>True,sem:=fun|[a,b,c,d]=>[(a*c-b*d)%bP,(a*d+b*c)%bP]|_=>[] }
noncomputable def Zyy(f:FuncId):K:={fn:=f,ext:=false,ins:=[iE2],outs:=[.agg Qax,oB],pre:=fun _=>True,sem:=fun|[a,b]=>[a,b,(rt2 (X2 (a,b))).1,(rt2 (X2 (a,b))).2,0,bj (Wt (X2 (a,b)))]|_=>[] }
def Xa0:Qn:=(xw 0 [.v 0] 98 Q7
(xw 0 [.v 1] 242 Q7
(.ret [.v 98,.v 242])))
theorem Zie(f1 f:FuncId)(e:Nat->Int)(hp:(Qrc f).pre [e 0,e 1]):Xa0.Xij [Qjv f1] ⟨fun ys=>ys=(Qrc f).sem [e 0,e 1],[]⟩ e:=by
 obtain⟨u0,u1⟩:e 0<bP/\e 1<bP:=hp;refine⟨u0,fun a1 _=>⟨u1,fun a2 _=>?_⟩⟩;show[e 98,e 242]=[Qo (-Ql (e 0)),Qo (-Ql (e 1))]
 rw[show e 98=_ from a1,show e 242=_ from a2];rfl
def Zcb:Qn:=(xw 1 [] 1 Q7
(xw 2 [.n 1] 2 Q7
(xw 0 [.v 1,.v 2] 3 qja
(xw 3 [.v 3] 101 Q7
(xw 4 [.v 0,.v 101] 149 Q7
(xw 5 [.v 149,.v 149] 437 Q7
(.l 533 .bit (.eqs [((.m 437 0),(.m 0 0)),((.m 437 1),(.m 0 1)),((.m 437 2),(.m 0 2)),((.m 437 3),(.m 0 3)),((.m 437 4),(.m 0 4)),((.m 437 5),(.m 0 5))])
(.ret [.v 149,.v 533]))))))))
theorem Qxo(f1 f2 f3 f4 f5 f6 f:FuncId)(e:Nat->Int)(hk:Qy [.num] [e 0])(hp:(Qdp f).pre [e 0]):Zcb.Xij [Qdj f1,Qam f2,kOf f3,Zcn f4,Que f5,U4 f6] ⟨fun ys=>ys=(Qdp f).sem [e 0],[]⟩ e:=by
 have u0:e 0<bP:=hp;have k0:0<=e 0/\e 0<Qv:=hk.1;show Zcb.Xij _ ⟨fun ys=>ys=[Qo (rtV (Ql (e 0))),bj (sqV (Ql (e 0)))],[]⟩ e;refine⟨trivial,fun a1 _=>⟨trivial,fun a2 _=>⟨trivial,fun a3 _ a4 _=>⟨trivial,fun a101 _=>⟨u0,fun a149 _=>?_⟩⟩⟩⟩⟩;have v149:e 149=Qo (rtV (Ql (e 0))):=by
  have h:e 149=Qo (Ql (e 0)^(e 101).toNat):=a149;rw[h,show e 101=e 3/4 from a101,show e 3=(e 1+e 2)%Qv from a3,show e 1=bP from a1,show e 2=1 from a2,Zxl];exact Zw (Q9 _).symm
 refine⟨⟨Qq v149,Qq v149⟩,fun a437 k437 a533 _=>?_⟩;have v437:e 437=Qo (rtV (Ql (e 0))*rtV (Ql (e 0))):=X7 (show e 437=Qo (Ql (e 149)*Ql (e 149))from a437) v149 v149;have b533:=Qmx a533 k437 k0;have hsq:e 437=e 0↔sqV (Ql (e 0)):=by
  have h0:=X9 k0.1 u0;constructor
  ·intro h;rw[v437]at h;exact Qb4 (h.trans h0)
  ·intro h;rw[v437,Zw h];exact h0.symm
 show[e 149,e 533]=_;rw[v149,show e 533=bj (sqV (Ql (e 0)))from Qgy (by
  rcases b533 with⟨h1,h2⟩|⟨h1,h2⟩
  ·exact .inl ⟨h1,hsq.1 h2⟩
  ·exact .inr ⟨h1,fun h=>h2 (hsq.2 h)⟩)]
theorem Zv7{c:Int}(h:0<=c/\c<bP):(-c)%bP<c↔bP/2<c:=by
 have hodd:=Bj;rcases Zkt h with⟨a0,a1⟩|⟨a0,a1⟩ <;> rw[a1] <;> have:=h.2 <;> clear a1 <;> generalize bP=p at * <;> omega
theorem Xc9{c:Int}(h:0<=c/\c<bP):(-c)%bP=c↔c=0:=by
 have hodd:=Bj;rcases Zkt h with⟨a0,a1⟩|⟨a0,a1⟩ <;> rw[a1] <;> have:=h.2 <;> clear a1 <;> generalize bP=p at * <;> omega
theorem Zs7{v a b:Int}(h:v=if a<b then -1 else if a=b then 0 else 1):v=0↔a=b:=by
 rw[h];split
 ·rename_i h1;exact⟨fun h2=>absurd h2 (by decide),fun h2=>by omega⟩
 ·split
  ·rename_i h2;exact⟨fun _=>h2,fun _=>rfl⟩
  ·rename_i h2;exact⟨fun h3=>absurd h3 (by decide),fun h3=>absurd h3 h2⟩
theorem Ze6(a:Int):0<=Ql a/\Ql a<bP:=Zl Q5
def Zbu:Qn:=(xw 0 [.v 0,.v 1] 50 Yr
(xw 1 [.v 0,.v 1] 146 Yr
(xw 0 [.v 146,.v 147] 194 Yr
(xw 2 [.v 195,.v 51] 434 qoa
(.l 435 .bit (.c .lss (.v 434) (.n 0))
(.split 435
(.ret [.v 194,.v 195])
(.l 436 .bit (.c .eql (.v 434) (.n 0))
(.split 436
(xw 2 [.v 194,.v 50] 437 qoa
(.l 438 .bit (.c .lss (.v 437) (.n 0))
(.split 438
(.ret [.v 194,.v 195])
(.ret [.v 50,.v 51]))))
(.ret [.v 50,.v 51])))))))))
theorem Qx5(f1 f2 f3 f:FuncId)(e:Nat->Int)(hk:Qy [.num,.num] [e 0,e 1])(hp:(Qbw f).pre [e 0,e 1]):Zbu.Xij [Qbo f1,Qrc f2,Yj f3] ⟨fun ys=>ys=(Qbw f).sem [e 0,e 1],[]⟩ e:=by
 obtain⟨u0,u1⟩:e 0<bP/\e 1<bP:=hp;obtain⟨A,hA⟩:∃A,Ql (e 0)=A:=⟨_,rfl⟩
 obtain⟨B,hB⟩:∃B,Ql (e 1)=B:=⟨_,rfl⟩
 have ra:=Ze6 (e 0);have rb:=Ze6 (e 1);rw[hA]at ra;rw[hB]at rb;show Zbu.Xij _ ⟨fun ys=>ys=[(We (Ql (e 0),Ql (e 1))).1,(We (Ql (e 0),Ql (e 1))).2],[]⟩ e;rw[hA,hB];refine⟨⟨u0,u1⟩,fun a50 _ a51 _=>⟨⟨u0,u1⟩,fun a146 _ a147 _=>?_⟩⟩;have v50:e 50=A:=(show e 50=Ql (e 0)from a50).trans hA;have v51:e 51=B:=(show e 51=Ql (e 1)from a51).trans hB;have v146:e 146=Qo (-A):=by rw[show e 146=Qo (-Ql (e 0))from a146,hA]
 have v147:e 147=Qo (-B):=by rw[show e 147=Qo (-Ql (e 1))from a147,hB]
 refine⟨⟨Qq v146,Qq v147⟩,fun a194 _ a195 _=>⟨trivial,fun a434 _ a435 _=>?_⟩⟩;have v194:e 194=(-A)%bP:=by rw[show e 194=Ql (e 146)from a194,v146,Z7]
 have v195:e 195=(-B)%bP:=by rw[show e 195=Ql (e 147)from a195,v147,Z7]
 have l1:=(Ug (show e 434=if e 195<e 51 then -1 else if e 195=e 51 then 0 else 1 from a434))
 have l2:=(Zs7 (show e 434=if e 195<e 51 then -1 else if e 195=e 51 then 0 else 1 from a434))
 rw[v195,v51,Zv7 rb]at l1;rw[v195,v51,Xc9 rb]at l2;have b435:=Va a435;simp only[Qm,Qp]at b435;have yes:Qbn (A,B)->[e 194,e 195]=[(We (A,B)).1,(We (A,B)).2]:=fun hg=>by
  rw[show We (A,B)=ng2 (A,B)from if_pos hg,v194,v195];rfl
 have no:¬Qbn (A,B)->[e 50,e 51]=[(We (A,B)).1,(We (A,B)).2]:=fun hg=>by
  rw[show We (A,B)=(A,B)from if_neg hg,v50,v51]
 refine⟨fun h=>yes (.inl (l1.1 (Zc b435 h))),fun h=>?_⟩;have n1:¬bP/2<B:=fun hc=>Xf b435 h (l1.2 hc)
 intro a436 _;have b436:=Zi a436;simp only[Qm,Qp]at b436;refine⟨fun h=>⟨trivial,fun a437 _ a438 _=>?_⟩,fun h=>no (fun hg=>by
  rcases hg with hg|hg
  ·exact n1 hg
  ·exact Xf b436 h (l2.2 hg.1))⟩
 have z0:=l2.1 (Zc b436 h);have l3:=(Ug (show e 437=if e 194<e 50 then -1 else if e 194=e 50 then 0 else 1 from a437))
 rw[v194,v50,Zv7 ra]at l3;have b438:=Va a438;simp only[Qm,Qp]at b438;exact⟨fun h=>yes (.inr ⟨z0,l3.1 (Zc b438 h)⟩),fun h=>no (fun hg=>by
  rcases hg with hg|hg
  ·exact n1 hg
  ·exact Xf b438 h (l3.2 hg.2))⟩
def Zu8:Qn:=(xw 2 [.v 0,.v 1] 52 Yr
(xw 2 [.v 2,.v 3] 148 Yr
(xw 1 [.v 52,.v 53,.v 148,.v 149] 196 Yr
(xw 0 [.v 196,.v 197] 244 Yr
(.ret [.v 244,.v 245])))))
theorem Qyj(f1 f2 f3 f:FuncId)(e:Nat->Int):Zu8.Xij [Qbo f1,Qfw f2,Qjc f3] ⟨fun ys=>ys=(Qkw f).sem [e 0,e 1,e 2,e 3],[]⟩ e:=by
 refine⟨trivial,fun a1 _ a2 _=>⟨trivial,fun a3 _ a4 _=>?_⟩⟩;have v1:e 52=Qo (e 0):=a1;have v2:e 53=Qo (e 1):=a2;have v3:e 148=Qo (e 2):=a3;have v4:e 149=Qo (e 3):=a4;refine⟨⟨Qq v1,Qq v2,Qq v3,Qq v4⟩,fun a5 _ a6 _=>?_⟩;have v5:e 196=Qo (e 0+e 2):=Ba (show e 196=Qo (Ql (e 52)+Ql (e 148))from a5) v1 v3;have v6:e 197=Qo (e 1+e 3):=Ba (show e 197=Qo (Ql (e 53)+Ql (e 149))from a6) v2 v4;refine⟨⟨Qq v5,Qq v6⟩,fun a7 _ a8 _=>?_⟩;show[e 244,e 245]=[(e 0+e 2)%bP,(e 1+e 3)%bP]
 rw[show e 244=Ql (e 196)from a7,show e 245=Ql (e 197)from a8,v5,v6,Z7,Z7]
def Zrj:Qn:=(xw 2 [.v 0,.v 1] 52 Yr
(xw 2 [.v 2,.v 3] 148 Yr
(xw 1 [.v 52,.v 53,.v 148,.v 149] 196 Yr
(xw 0 [.v 196,.v 197] 244 Yr
(.ret [.v 244,.v 245])))))
theorem Zaa(f1 f2 f3 f:FuncId)(e:Nat->Int):Zrj.Xij [Qbo f1,Qcz f2,Qjc f3] ⟨fun ys=>ys=(Qth f).sem [e 0,e 1,e 2,e 3],[]⟩ e:=by
 refine⟨trivial,fun a1 _ a2 _=>⟨trivial,fun a3 _ a4 _=>?_⟩⟩;have v1:e 52=Qo (e 0):=a1;have v2:e 53=Qo (e 1):=a2;have v3:e 148=Qo (e 2):=a3;have v4:e 149=Qo (e 3):=a4;refine⟨⟨Qq v1,Qq v2,Qq v3,Qq v4⟩,fun a5 _ a6 _=>?_⟩;have q:=Zv (x:=e 196) (y:=e 197) (A:=(e 0,e 1)) (C:=(e 2,e 3)) a5 a6 ⟨v1,v2⟩ ⟨v3,v4⟩;refine⟨⟨Qq q.1,Qq q.2⟩,fun a7 _ a8 _=>?_⟩;show[e 244,e 245]=[(e 0*e 2-e 1*e 3)%bP,(e 0*e 3+e 1*e 2)%bP]
 rw[show e 244=Ql (e 196)from a7,show e 245=Ql (e 197)from a8,q.1,q.2,Z7,Z7];rfl
theorem rtE{v a X:Int}(h:v=Qo (rtV (Ql a)))(ha:a=Qo X):v=Qo (rtV X):=by rw[h,ha,Z7,Zd5]
theorem sqE{v a X:Int}(h:v=bj (sqV (Ql a)))(ha:a=Qo X):v=bj (sqV X):=by rw[h,ha,Z7];exact W8 (Zr2 X)
theorem Qqy{v w a b X Y:Int}(h:v=(We (Ql a,Ql b)).1)(k:w=(We (Ql a,Ql b)).2)(ha:a=Qo X)(hb:b=Qo Y):v=(We (X%bP,Y%bP)).1/\w=(We (X%bP,Y%bP)).2:=by
 rw[h,k,ha,hb,Z7,Z7];exact⟨rfl,rfl⟩
theorem Xe9(a b:Int):cn (a%bP,b%bP):=⟨Zl Q5,Zl Q5⟩
theorem Qia{x y:Int}{a:E2}(h:S2 (R2.mul (x,y) (x,y)) a):Uu a=[(We (x%bP,y%bP)).1,(We (x%bP,y%bP)).2,0]:=Zih (Xe9 x y) (X8 (Q4 ⟨Q9 _,Q9 _⟩ ⟨Q9 _,Q9 _⟩) h)
theorem Zv1:(0:Int)=Qo 0:=Qex.symm
theorem Ql3:(2*Xo 2)%bP=1:=Qb8 Zlx
def Xd1(x n1 n2 n3 n4:Nat):Qn:=.req 6 [.v x,.v x] (.l n1 .num (.app 6 0 [.v x,.v x]) (.req 5 [.v n1] (.l n2 .num (.app 5 0 [.v n1]) (.req 8 [.v 3,.v n2] (.l n3 .num (.app 8 0 [.v 3,.v n2]) (.req 2 [.v x,.v n3] (.l n4 .num (.app 2 0 [.v x,.v n3]) (.l (n4+1) .num (.app 2 1 [.v x,.v n3]) (.ret [.v n4,.v (n4+1),.lit 0])))))))))
theorem Qll{T:List K}{e:Nat->Int}{g2 g5 g6 g8:FuncId}(h2:T[2]?=some (Qbw g2))(h5:T[5]?=some (Qhp g5))(h6:T[6]?=some (B9 g6))(h8:T[8]?=some (U4 g8))(x n1 n2 n3 n4:Nat){A B s:Int}(hs:s*s%bP=(A*A+B*B)%bP)(hB:¬B%bP=0)(v3:e 3=Qo B)(vx:e x=Qo (rtV ((A+s)*Xo 2)))(hq:sqV ((A+s)*Xo 2)):(Xd1 x n1 n2 n3 n4).Xij T ⟨fun ys=>ys=Uu (A,B),[]⟩ e:=by
 obtain⟨t,ht⟩:∃t,t=rtV ((A+s)*Xo 2):=⟨_,rfl⟩
 rw[<- ht]at vx;refine⟨by rw[h6];exact⟨Qq vx,Qq vx⟩,fun a1 _=>?_⟩;simp only[D.ev,h6]at a1;have v1:e n1=Qo (t+t):=Ba (show e n1=Qo (Ql (e x)+Ql (e x))from a1) vx vx;refine⟨by rw[h5];exact Qq v1,fun a2 _=>?_⟩;simp only[D.ev,h5]at a2;have v2:e n2=Qo (Xo (t+t)):=Zvj (show e n2=Qo (Ql (e n1)^(bP-2).toNat)from a2) v1;refine⟨by rw[h8];exact⟨Qq v3,Qq v2⟩,fun a3 _=>?_⟩;simp only[D.ev,h8]at a3;have w3:e n3=Qo (B*Xo (t+t)):=X7 (show e n3=Qo (Ql (e 3)*Ql (e n2))from a3) v3 v2;refine⟨by rw[h2];exact⟨Qq vx,Qq w3⟩,fun a4 _ a5 _=>?_⟩;simp only[D.ev,h2]at a4 a5;obtain⟨r1,r2⟩:=Qqy (show e n4=(We (Ql (e x),Ql (e n3))).1 from a4) (show e (n4+1)=(We (Ql (e x),Ql (e n3))).2 from a5) vx w3;show[e n4,e (n4+1),0]=_;rw[r1,r2];refine(Qia (Zrb Ql3 hs hB (x:=t) (i:=Xo (t+t)) ?_ (fun h=>Qb8 h) rfl)).symm;rw[ht];exact hq
def Qvo:Qn:=(xw 0 [.v 0,.v 1] 2 Yr
(.l 4 .bit (.eqs [((.m 3 0),(.n 0)),((.m 3 1),(.n 0)),((.m 3 2),(.n 0)),((.m 3 3),(.n 0)),((.m 3 4),(.n 0)),((.m 3 5),(.n 0))])
(.split 4
(xw 1 [.v 2] 5 qja
(.split 6
(xw 2 [.v 5,.n 0] 7 Yr
(.ret [.v 7,.v 8,.n 0]))
(xw 3 [.v 2] 7 Q7
(xw 1 [.v 7] 8 qja
(xw 2 [.n 0,.v 8] 10 Yr
(.ret [.v 10,.v 11,.n 0]))))))
(xw 4 [.v 2,.v 3] 5 Q7
(xw 1 [.v 5] 6 qja
(.l 8 .bit (.not (.v 7))
(.split 8
(.ret [.n 0,.n 0,.n 6])
(xw 7 [] 9 Q7
(xw 7 [] 10 Q7
(xw 6 [.v 9,.v 10] 11 Q7
(xw 5 [.v 11] 12 Q7
(xw 6 [.v 2,.v 6] 157 Q7
(xw 8 [.v 157,.v 12] 253 Q7
(xw 1 [.v 253] 301 qja
(.split 302
(xw 6 [.v 301,.v 301] 877 Q7
(xw 5 [.v 877] 925 Q7
(xw 8 [.v 3,.v 925] 973 Q7
(xw 2 [.v 301,.v 973] 1069 Yr
(.ret [.v 1069,.v 1070,.n 0])))))
(xw 3 [.v 6] 637 Q7
(xw 6 [.v 2,.v 637] 782 Q7
(xw 8 [.v 782,.v 12] 878 Q7
(xw 1 [.v 878] 926 qja
(.split 927
(xw 6 [.v 926,.v 926] 1502 Q7
(xw 5 [.v 1502] 1550 Q7
(xw 8 [.v 3,.v 1550] 1598 Q7
(xw 2 [.v 926,.v 1598] 1694 Yr
(.ret [.v 1694,.v 1695,.n 0])))))
(xw 3 [.v 637] 1262 Q7
(.ret [.n 0,.n 0,.n 6]))))))))))))))))))))))
theorem Qvw(f1 f2 f3 f4 f5 f6 f7 f8 f9 f:FuncId)(e:Nat->Int)(hk:Qy [.num,.num] [e 0,e 1]):Qvo.Xij [Qjc f1,Qdp f2,Qbw f3,Qjv f4,Qbq f5,Qhp f6,B9 f7,Qju f8,U4 f9] ⟨fun ys=>ys=(Qn6 f).sem [e 0,e 1],[]⟩ e:=by
 show Qvo.Xij _ ⟨fun ys=>ys=Uu (e 0,e 1),[]⟩ e;obtain⟨A,hA⟩:∃A,e 0=A:=⟨_,rfl⟩
 obtain⟨B,hB⟩:∃B,e 1=B:=⟨_,rfl⟩
 rw[hA,hB];refine⟨trivial,fun a2 _ a3 k3 a4 _=>?_⟩;have v2:e 2=Qo A:=by rw[<- hA];exact a2
 have v3:e 3=Qo B:=by rw[<- hB];exact a3
 have b4:=Qao a4 k3;rw[v3,Uh]at b4;refine⟨fun h=>?_,fun h=>?_⟩
 ·have hz:=Zc b4 h;refine⟨Qq v2,fun a5 _ a6 _=>?_⟩;have v5:=rtE (show e 5=Qo (rtV (Ql (e 2)))from a5) v2;have v6:=sqE (show e 6=bj (sqV (Ql (e 2)))from a6) v2;refine⟨fun h=>?_,fun h=>?_⟩
  ·have hq:=Vl v6 h;refine⟨⟨Qq v5,Q5⟩,fun a7 _ a8 _=>?_⟩;obtain⟨r1,r2⟩:=Qqy (show e 7=(We (Ql (e 5),Ql 0)).1 from a7) (show e 8=(We (Ql (e 5),Ql 0)).2 from a8) v5 Zv1;show[e 7,e 8,0]=_;rw[r1,r2];refine(Qia ⟨?_,?_⟩).symm
   ·show(rtV A*rtV A-0*0)%bP=A%bP;rw[H7,Int.sub_zero];exact hq
   ·show(rtV A*0+0*rtV A)%bP=B%bP;rw[H7,K7,hz];rfl
  ·have hq:=Xb4 (Qak v6 h);refine⟨Qq v2,fun a7 _=>?_⟩;have v7:=Zz0 (show e 7=Qo (-Ql (e 2))from a7) v2;refine⟨Qq v7,fun a8 _ a9 _=>?_⟩;have v8:=rtE (show e 8=Qo (rtV (Ql (e 7)))from a8) v7;refine⟨⟨Q5,Qq v8⟩,fun a10 _ a11 _=>?_⟩;obtain⟨r1,r2⟩:=Qqy (show e 10=(We (Ql 0,Ql (e 8))).1 from a10) (show e 11=(We (Ql 0,Ql (e 8))).2 from a11) Zv1 v8;show[e 10,e 11,0]=_;rw[r1,r2];have hq:rtV (-A)*rtV (-A)%bP=(-A)%bP:=hq;generalize rtV (-A)=t at *
   refine(Qia ⟨?_,?_⟩).symm
   ·show(0*0-t*t)%bP=A%bP;have:=U7 hq;rwa[Int.neg_neg,show -(t*t)=0*0-t*t by omega]at this
   ·show(0*t+t*0)%bP=B%bP;rw[H7,K7,hz];rfl
 have hB0:=Xf b4 h;refine⟨⟨Qq v2,Qq v3⟩,fun a5 _=>?_⟩;have v5:e 5=Qo (A*A+B*B):=by
  rw[show e 5=Qo (Ql (e 2)*Ql (e 2)+Ql (e 3)*Ql (e 3))from a5];exact Zw (Z8 (Q2 (Xn v2) (Xn v2)) (Q2 (Xn v3) (Xn v3)))
 refine⟨Qq v5,fun a6 _ a7 _ a8 _=>?_⟩;have v6:=rtE (show e 6=Qo (rtV (Ql (e 5)))from a6) v5;have v7:=sqE (show e 7=bj (sqV (Ql (e 5)))from a7) v5;have b8:=Z6 a8;simp only[Qm]at b8;refine⟨fun h=>?_,fun h=>?_⟩
 ·have hq:=Qak v7 (Zc b8 h);refine(Qhm (fun hs=>hq ?_)).symm;obtain⟨n,c,d,h1,_⟩:=Qts hs Ql3;exact Zkj h1
 have hq:=Vl v7 (Xf b8 h);obtain⟨s,hs⟩:∃s,s=rtV (A*A+B*B):=⟨_,rfl⟩
 rw[<- hs]at v6;have hss:s*s%bP=(A*A+B*B)%bP:=by rw[hs];exact hq
 have hss':-s * -s%bP=(A*A+B*B)%bP:=by rw[Hb];exact hss
 refine⟨trivial,fun a9 _=>⟨trivial,fun a10 _=>?_⟩⟩;have v9:e 9=Qo 1:=a9;have v10:e 10=Qo 1:=a10;refine⟨⟨Qq v9,Qq v10⟩,fun a11 _=>?_⟩;have v11:=Ba (show e 11=Qo (Ql (e 9)+Ql (e 10))from a11) v9 v10;refine⟨Qq v11,fun a12 _=>?_⟩;have v12:e 12=Qo (Xo 2):=Zvj (show e 12=Qo (Ql (e 11)^(bP-2).toNat)from a12) v11;refine⟨⟨Qq v2,Qq v6⟩,fun a157 _=>?_⟩;have v157:=Ba (show e 157=Qo (Ql (e 2)+Ql (e 6))from a157) v2 v6;refine⟨⟨Qq v157,Qq v12⟩,fun a253 _=>?_⟩;have v253:=X7 (show e 253=Qo (Ql (e 157)*Ql (e 12))from a253) v157 v12;refine⟨Qq v253,fun a301 _ a302 _=>?_⟩;have v301:=rtE (show e 301=Qo (rtV (Ql (e 253)))from a301) v253;have v302:=sqE (show e 302=bj (sqV (Ql (e 253)))from a302) v253;refine⟨fun h=>?_,fun h=>?_⟩
 ·exact Qll (T:=[Qjc f1,Qdp f2,Qbw f3,Qjv f4,Qbq f5,Qhp f6,B9 f7,Qju f8,U4 f9]) rfl rfl rfl rfl 301 877 925 973 1069 hss hB0 v3 v301 (Vl v302 h)
 have n1:=Qak v302 h;refine⟨Qq v6,fun a637 _=>?_⟩;have v637:=Zz0 (show e 637=Qo (-Ql (e 6))from a637) v6;refine⟨⟨Qq v2,Qq v637⟩,fun a782 _=>?_⟩;have v782:=Ba (show e 782=Qo (Ql (e 2)+Ql (e 637))from a782) v2 v637;refine⟨⟨Qq v782,Qq v12⟩,fun a878 _=>?_⟩;have v878:=X7 (show e 878=Qo (Ql (e 782)*Ql (e 12))from a878) v782 v12;refine⟨Qq v878,fun a926 _ a927 _=>?_⟩;have v926:=rtE (show e 926=Qo (rtV (Ql (e 878)))from a926) v878;have v927:=sqE (show e 927=bj (sqV (Ql (e 878)))from a927) v878;refine⟨fun h=>?_,fun h=>?_⟩
 ·exact Qll (T:=[Qjc f1,Qdp f2,Qbw f3,Qjv f4,Qbq f5,Qhp f6,B9 f7,Qju f8,U4 f9]) rfl rfl rfl rfl 926 1502 1550 1598 1694 hss' hB0 v3 v926 (Vl v927 h)
 have n2:=Qak v927 h;refine⟨Qq v637,fun a1262 _=>?_⟩;refine(Qhm (fun hq2=>?_)).symm;obtain⟨n,c,d,h1,h2,_⟩:=Qts hq2 Ql3;rcases Xe4 (hss.trans h1)with hn|hn
 ·exact n1 (Zkj ((Q2 (Z8 (p:=bP) (a:=A) (A:=A) rfl hn) rfl).trans h2))
 ·have hn':(-s)%bP=n%bP:=by have:=U7 hn;rwa[Int.neg_neg]at this
  exact n2 (Zkj ((Q2 (Z8 (p:=bP) (a:=A) (A:=A) rfl hn') rfl).trans h2))
def Xep:Qn:=(xw 0 [.n 4] 2 Q7
(xw 0 [.n 4] 3 Q7
(xw 3 [.v 0,.v 1,.v 0,.v 1] 100 Yr
(xw 3 [.v 100,.v 101,.v 0,.v 1] 196 Yr
(xw 2 [.v 196,.v 197,.v 2,.v 3] 292 Yr
(xw 1 [.v 292,.v 293] 340 [.num,.num,kI]
(.l 676 .bit (.c .eql (.v 342) (.n 0))
(.ret [.v 0,.v 1,.v 340,.v 341,.n 0,.v 676]))))))))
theorem Zvb(f1 f2 f3 f4 f:FuncId)(e:Nat->Int):Xep.Xij [kOf f1,Qn6 f2,Qkw f3,Qth f4] ⟨fun ys=>ys=(Zyy f).sem [e 0,e 1],[]⟩ e:=by
 show Xep.Xij _ ⟨fun ys=>ys=[e 0,e 1,(rt2 (X2 (e 0,e 1))).1,(rt2 (X2 (e 0,e 1))).2,0,bj (Wt (X2 (e 0,e 1)))],[]⟩ e;refine⟨trivial,fun a2 _=>⟨trivial,fun a3 _=>⟨trivial,fun a4 _ a5 _=>⟨trivial,fun a6 _ a7 _=>⟨trivial,fun a8 _ a9 _=>⟨trivial,fun a10 _ a11 _ a12 _ a13 _=>?_⟩⟩⟩⟩⟩⟩;have q1:S2 (e 100,e 101) (R2.mul (e 0,e 1) (e 0,e 1)):=⟨by rw[show e 100=_ from a4];exact Q9 _,by rw[show e 101=_ from a5];exact Q9 _⟩
 have q2:S2 (e 196,e 197) (R2.mul (R2.mul (e 0,e 1) (e 0,e 1)) (e 0,e 1)):=X8 ⟨by rw[show e 196=_ from a6];exact Q9 _,by rw[show e 197=_ from a7];exact Q9 _⟩ (Q4 q1 (W5 _));have q3:S2 (e 292,e 293) (X2 (e 0,e 1)):=by
  refine X8 (b:=R2.add (e 196,e 197) (e 2,e 3)) ⟨by rw[show e 292=_ from a8];exact Q9 _,by rw[show e 293=_ from a9];exact Q9 _⟩ ?_;rw[show e 2=4 from a2,show e 3=4 from a3];exact Wz q2 (W5 _)
 obtain⟨r1,r2⟩:=Xeb q3;have b13:=Zi a13;simp only[Qm,Qp]at b13;have hv:[e 340,e 341,e 342]=Uu (e 292,e 293):=by
  have hl:∃a b c,Uu (e 292,e 293)=[a,b,c]:=by
   by_cases h:Wt (e 292,e 293)
   ·exact⟨_,_,_,Qon h⟩
   ·exact⟨_,_,_,Qhm h⟩
  rw[show e 340=(Uu (e 292,e 293)).getD 0 0 from a10,show e 341=(Uu (e 292,e 293)).getD 1 0 from a11,show e 342=(Uu (e 292,e 293)).getD 2 0 from a12];obtain⟨a,b,c,h⟩:=hl;rw[h];rfl
 show[e 0,e 1,e 340,e 341,0,e 676]=_;by_cases h:Wt (X2 (e 0,e 1))
 ·rw[Qon (r2.2 h),r1]at hv;injection hv with h1 hv;injection hv with h2 hv;injection hv with h3 hv;rw[h1,h2,Qbp h];rcases b13 with⟨g,_⟩|⟨_,g⟩
  ·rw[g]
  ·exact absurd h3 g
 ·rw[Qhm (fun hc=>h (r2.1 hc))]at hv;injection hv with h1 hv;injection hv with h2 hv;injection hv with h3 hv;rw[Qtk h,Jf h,h1,h2];rcases b13 with⟨_,g⟩|⟨g,_⟩
  ·rw[h3]at g;exact absurd g (by decide)
  ·rw[g]
end Go.Sx


namespace Go.Sx
open Go Go.RowKit
set_option maxRecDepth 100000
def br0(b:List Int):Int:=X4 (b.drop 48)
theorem Xez(c:E2):S2 (R2.mul (ng2 c) (ng2 c)) (R2.mul c c):=by
 have h:S2 (ng2 c) (-c.1,-c.2):=⟨Q9 _,Q9 _⟩
 refine X8 (Q4 h h) (Zwq (Prod.ext ?_ ?_))
 ·show -c.1 * -c.1 - -c.2 * -c.2=c.1*c.1-c.2*c.2;rw[Hb,Hb]
 ·show -c.1 * -c.2 + -c.2 * -c.1=c.1*c.2+c.2*c.1;rw[Hb,Hb]
theorem Zsy(c:E2):S2 (R2.mul (We c) (We c)) (R2.mul c c):=by
 unfold We;split
 ·exact Xez c
 ·exact W5 _
theorem Xao{a:E2}(h:Wt a):S2 (R2.mul (rt2 a) (rt2 a)) a:=by
 obtain⟨y,hy⟩:=h;have h1:S2 (R2.mul (R2.md y) (R2.md y)) a:=X8 (Q4 (Qi6 y) (Qi6 y)) hy;rw[Qij (Qem y) h1];exact X8 (Zsy _) h1
theorem Zzo{x y:Int}(hx:x<bP)(hy:y<bP)(h:Wt (X2 (x,y))):Qd9 x y (rt2 (X2 (x,y))).1 (rt2 (X2 (x,y))).2 0 :=
 (Qie rfl).2 ⟨⟨⟨hx,hy⟩,(Qy2 _).1.2,(Qy2 _).2.2⟩,Qct (Xao h)⟩
end Go.Sx
namespace Go.Sx
class Cr (α:Type) where
 add:α->α->α
 mul:α->α->α
 neg:α->α
 zero:α
 one:α
 add_assoc:∀a b c,add (add a b) c=add a (add b c)
 add_comm:∀a b,add a b=add b a
 add_zero:∀a,add a zero=a
 add_neg:∀a,add a (neg a)=zero
 mul_assoc:∀a b c,mul (mul a b) c=mul a (mul b c)
 mul_comm:∀a b,mul a b=mul b a
 mul_one:∀a,mul a one=a
 mul_add:∀a b c,mul a (add b c)=add (mul a b) (mul a c)
namespace Cr
variable {α:Type}[Cr α]
theorem zero_add(a:α):add zero a=a:=by rw[add_comm,add_zero]
theorem Wx(a b c:α):add a (add b c)=add b (add a c):=by rw[<- add_assoc,add_comm a b,add_assoc]
theorem Qlx{a b c:α}(h:add a b=add a c):b=c:=by
 have h2:add (neg a) (add a b)=add (neg a) (add a c):=by rw[h]
 rwa[<- add_assoc,<- add_assoc,add_comm (neg a),add_neg,zero_add,zero_add]at h2
theorem mul_zero(a:α):mul a zero=zero:=by
 refine Qlx (a:=mul a zero) ?_;rw[<- mul_add,add_zero,add_zero]
theorem Yl{a b:α}(h:add a b=zero):b=neg a:=Qlx (a:=a) (by rw[h,add_neg])
theorem mul_neg(a b:α):mul a (neg b)=neg (mul a b):=Yl (by rw[<- mul_add,add_neg,mul_zero])
theorem neg_mul(a b:α):mul (neg a) b=neg (mul a b):=by rw[mul_comm,mul_neg,mul_comm]
theorem neg_neg(a:α):neg (neg a)=a:=(Yl (by rw[add_comm,add_neg])).symm
theorem neg_zero:neg (zero:α)=zero:=(Yl (add_zero _)).symm
theorem Zut(a b:α):neg (add a b)=add (neg a) (neg b):=by
 refine(Yl ?_).symm;rw[add_assoc,Wx b,add_neg,add_zero,add_neg]
theorem mul_left_comm(a b c:α):mul a (mul b c)=mul b (mul a c):=by rw[<- mul_assoc,mul_comm a b,mul_assoc]
end Cr
instance  (priority:=low){α:Type}[Cr α]:Add α:=⟨Cr.add⟩
instance  (priority:=low){α:Type}[Cr α]:Mul α:=⟨Cr.mul⟩
instance  (priority:=low){α:Type}[Cr α]:Neg α:=⟨Cr.neg⟩
instance  (priority:=low){α:Type}[Cr α]:Sub α:=⟨fun a b=>Cr.add a (Cr.neg b)⟩
instance  (priority:=low){α:Type}[Cr α]:OfNat α 0:=⟨Cr.zero⟩
instance  (priority:=low){α:Type}[Cr α]:OfNat α 1:=⟨Cr.one⟩
inductive PE where
 |v (n:Nat)|pa (a b:PE)|pm (a b:PE)|pn (a:PE)|p0|p1
namespace PE
instance:Add PE:=⟨PE.pa⟩
instance:Mul PE:=⟨PE.pm⟩
instance:Neg PE:=⟨PE.pn⟩
instance:Sub PE:=⟨fun a b=>PE.pa a (PE.pn b)⟩
def ev{α:Type}[Cr α](r:Nat->α):PE->α
 |v n=>r n
 |pa a b=>Cr.add (a.ev r) (b.ev r)
 |pm a b=>Cr.mul (a.ev r) (b.ev r)
 |pn a=>Cr.neg (a.ev r)
 |p0=>Cr.zero
 |p1=>Cr.one
abbrev Mo:=Bool×List Nat
def Vq{α:Type}[Cr α](r:Nat->α):List Nat->α
 |[]=>Cr.one
 |n::l=>Cr.mul (r n) (Vq r l)
def moE{α:Type}[Cr α](r:Nat->α)(m:Mo):α:=if m.1 then Cr.neg (Vq r m.2)else Vq r m.2
def smE{α:Type}[Cr α](r:Nat->α):List Mo->α
 |[]=>Cr.zero
 |m::l=>Cr.add (moE r m) (smE r l)
def Zhy(n:Nat):List Nat->List Nat
 |[]=>[n]
 |m::l=>if Nat.ble n m then n::m::l else m::Zhy n l
def mulN:List Nat->List Nat->List Nat
 |[],b=>b
 |n::a,b=>Zhy n (mulN a b)
def ltL:List Nat->List Nat->Bool
 |[],[]=>false
 |[],_::_=>true
 |_::_,[]=>false
 |a::aq,b::bs=>if a==b then ltL aq bs else Nat.blt a b
def Qu0(m:Mo):List Mo->List Mo
 |[]=>[m]
 |k::l=>if m.2==k.2 then(if m.1==k.1 then m::k::l else l)else if ltL m.2 k.2 then m::k::l else k::Qu0 m l
def Qxv:List Mo->List Mo->List Mo
 |[],b=>b
 |m::a,b=>Qu0 m (Qxv a b)
def Zui(l:List Mo):List Mo:=l.map fun m=>(!m.1,m.2)
def Zmi(m k:Mo):Mo:=(m.1 != k.1,mulN m.2 k.2)
def Zlr(m:Mo):List Mo->List Mo
 |[]=>[]
 |k::l=>Qu0 (Zmi m k) (Zlr m l)
def Zp1:List Mo->List Mo->List Mo
 |[],_=>[]
 |m::a,b=>Qxv (Zlr m b) (Zp1 a b)
def nf:PE->List Mo
 |v n=>[(false,[n])]
 |pa a b=>Qxv a.nf b.nf
 |pm a b=>Zp1 a.nf b.nf
 |pn a=>Zui a.nf
 |p0=>[]
 |p1=>[(false,[])]
section
variable {α:Type}[Cr α](r:Nat->α)
open Cr
theorem Zdl(n:Nat):∀l,Vq r (Zhy n l)=mul (r n) (Vq r l)
 |[]=>rfl
 |m::l=>by
  unfold Zhy;split
  ·rfl
  ·show mul (r m) (Vq r (Zhy n l))=mul (r n) (mul (r m) (Vq r l));rw[Zdl n l,mul_left_comm]
theorem Qga:∀a b,Vq r (mulN a b)=mul (Vq r a) (Vq r b)
 |[],b=>by show Vq r b=mul one (Vq r b);rw[mul_comm,mul_one]
 |n::a,b=>by
  show Vq r (Zhy n (mulN a b))=mul (mul (r n) (Vq r a)) (Vq r b);rw[Zdl,Qga a b,mul_assoc]
theorem Ztx{m k:Mo}(h:m.2=k.2)(h1:m.1≠k.1):add (moE r m) (moE r k)=zero:=by
 obtain⟨a,l⟩:=m;obtain⟨b,l'⟩:=k;cases h;cases a <;> cases b <;> first|exact absurd rfl h1|skip
 ·show add (Vq r l) (neg (Vq r l))=zero;exact add_neg _
 ·show add (neg (Vq r l)) (Vq r l)=zero;rw[add_comm];exact add_neg _
theorem Qsl(m:Mo):∀l,smE r (Qu0 m l)=add (moE r m) (smE r l)
 |[]=>rfl
 |k::l=>by
  unfold Qu0;split
  ·rename_i h;rw[beq_iff_eq]at h;split
   ·rfl
   ·rename_i h1;show smE r l=add (moE r m) (add (moE r k) (smE r l));rw[<- add_assoc,Ztx r h (fun hc=>h1 (beq_iff_eq.2 hc)),zero_add]
  ·split
   ·rfl
   ·show add (moE r k) (smE r (Qu0 m l))=add (moE r m) (add (moE r k) (smE r l));rw[Qsl m l,Wx]
theorem Qs0:∀a b,smE r (Qxv a b)=add (smE r a) (smE r b)
 |[],b=>by show smE r b=add zero (smE r b);rw[zero_add]
 |m::a,b=>by
  show smE r (Qu0 m (Qxv a b))=add (add (moE r m) (smE r a)) (smE r b);rw[Qsl,Qs0 a b,add_assoc]
theorem Zrl(m:Mo):moE r (!m.1,m.2)=neg (moE r m):=by
 obtain⟨a,l⟩:=m;cases a
 ·rfl
 ·show Vq r l=neg (neg (Vq r l));rw[neg_neg]
theorem Zba:∀l,smE r (Zui l)=neg (smE r l)
 |[]=>(neg_zero).symm
 |m::l=>by
  show add (moE r (!m.1,m.2)) (smE r (Zui l))=neg (add (moE r m) (smE r l));rw[Zrl,Zba l,Zut]
theorem Zjq(m k:Mo):moE r (Zmi m k)=mul (moE r m) (moE r k):=by
 obtain⟨a,l⟩:=m;obtain⟨b,l'⟩:=k;cases a <;> cases b
 ·exact Qga r l l'
 ·show neg (Vq r (mulN l l'))=mul (Vq r l) (neg (Vq r l'));rw[Qga,mul_neg]
 ·show neg (Vq r (mulN l l'))=mul (neg (Vq r l)) (Vq r l');rw[Qga,neg_mul]
 ·show Vq r (mulN l l')=mul (neg (Vq r l)) (neg (Vq r l'));rw[Qga,neg_mul,mul_neg,neg_neg]
theorem Zbb(m:Mo):∀l,smE r (Zlr m l)=mul (moE r m) (smE r l)
 |[]=>(mul_zero _).symm
 |k::l=>by
  show smE r (Qu0 (Zmi m k) (Zlr m l))=mul (moE r m) (add (moE r k) (smE r l));rw[Qsl,Zbb m l,Zjq,mul_add]
theorem Zdw:∀a b,smE r (Zp1 a b)=mul (smE r a) (smE r b)
 |[],b=>by show zero=mul zero (smE r b);rw[mul_comm,mul_zero]
 |m::a,b=>by
  show smE r (Qxv (Zlr m b) (Zp1 a b))=mul (add (moE r m) (smE r a)) (smE r b);rw[Qs0,Zbb,Zdw a b,mul_comm (add _ _),mul_add,mul_comm (moE r m),mul_comm (smE r a)]
theorem Qlp:∀a:PE,smE r a.nf=a.ev r
 |v n=>by show add (mul (r n) one) zero=r n;rw[add_zero,mul_one]
 |.pa a b=>by show smE r (Qxv a.nf b.nf)=_;rw[Qs0,Qlp a,Qlp b];rfl
 |.pm a b=>by show smE r (Zp1 a.nf b.nf)=_;rw[Zdw,Qlp a,Qlp b];rfl
 |.pn a=>by show smE r (Zui a.nf)=_;rw[Zba,Qlp a];rfl
 |.p0=>rfl
 |.p1=>by show add one zero=one;rw[add_zero]
end
def eqL:List Mo->List Mo->Bool
 |[],[]=>true
 |a::aq,b::bs=>a.1==b.1&&(a.2==b.2&&eqL aq bs)
 |_,_=>false
theorem Zkb:∀ {a b:List Mo},eqL a b=true->a=b
 |[],[],_=>rfl
 |a::aq,b::bs,h=>by
  simp only[eqL,Bool.and_eq_true,beq_iff_eq]at h;rw[Zkb h.2.2,Prod.ext h.1 h.2.1]
 |[],_::_,h=>by simp[eqL]at h
 |_::_,[],h=>by simp[eqL]at h
theorem same{α:Type}[Cr α](r:Nat->α)(a b:PE)(h:eqL a.nf b.nf=true):a.ev r=b.ev r:=by
 rw[<- Qlp r a,<- Qlp r b,Zkb h]
end PE
def rho{α:Type}[Cr α](l:List α)(n:Nat):α:=match l with
 |[]=>Cr.zero
 |a::r=>match n with|0=>a|n+1=>rho r n
end Go.Sx
namespace Go.Sx
open Cr
class Fd (α:Type) extends Cr α where
 inv_ex:∀a:α,a≠Cr.zero->∃b,Cr.mul a b=Cr.one
 one_ne:(Cr.one:α)≠Cr.zero
 two_ne:Cr.add (Cr.one:α) Cr.one≠Cr.zero
section
variable {F:Type}[Fd F]
theorem Xp{a b:F}(ha:a≠0)(hb:b≠0):a*b≠0:=fun h=>by
 obtain⟨i,hi⟩:=Fd.inv_ex a ha;refine hb ?_;have h2:i*(a*b)=i*0:=by rw[h]
 have h3:i*(a*b)=b:=by
  show mul i (mul a b)=b;rw[<- mul_assoc,mul_comm i a,hi,mul_comm,mul_one]
 rw[<- h3,h2];exact mul_zero _
theorem Qbr{a b:F}(h:a*b=0):a=0∨b=0:=by
 by_cases ha:a=0
 ·exact .inl ha
 ·by_cases hb:b=0
  ·exact .inr hb
  ·exact absurd h (Xp ha hb)
end
def PS(F:Type):Type:=Nat->F
section
variable {F:Type}[Cr F]
def sh(f:Nat->F):Nat->F:=fun i=>f (i+1)
def J9(f g:Nat->F):Nat->F
 |0=>mul (f 0) (g 0)
 |n+1=>add (mul (f 0) (g (n+1))) (J9 (fun i=>f (i+1)) g n)
theorem Zyt(g:Nat->F):∀(n:Nat) (f:Nat->F),J9 f g (n+1)=add (mul (f (n+1)) (g 0)) (J9 f (sh g) n)
 |0,f=>by
  show add (mul (f 0) (g 1)) (mul (f 1) (g 0))=add (mul (f 1) (g 0)) (mul (f 0) (g 1));rw[add_comm]
 |n+1,f=>by
  show add (mul (f 0) (g (n+2))) (J9 (fun i=>f (i+1)) g (n+1))=add (mul (f (n+2)) (g 0)) (add (mul (f 0) (g (n+2))) (J9 (fun i=>f (i+1)) (sh g) n));rw[Zyt g n,Wx]
theorem Qc7:∀(n:Nat) (f g:Nat->F),J9 f g n=J9 g f n
 |0,f,g=>mul_comm _ _
 |n+1,f,g=>by
  rw[Zyt f n g];show add (mul (f 0) (g (n+1))) (J9 (fun i=>f (i+1)) g n)=_;rw[Qc7 n,mul_comm (f 0)];rfl
theorem Qq8(g h:Nat->F):∀(n:Nat) (f:Nat->F),J9 f (fun i=>add (g i) (h i)) n=add (J9 f g n) (J9 f h n)
 |0,f=>mul_add _ _ _
 |n+1,f=>by
  show add (mul (f 0) (add (g (n+1)) (h (n+1)))) (J9 (fun i=>f (i+1)) (fun i=>add (g i) (h i)) n)=_;rw[Qq8 g h n,mul_add];show _=add (add (mul (f 0) (g (n+1))) _) (add (mul (f 0) (h (n+1))) _);rw[add_assoc,add_assoc,Wx (mul (f 0) (h (n+1)))]
theorem Zq1(c:F)(g:Nat->F):∀(n:Nat) (f:Nat->F),J9 (fun i=>mul c (f i)) g n=mul c (J9 f g n)
 |0,f=>mul_assoc _ _ _
 |n+1,f=>by
  show add (mul (mul c (f 0)) (g (n+1))) (J9 (fun i=>mul c (f (i+1))) g n)=mul c (add (mul (f 0) (g (n+1))) (J9 (fun i=>f (i+1)) g n));rw[Zq1 c g n (fun i=>f (i+1)),mul_assoc,mul_add]
theorem Xco(f h g:Nat->F)(n:Nat):J9 (fun i=>add (f i) (h i)) g n=add (J9 f g n) (J9 h g n):=by
 rw[Qc7,Qq8,Qc7 n g f,Qc7 n g h]
theorem Qy8(g h:Nat->F):∀(n:Nat) (f:Nat->F),J9 (J9 f g) h n=J9 f (J9 g h) n
 |0,f=>mul_assoc _ _ _
 |n+1,f=>by
  have e:J9 (fun i=>J9 f g (i+1)) h n=add (mul (f 0) (J9 (fun i=>g (i+1)) h n)) (J9 (J9 (fun i=>f (i+1)) g) h n):=by
   have:(fun i=>J9 f g (i+1))=fun i=>add (mul (f 0) (g (i+1))) (J9 (fun i=>f (i+1)) g i):=rfl
   rw[this,Xco (fun i=>mul (f 0) (g (i+1))) (J9 (fun i=>f (i+1)) g) h n,Zq1 (f 0) h n (fun i=>g (i+1))]
  show add (mul (mul (f 0) (g 0)) (h (n+1))) (J9 (fun i=>J9 f g (i+1)) h n)=add (mul (f 0) (add (mul (g 0) (h (n+1))) (J9 (fun i=>g (i+1)) h n))) (J9 (fun i=>f (i+1)) (J9 g h) n);rw[e,Qy8 g h n (fun i=>f (i+1)),mul_add,mul_assoc,add_assoc]
def Zht:Nat->F:=fun i=>match i with|0=>one|_+1=>zero
theorem Zp0(g:Nat->F):∀n,J9 (fun _=>zero) g n=zero
 |0=>by show mul zero (g 0)=zero;rw[mul_comm,mul_zero]
 |n+1=>by
  show add (mul zero (g (n+1))) (J9 (fun _=>zero) g n)=zero;rw[Zp0 g n,add_zero,mul_comm,mul_zero]
theorem Qtp(g:Nat->F):∀n,J9 Zht g n=g n
 |0=>by show mul one (g 0)=g 0;rw[mul_comm,mul_one]
 |n+1=>by
  show add (mul one (g (n+1))) (J9 (fun _=>zero) g n)=g (n+1);rw[Zp0,add_zero,mul_comm,mul_one]
instance:Cr (PS F) where
 add f g:=fun i=>add (f i) (g i)
 mul f g:=J9 f g
 neg f:=fun i=>neg (f i)
 zero:=fun _=>zero
 one:=Zht
 add_assoc a b c:=funext fun i=>add_assoc _ _ _
 add_comm a b:=funext fun i=>add_comm _ _
 add_zero a:=funext fun i=>add_zero _
 add_neg a:=funext fun i=>add_neg _
 mul_assoc a b c:=funext fun i=>Qy8 b c i a
 mul_comm a b:=funext fun i=>Qc7 i a b
 mul_one a:=funext fun i=>(Qc7 i a Zht).trans (Qtp a i)
 mul_add a b c:=funext fun i=>Qq8 b c i a
def dle(n:Nat)(f:Nat->F):Prop:=∀i,n<i->f i=zero
theorem Qba{m n:Nat}{f:Nat->F}(h:dle m f)(hm:m<=n):dle n f:=fun i hi=>h i (by omega)
theorem Qk0{n:Nat}{f g:Nat->F}(hf:dle n f)(hg:dle n g):dle n (fun i=>add (f i) (g i)):=fun i hi=>by
 show add (f i) (g i)=zero;rw[hf i hi,hg i hi,add_zero]
theorem Zr6{n:Nat}{f:Nat->F}(hf:dle n f):dle n (fun i=>neg (f i)):=fun i hi=>by
 show neg (f i)=zero;rw[hf i hi,neg_zero]
theorem Zde{f:Nat->F}(h:dle 0 f)(g:Nat->F):∀n,J9 f g n=mul (f 0) (g n)
 |0=>rfl
 |n+1=>by
  show add (mul (f 0) (g (n+1))) (J9 (fun i=>f (i+1)) g n)=_;rw[show(fun i=>f (i+1))=fun _=>zero from funext fun i=>h (i+1) (by omega),Zp0,add_zero]
theorem Qzn{n:Nat}{g:Nat->F}(hg:dle n g):∀(m:Nat) (f:Nat->F),dle m f->dle (m+n) (J9 f g)/\J9 f g (m+n)=mul (f m) (g n)
 |0,f,hf=>by
  refine⟨fun i hi=>?_,?_⟩
  ·rw[Zde hf,hg i (by omega),mul_zero]
  ·rw[Zde hf,Nat.zero_add]
 |m+1,f,hf=>by
  obtain⟨h1,h2⟩:=Qzn hg m (fun i=>f (i+1)) (fun i hi=>hf (i+1) (by omega));refine⟨fun i hi=>?_,?_⟩
  ·obtain⟨j,rfl⟩:∃j,i=j+1:=⟨i-1,by omega⟩
   show add (mul (f 0) (g (j+1))) (J9 (fun i=>f (i+1)) g j)=zero;rw[hg (j+1) (by omega),h1 j (by omega),mul_zero,add_zero]
  ·rw[show m+1+n=(m+n)+1 by omega];show add (mul (f 0) (g (m+n+1))) (J9 (fun i=>f (i+1)) g (m+n))=_;rw[hg (m+n+1) (by omega),h2,mul_zero,zero_add]
def hE(x:F):Nat->(Nat->F)->F
 |0,f=>f 0
 |n+1,f=>add (f 0) (mul x (hE x n (fun i=>f (i+1))))
theorem Xen(x:F):∀n,hE x n (fun _=>zero)=zero
 |0=>rfl
 |n+1=>by show add zero (mul x (hE x n (fun _=>zero)))=zero;rw[Xen x n,mul_zero,add_zero]
theorem Zcm(x:F):∀(n:Nat) (f:Nat->F),dle n f->∀k,hE x (n+k) f=hE x n f
 |0,f,h,0=>rfl
 |0,f,h,k+1=>by
  rw[show 0+(k+1)=(0+k)+1 by omega];show add (f 0) (mul x (hE x (0+k) (fun i=>f (i+1))))=f 0;rw[show(fun i=>f (i+1))=fun _=>zero from funext fun i=>h (i+1) (by omega),Xen,mul_zero,add_zero]
 |n+1,f,h,k=>by
  rw[show n+1+k=(n+k)+1 by omega];show add (f 0) (mul x (hE x (n+k) (fun i=>f (i+1))))=add (f 0) (mul x (hE x n (fun i=>f (i+1))));rw[Zcm x n _ (fun i hi=>h (i+1) (by omega)) k]
theorem Xb8{x:F}{m n:Nat}{f:Nat->F}(hm:dle m f)(hn:dle n f):hE x m f=hE x n f:=by
 rcases Nat.le_total m n with h|h
 ·obtain⟨k,rfl⟩:=Nat.exists_eq_add_of_le h;exact(Zcm x m f hm k).symm
 ·obtain⟨k,rfl⟩:=Nat.exists_eq_add_of_le h;exact Zcm x n f hn k
theorem Qyw(x:F):∀(n:Nat) (f g:Nat->F),hE x n (fun i=>add (f i) (g i))=add (hE x n f) (hE x n g)
 |0,f,g=>rfl
 |n+1,f,g=>by
  show add (add (f 0) (g 0)) (mul x (hE x n (fun i=>add (f (i+1)) (g (i+1)))))=add (add (f 0) _) (add (g 0) _);rw[Qyw x n (fun i=>f (i+1)) (fun i=>g (i+1)),mul_add,add_assoc,add_assoc,Wx (g 0)]
theorem Zon(x c:F):∀(n:Nat) (f:Nat->F),hE x n (fun i=>mul c (f i))=mul c (hE x n f)
 |0,f=>rfl
 |n+1,f=>by
  show add (mul c (f 0)) (mul x (hE x n (fun i=>mul c (f (i+1)))))=mul c (add (f 0) _);rw[Zon x c n (fun i=>f (i+1)),mul_add,mul_left_comm]
theorem Zn3{x:F}{n:Nat}{g:Nat->F}(hg:dle n g):∀(m:Nat) (f:Nat->F),dle m f->hE x (m+n) (J9 f g)=mul (hE x m f) (hE x n g)
 |0,f,hf=>by
  rw[show J9 f g=fun i=>mul (f 0) (g i)from funext fun i=>Zde hf g i,Zon,Nat.zero_add];rfl
 |m+1,f,hf=>by
  have hf':dle m (fun i=>f (i+1)):=fun i hi=>hf (i+1) (by omega)
  have ih:=Zn3 (x:=x) hg m (fun i=>f (i+1)) hf';rw[show m+1+n=(m+n)+1 by omega];show add (mul (f 0) (g 0)) (mul x (hE x (m+n) (fun i=>add (mul (f 0) (g (i+1))) (J9 (fun i=>f (i+1)) g i))))=mul (add (f 0) (mul x (hE x m (fun i=>f (i+1))))) (hE x n g);rw[Qyw x _ (fun i=>mul (f 0) (g (i+1))),Zon x (f 0) _ (fun i=>g (i+1)),ih];have hst:add (g 0) (mul x (hE x (m+n) (fun i=>g (i+1))))=hE x n g:=by
   have:=Zcm x n g hg (m+1);rw[show n+(m+1)=(m+n)+1 by omega]at this;exact this
  rw[mul_comm (add (f 0) _),mul_add,<- hst];generalize hE x (m+n) (fun i=>g (i+1))=G;generalize hE x m (fun i=>f (i+1))=K;generalize g 0=g0;generalize f 0=f0;exact PE.same (rho [f0,g0,x,G,K]) (PE.v 0*PE.v 1+(PE.v 2*(PE.v 0*PE.v 3)+PE.v 2*(PE.v 4*(PE.v 1+PE.v 2*PE.v 3)))) ((PE.v 1+PE.v 2*PE.v 3)*(PE.v 0+PE.v 2*PE.v 4)) rfl
end
def Po(F:Type)[Cr F]:Type:={f:Nat->F // ∃n,dle n f }
section
variable {F:Type}[Cr F]
theorem Bo{p q:Po F}(h:∀i,p.1 i=q.1 i):p=q:=Subtype.ext (funext h)
instance:Cr (Po F) where
 add p q:=⟨fun i=>add (p.1 i) (q.1 i),by
  obtain⟨m,hm⟩:=p.2;obtain⟨n,hn⟩:=q.2;exact⟨m+n,Qk0 (Qba hm (by omega)) (Qba hn (by omega))⟩⟩
 mul p q:=⟨J9 p.1 q.1,by
  obtain⟨m,hm⟩:=p.2;obtain⟨n,hn⟩:=q.2;exact⟨m+n,(Qzn hn m _ hm).1⟩⟩
 neg p:=⟨fun i=>neg (p.1 i),by
  obtain⟨m,hm⟩:=p.2;exact⟨m,Zr6 hm⟩⟩
 zero:=⟨fun _=>zero,0,fun _ _=>rfl⟩
 one:=⟨Zht,0,fun i hi=>by match i,hi with|i+1,_=>rfl⟩
 add_assoc a b c:=Subtype.ext (funext fun i=>add_assoc _ _ _)
 add_comm a b:=Subtype.ext (funext fun i=>add_comm _ _)
 add_zero a:=Subtype.ext (funext fun i=>add_zero _)
 add_neg a:=Subtype.ext (funext fun i=>add_neg _)
 mul_assoc a b c:=Subtype.ext (funext fun i=>Qy8 b.1 c.1 i a.1)
 mul_comm a b:=Subtype.ext (funext fun i=>Qc7 i a.1 b.1)
 mul_one a:=Subtype.ext (funext fun i=>(Qc7 i a.1 Zht).trans (Qtp a.1 i))
 mul_add a b c:=Subtype.ext (funext fun i=>Qq8 b.1 c.1 i a.1)
def Cc(c:F):Po F:=⟨fun i=>match i with|0=>c|_+1=>zero,0,fun i hi=>by match i,hi with|i+1,_=>rfl⟩
def Xx:Po F:=⟨fun i=>match i with|1=>one|_=>zero,1,fun i hi=>by match i,hi with|i+2,_=>rfl⟩
theorem Uv(c d:F):Cc (c+d)=Cc c+Cc d:=Bo fun i=>by
 match i with
 |0=>rfl
 |i+1=>exact(add_zero _).symm
theorem Qe3(c:F):Cc (-c)=-Cc c:=Bo fun i=>by
 match i with
 |0=>rfl
 |i+1=>exact neg_zero.symm
theorem Ym(c d:F):Cc (c*d)=Cc c*Cc d:=Bo fun i=>by
 show _=J9 (Cc c).1 (Cc d).1 i;rw[Zde (fun i hi=>by match i,hi with|i+1,_=>rfl)]
 match i with
 |0=>rfl
 |i+1=>exact(mul_zero _).symm
theorem Zvg:(Cc 0:Po F)=0:=Bo fun i=>by
 match i with
 |0=>rfl
 |i+1=>rfl
theorem Xcp:(Cc 1:Po F)=1:=Bo fun i=>by
 match i with
 |0=>rfl
 |i+1=>rfl
theorem Qyt(p:Po F)(i:Nat):(Xx*p).1 (i+1)=p.1 i:=by
 show add (mul zero (p.1 (i+1))) (J9 (fun i=>(Xx:Po F).1 (i+1)) p.1 i)=_;rw[show(fun i=>(Xx:Po F).1 (i+1))=Zht from funext fun i=>by
  match i with
  |0=>rfl
  |i+1=>rfl]
 rw[Qtp,mul_comm,mul_zero,zero_add]
theorem Zci(p:Po F):(Xx*p).1 0=zero:=by
 show mul zero (p.1 0)=zero;rw[mul_comm,mul_zero]
noncomputable def Yf(x:F)(p:Po F):F:=hE x p.2.choose p.1
theorem Qdb{x:F}{p:Po F}{n:Nat}(h:dle n p.1):Yf x p=hE x n p.1:=Xb8 p.2.choose_spec h
theorem Ya(x:F)(p q:Po F):Yf x (p+q)=Yf x p+Yf x q:=by
 obtain⟨m,hm⟩:=p.2;obtain⟨n,hn⟩:=q.2;have h1:dle (m+n) p.1:=Qba hm (by omega);have h2:dle (m+n) q.1:=Qba hn (by omega);rw[Qdb (p:=p+q) (Qk0 h1 h2),Qdb h1,Qdb h2];exact Qyw x _ _ _
theorem Xq(x:F)(p q:Po F):Yf x (p*q)=Yf x p*Yf x q:=by
 obtain⟨m,hm⟩:=p.2;obtain⟨n,hn⟩:=q.2;rw[Qdb (p:=p*q) (Qzn hn m _ hm).1,Qdb hm,Qdb hn];exact Zn3 hn m _ hm
theorem Vr(x c:F):Yf x (Cc c)=c:=Qdb (n:=0) fun i hi=>by match i,hi with|i+1,_=>rfl
theorem Qmc(x:F):Yf x (0:Po F)=0:=by rw[<- Zvg,Vr]
theorem Zwt(x:F):Yf x (1:Po F)=1:=by rw[<- Xcp,Vr]
theorem Qme(x:F):Yf x (Xx:Po F)=x:=by
 rw[Qdb (n:=1) (fun i hi=>by match i,hi with|i+2,_=>rfl)];show add zero (mul x one)=x;rw[mul_one,zero_add]
theorem Qhj(x:F)(p:Po F):Yf x (-p)=-Yf x p:=by
 refine Yl ?_;have:=Ya x p (-p);rw[show p + -p=(0:Po F)from add_neg p,Qmc]at this;exact this.symm
theorem Xe0(x:F):∀(n:Nat) (p:Po F),dle n p.1->∃q:Po F,p=(Xx + -Cc x)*q+Cc (Yf x p)
 |0,p,h=>by
  refine⟨0,?_⟩;have hp:p=Cc (p.1 0):=Bo fun i=>by
   match i with
   |0=>rfl
   |i+1=>exact h (i+1) (by omega)
  have h2:Yf x p=p.1 0:=by rw[hp,Vr];rfl
  rw[h2,<- hp];exact PE.same (rho [p,Xx,Cc x]) (PE.v 0) ((PE.v 1 + -PE.v 2)*PE.p0+PE.v 0) rfl
 |n+1,p,h=>by
  let s:Po F:=⟨fun i=>p.1 (i+1),n,fun i hi=>h (i+1) (by omega)⟩
  obtain⟨q,hq⟩:=Xe0 x n s (fun i hi=>h (i+1) (by omega));have hp:p=Cc (p.1 0)+Xx*s:=Bo fun i=>by
   match i with
   |0 =>
    show p.1 0=add (p.1 0) ((Xx*s).1 0);rw[Zci,add_zero]
   |i+1 =>
    show p.1 (i+1)=add zero ((Xx*s).1 (i+1));rw[Qyt,zero_add]
  have h2:Yf x p=p.1 0+x*Yf x s:=by
   have h3:Yf x p=Yf x (Cc (p.1 0)+Xx*s):=congrArg _ hp;rw[h3,Ya,Xq,Vr,Qme]
  refine⟨Xx*q+Cc (Yf x s),?_⟩;rw[h2,Uv,Ym];have h4:p=Cc (p.1 0)+Xx*((Xx + -Cc x)*q+Cc (Yf x s)):=by rw[<- hq];exact hp
  refine h4.trans ?_;exact PE.same (rho [Cc (p.1 0),Xx,Cc x,q,Cc (Yf x s)]) (PE.v 0+PE.v 1*((PE.v 1 + -PE.v 2)*PE.v 3+PE.v 4)) ((PE.v 1 + -PE.v 2)*(PE.v 1*PE.v 3+PE.v 4)+(PE.v 0+PE.v 2*PE.v 4)) rfl
theorem Zeg(x:F)(p:Po F):∃q:Po F,p=(Xx + -Cc x)*q+Cc (Yf x p):=by
 obtain⟨n,hn⟩:=p.2;exact Xe0 x n p hn
def dg(n:Nat)(p:Po F):Prop:=dle n p.1/\p.1 n≠zero
theorem Zw1:∀(n:Nat) (p:Po F),dle n p.1->p≠0->∃m,dg m p
 | 0,p,h,hp=>⟨0,h,fun h0=>hp (Bo fun i=>by
   match i with
   |0=>exact h0
   |i+1=>exact h (i+1) (by omega))⟩
 |n+1,p,h,hp=>by
  by_cases h0:p.1 (n+1)=zero
  ·exact Zw1 n p (fun i hi=>by
    by_cases hc:i=n+1
    ·rw[hc];exact h0
    ·exact h i (by omega)) hp
  ·exact⟨n+1,h,h0⟩
theorem Qh3{p:Po F}(hp:p≠0):∃m,dg m p:=by
 obtain⟨n,hn⟩:=p.2;exact Zw1 n p hn hp
theorem Zx6{m n:Nat}{p:Po F}(h:dg m p)(h2:dle n p.1):m<=n:=by
 refine Classical.byContradiction fun hc=>h.2 (h2 m (by omega))
theorem Zt3{m n:Nat}{p:Po F}(h:dg m p)(h2:dg n p):m=n:=Nat.le_antisymm (Zx6 h h2.1) (Zx6 h2 h.1)
theorem Zyf{n:Nat}{p:Po F}(h:dg n p):p≠0:=fun h0=>h.2 (by rw[h0];rfl)
end
section
variable {F:Type}[Fd F]
theorem Qiz{m n:Nat}{p q:Po F}(hp:dg m p)(hq:dg n q):dg (m+n) (p*q):=by
 obtain⟨h1,h2⟩:=Qzn hq.1 m _ hp.1;refine⟨h1,?_⟩;show J9 p.1 q.1 (m+n)≠zero;rw[h2];exact Xp hp.2 hq.2
theorem Qq2{p q:Po F}(hp:p≠0)(hq:q≠0):p*q≠0:=by
 obtain⟨m,hm⟩:=Qh3 hp;obtain⟨n,hn⟩:=Qh3 hq;exact Zyf (Qiz hm hn)
theorem Zei{a b c:Po F}(ha:a≠0)(h:a*b=a*c):b=c:=by
 refine Classical.byContradiction fun hc=>?_
 have h3:b + -c≠0:=fun h0=>hc (by
  have:=Yl (a:=neg c) (b:=b) (by rw[add_comm];exact h0);rw[this,neg_neg])
 refine Qq2 ha h3 ?_;show mul a (add b (neg c))=zero;rw[mul_add,mul_neg,show mul a b=mul a c from h,add_neg]
end
def cub{F:Type}[Cr F](a b:F):Po F:=Xx*Xx*Xx+Cc a*Xx+Cc b
section
variable {F:Type}[Cr F]
theorem Zzq(a b:F):dle 3 (cub a b).1/\(cub a b).1 3=one:=by
 have hx:dle 1 (Xx:Po F).1:=fun i hi=>by match i,hi with|i+2,_=>rfl
 have hc:∀c:F,dle 0 (Cc c).1:=fun c i hi=>by match i,hi with|i+1,_=>rfl
 have h2:=Qzn hx 1 (Xx:Po F).1 hx;have h3:=Qzn hx 2 (Xx*Xx:Po F).1 h2.1;have h4:=Qzn hx 0 (Cc a).1 (hc a);refine⟨Qk0 (Qk0 h3.1 (Qba h4.1 (by omega))) (Qba (hc b) (by omega)),?_⟩;show add (add ((Xx*Xx*Xx:Po F).1 3) ((Cc a*Xx:Po F).1 3)) ((Cc b).1 3)=one;rw[show(Cc b).1 3=zero from rfl,show(Cc a*Xx:Po F).1 3=zero from h4.1 3 (by omega),add_zero,add_zero];refine h3.2.trans ?_;show mul ((Xx*Xx:Po F).1 2) one=one;rw[mul_one];refine h2.2.trans ?_;show mul one one=one;exact mul_one _
theorem Zrq(x a b:F):Yf x (cub a b)=x*x*x+a*x+b:=by
 unfold cub;rw[Ya,Ya,Xq,Xq,Xq,Vr,Vr,Qme]
end
structure Rc (F:Type) [Cr F] (f:Po F) where
 u:Po F
 v:Po F
section
variable {F:Type}[Cr F]{f:Po F}
theorem Y7{h k:Rc F f}(h1:h.u=k.u)(h2:h.v=k.v):h=k:=by cases h;cases k;cases h1;cases h2;rfl
instance:Cr (Rc F f) where
 add h k:=⟨h.u+k.u,h.v+k.v⟩
 mul h k:=⟨h.u*k.u+f*(h.v*k.v),h.u*k.v+h.v*k.u⟩
 neg h:=⟨-h.u,-h.v⟩
 zero:=⟨0,0⟩
 one:=⟨1,0⟩
 add_assoc a b c:=Y7 (add_assoc _ _ _) (add_assoc _ _ _)
 add_comm a b:=Y7 (add_comm _ _) (add_comm _ _)
 add_zero a:=Y7 (add_zero _) (add_zero _)
 add_neg a:=Y7 (add_neg _) (add_neg _)
 mul_assoc a b c:=Y7
  (PE.same (rho [a.u,a.v,b.u,b.v,c.u,c.v,f]) ((PE.v 0*PE.v 2+PE.v 6*(PE.v 1*PE.v 3))*PE.v 4+PE.v 6*((PE.v 0*PE.v 3+PE.v 1*PE.v 2)*PE.v 5)) (PE.v 0*(PE.v 2*PE.v 4+PE.v 6*(PE.v 3*PE.v 5))+PE.v 6*(PE.v 1*(PE.v 2*PE.v 5+PE.v 3*PE.v 4))) rfl)
  (PE.same (rho [a.u,a.v,b.u,b.v,c.u,c.v,f]) ((PE.v 0*PE.v 2+PE.v 6*(PE.v 1*PE.v 3))*PE.v 5+(PE.v 0*PE.v 3+PE.v 1*PE.v 2)*PE.v 4) (PE.v 0*(PE.v 2*PE.v 5+PE.v 3*PE.v 4)+PE.v 1*(PE.v 2*PE.v 4+PE.v 6*(PE.v 3*PE.v 5))) rfl)
 mul_comm a b:=Y7
  (PE.same (rho [a.u,a.v,b.u,b.v,f]) (PE.v 0*PE.v 2+PE.v 4*(PE.v 1*PE.v 3)) (PE.v 2*PE.v 0+PE.v 4*(PE.v 3*PE.v 1)) rfl)
  (PE.same (rho [a.u,a.v,b.u,b.v,f]) (PE.v 0*PE.v 3+PE.v 1*PE.v 2) (PE.v 2*PE.v 1+PE.v 3*PE.v 0) rfl)
 mul_one a:=Y7
  (PE.same (rho [a.u,a.v,f]) (PE.v 0*PE.p1+PE.v 2*(PE.v 1*PE.p0)) (PE.v 0) rfl)
  (PE.same (rho [a.u,a.v,f]) (PE.v 0*PE.p0+PE.v 1*PE.p1) (PE.v 1) rfl)
 mul_add a b c:=Y7
  (PE.same (rho [a.u,a.v,b.u,b.v,c.u,c.v,f]) (PE.v 0*(PE.v 2+PE.v 4)+PE.v 6*(PE.v 1*(PE.v 3+PE.v 5))) ((PE.v 0*PE.v 2+PE.v 6*(PE.v 1*PE.v 3))+(PE.v 0*PE.v 4+PE.v 6*(PE.v 1*PE.v 5))) rfl)
  (PE.same (rho [a.u,a.v,b.u,b.v,c.u,c.v,f]) (PE.v 0*(PE.v 3+PE.v 5)+PE.v 1*(PE.v 2+PE.v 4)) ((PE.v 0*PE.v 3+PE.v 1*PE.v 2)+(PE.v 0*PE.v 5+PE.v 1*PE.v 4)) rfl)
def Qsd(h:Rc F f):Po F:=h.u*h.u + -(f*(h.v*h.v))
theorem Qw5(h k:Rc F f):Qsd (h*k)=Qsd h*Qsd k :=
 PE.same (rho [h.u,h.v,k.u,k.v,f]) ((PE.v 0*PE.v 2+PE.v 4*(PE.v 1*PE.v 3))*(PE.v 0*PE.v 2+PE.v 4*(PE.v 1*PE.v 3)) + -(PE.v 4*((PE.v 0*PE.v 3+PE.v 1*PE.v 2)*(PE.v 0*PE.v 3+PE.v 1*PE.v 2)))) ((PE.v 0*PE.v 0 + -(PE.v 4*(PE.v 1*PE.v 1)))*(PE.v 2*PE.v 2 + -(PE.v 4*(PE.v 3*PE.v 3)))) rfl
noncomputable def rev(x y:F)(h:Rc F f):F:=Yf x h.u+y*Yf x h.v
theorem Zru(x y:F)(h k:Rc F f):rev x y (h+k)=rev x y h+rev x y k:=by
 show Yf x (h.u+k.u)+y*Yf x (h.v+k.v)=_;rw[Ya,Ya];exact PE.same (rho [Yf x h.u,Yf x k.u,y,Yf x h.v,Yf x k.v]) (PE.v 0+PE.v 1+PE.v 2*(PE.v 3+PE.v 4)) ((PE.v 0+PE.v 2*PE.v 3)+(PE.v 1+PE.v 2*PE.v 4)) rfl
theorem Zrr{x y:F}(hy:y*y=Yf x f)(h k:Rc F f):rev x y (h*k)=rev x y h*rev x y k:=by
 show Yf x (h.u*k.u+f*(h.v*k.v))+y*Yf x (h.u*k.v+h.v*k.u)=_;rw[Ya,Ya,Xq,Xq,Xq,Xq,Xq,<- hy];exact PE.same (rho [Yf x h.u,Yf x k.u,y,Yf x h.v,Yf x k.v]) (PE.v 0*PE.v 1+PE.v 2*PE.v 2*(PE.v 3*PE.v 4)+PE.v 2*(PE.v 0*PE.v 4+PE.v 3*PE.v 1)) ((PE.v 0+PE.v 2*PE.v 3)*(PE.v 1+PE.v 2*PE.v 4)) rfl
end
section
variable {F:Type}[Fd F]{a b:F}
abbrev Cu(F:Type)[Cr F](a b:F):Type:=Rc F (cub a b)
theorem Qsj(p q:Po F)(i:Nat):(p + -q).1 i=p.1 i + -(q.1 i):=rfl
theorem Qh5{n:Nat}(h:Cu F a b)(hn:dle n (Qsd h).1):(∀i,n<2*i->h.u.1 i=zero)/\(∀i,n<2*i+3->h.v.1 i=zero):=by
 obtain⟨u,v⟩:=h;have hf:=Zzq a b;have vv:∀ {c},dg c v->dg (3+(c+c)) (cub a b*(v*v)):=fun {c} hc=>Qiz (p:=cub a b) ⟨hf.1,by rw[hf.2];exact Fd.one_ne⟩ (Qiz hc hc)
 by_cases hu:u=0
 ·by_cases hv:v=0
  ·subst hu;subst hv;exact⟨fun _ _=>rfl,fun _ _=>rfl⟩
  ·obtain⟨c,hc⟩:=Qh3 hv;have h1:=vv hc;have hz:(u*u)=0:=by rw[hu];exact mul_zero _
   have hle:3+(c+c)<=n:=Classical.byContradiction fun hh=>by
    have h2:(u*u + -(cub a b*(v*v))).1 (3+(c+c))=zero:=hn _ (by omega);rw[Qsj,hz]at h2;have h3:(cub a b*(v*v)).1 (3+(c+c))=zero:=by
     have:add zero (neg ((cub a b*(v*v)).1 (3+(c+c))))=zero:=h2;rw[zero_add]at this;rw[<- neg_neg ((cub a b*(v*v)).1 (3+(c+c))),this,neg_zero]
    exact h1.2 h3
   exact⟨fun i _=>by rw[hu];rfl,fun i hi=>hc.1 i (by omega)⟩
 ·obtain⟨d,hd⟩:=Qh3 hu;have hdd:=Qiz hd hd;by_cases hv:v=0
  ·have hz:cub a b*(v*v)=0:=by rw[hv,show(0*0:Po F)=0 from mul_zero _];exact mul_zero _
   have hle:d+d<=n:=Classical.byContradiction fun hh=>by
    have h2:(u*u + -(cub a b*(v*v))).1 (d+d)=zero:=hn _ (by omega);rw[Qsj,hz]at h2;have h3:add ((u*u).1 (d+d)) (neg zero)=zero:=h2;rw[neg_zero,add_zero]at h3;exact hdd.2 h3
   exact⟨fun i hi=>hd.1 i (by omega),fun i _=>by rw[hv];rfl⟩
  ·obtain⟨c,hc⟩:=Qh3 hv;have h1:=vv hc;by_cases hcmp:3+(c+c)<d+d
   ·have hle:d+d<=n:=Classical.byContradiction fun hh=>by
     have h2:(u*u + -(cub a b*(v*v))).1 (d+d)=zero:=hn _ (by omega);rw[Qsj,h1.1 (d+d) hcmp]at h2;have h3:add ((u*u).1 (d+d)) (neg zero)=zero:=h2;rw[neg_zero,add_zero]at h3;exact hdd.2 h3
    exact⟨fun i hi=>hd.1 i (by omega),fun i hi=>hc.1 i (by omega)⟩
   ·have hle:3+(c+c)<=n:=Classical.byContradiction fun hh=>by
     have h2:(u*u + -(cub a b*(v*v))).1 (3+(c+c))=zero:=hn _ (by omega);rw[Qsj,hdd.1 (3+(c+c)) (by omega)]at h2;have h3:(cub a b*(v*v)).1 (3+(c+c))=zero:=by
      have:add zero (neg ((cub a b*(v*v)).1 (3+(c+c))))=zero:=h2;rw[zero_add]at this;rw[<- neg_neg ((cub a b*(v*v)).1 (3+(c+c))),this,neg_zero]
     exact h1.2 h3
    exact⟨fun i hi=>hd.1 i (by omega),fun i hi=>hc.1 i (by omega)⟩
theorem Qv5{p:Po F}(h:∀i,0<i->p.1 i=zero):p=Cc (p.1 0):=Bo fun i=>by
 match i with
 |0=>rfl
 |i+1=>exact h (i+1) (by omega)
theorem Zz8{p:Po F}(h:∀i,1<i->p.1 i=zero):p=Cc (p.1 0)+Cc (p.1 1)*Xx:=Bo fun i=>by
 rw[show Cc (p.1 1)*Xx=Xx*Cc (p.1 1)from mul_comm _ _]
 match i with
 |0=>show p.1 0=add (p.1 0) ((Xx*Cc (p.1 1)).1 0);rw[Zci,add_zero]
 |1=>show p.1 1=add zero ((Xx*Cc (p.1 1)).1 1);rw[Qyt,zero_add];rfl
 |i+2=>show p.1 (i+2)=add zero ((Xx*Cc (p.1 1)).1 (i+1+1));rw[Qyt,zero_add];exact h (i+2) (by omega)
theorem Qzo{v:Po F}(h:∀i,v.1 i=zero):v=0:=Bo h
theorem Zzr{h:Cu F a b}(hn:Qsd h=0):h=0:=by
 obtain⟨h1,h2⟩:=Qh5 (n:=0) h (by rw[hn];exact fun _ _=>rfl);have hv:h.v=0:=Qzo fun i=>h2 i (by omega)
 have hu:=Qv5 (p:=h.u) fun i hi=>h1 i (by omega)
 have h3:h.u*h.u=0:=by
  have:h.u*h.u + -(cub a b*(h.v*h.v))=0:=hn;rw[hv,show(0*0:Po F)=0 from mul_zero _,show cub a b*0=(0:Po F)from mul_zero _,show -(0:Po F)=0 from neg_zero]at this;rw[show h.u*h.u+0=h.u*h.u from add_zero _]at this;exact this
 have hu0:h.u=0:=Classical.byContradiction fun hc=>Qq2 hc hc h3
 exact Y7 hu0 hv
theorem Qr5{h:Cu F a b}(hh:h≠0):Qsd h≠0:=fun hc=>hh (Zzr hc)
theorem Zpd:Qsd (0:Cu F a b)=0:=PE.same (rho [cub a b]) (PE.p0*PE.p0 + -(PE.v 0*(PE.p0*PE.p0))) PE.p0 rfl
theorem Qbi{h k:Cu F a b}(hh:h≠0)(hk:k≠0):h*k≠0:=fun hc=>by
 refine Qq2 (Qr5 hh) (Qr5 hk) ?_;rw[<- Qw5,hc,Zpd]
theorem Qfz{h k l:Cu F a b}(hh:h≠0)(e:h*k=h*l):k=l:=by
 refine Classical.byContradiction fun hc=>?_
 have h3:k + -l≠0:=fun h0=>hc (by
  have:=Yl (a:=neg l) (b:=k) (by rw[add_comm];exact h0);rw[this,neg_neg])
 refine Qbi hh h3 ?_;show mul h (add k (neg l))=zero;rw[mul_add,mul_neg,show mul h k=mul h l from e,add_neg]
def nd(n:Nat)(h:Cu F a b):Prop:=dg n (Qsd h)
theorem Zcl{h:Cu F a b}(hh:h≠0):∃n,nd n h:=Qh3 (Qr5 hh)
theorem Qy4{m n:Nat}{h k:Cu F a b}(hm:nd m h)(hn:nd n k):nd (m+n) (h*k):=by
 unfold nd;rw[Qw5];exact Qiz hm hn
theorem Qr8{m n:Nat}{h:Cu F a b}(hm:nd m h)(hn:nd n h):m=n:=Zt3 hm hn
theorem Zx8{n:Nat}{h:Cu F a b}(hn:nd n h):h≠0:=fun h0=>Zyf hn (by rw[h0,Zpd])
theorem Zzk{n:Nat}{h:Cu F a b}(hn:nd n h)(h1:n<=1):h=⟨Cc (h.u.1 0),0⟩/\h.u.1 0≠zero/\n=0:=by
 obtain⟨hu,hv⟩:=Qh5 h hn.1;have hv0:h.v=0:=Qzo fun i=>hv i (by omega)
 have hu0:=Qv5 (p:=h.u) fun i hi=>hu i (by omega)
 have e:h=⟨Cc (h.u.1 0),0⟩:=Y7 hu0 hv0;have hne:h.u.1 0≠zero:=fun h0=>Zx8 hn (e.trans (by rw[h0];exact Y7 Zvg rfl))
 have hd:nd 0 h:=by
  unfold nd;rw[e];refine⟨fun i hi=>?_,?_⟩
  ·show add ((Cc (h.u.1 0)*Cc (h.u.1 0)).1 i) (neg ((cub a b*(0*0)).1 i))=zero;rw[<- Ym,show(0*0:Po F)=0 from mul_zero _,show cub a b*0=(0:Po F)from mul_zero _]
   match i,hi with
   |i+1,_=>show add zero (neg zero)=zero;rw[neg_zero,add_zero]
  ·show add ((Cc (h.u.1 0)*Cc (h.u.1 0)).1 0) (neg ((cub a b*(0*0)).1 0))≠zero;rw[<- Ym,show(0*0:Po F)=0 from mul_zero _,show cub a b*0=(0:Po F)from mul_zero _];show add (h.u.1 0*h.u.1 0) (neg zero)≠zero;rw[neg_zero,add_zero];exact Xp hne hne
 exact⟨e,hne,Qr8 hn hd⟩
theorem Xat{n:Nat}{h:Cu F a b}(hn:nd n h)(h1:n<=2):h=⟨Cc (h.u.1 0)+Cc (h.u.1 1)*Xx,0⟩:=by
 obtain⟨hu,hv⟩:=Qh5 h hn.1;exact Y7 (Zz8 fun i hi=>hu i (by omega)) (Qzo fun i=>hv i (by omega))
end
inductive Pn (F:Type) where|O|P (x y:F)
section
variable {F:Type}[Fd F]{a b:F}
def Pn.ng:Pn F->Pn F|.O=>.O|.P x y=>.P x (-y)
def Pn.on(a b:F):Pn F->Prop|.O=>True|.P x y=>y*y=x*x*x+a*x+b
theorem Pn.Xju(A:Pn F):A.ng.ng=A:=by
 cases A with
 |O=>rfl
 |P x y=>show Pn.P x (-(-y))=_;rw[show -(-y)=y from neg_neg y]
theorem Pn.Xjk{A:Pn F}(h:A.on a b):A.ng.on a b:=by
 cases A with
 |O=>trivial
 |P x y =>
  show -y * -y=_;rw[show -y * -y=y*y from PE.same (rho [y]) (-PE.v 0 * -PE.v 0) (PE.v 0*PE.v 0) rfl];exact h
def van(A:Pn F)(h:Cu F a b):Prop:=match A with|.O=>True|.P x y=>rev x y h=0
theorem Zuv{A:Pn F}(hA:A.on a b)(r:Cu F a b){h:Cu F a b}(hv:van A h):van A (r*h):=by
 cases A with
 |O=>trivial
 |P x y =>
  show rev x y (r*h)=0;rw[Zrr (by rw[Zrq];exact hA),show rev x y h=0 from hv];exact mul_zero _
inductive Vi:List (Pn F)->Cu F a b->Prop
 |nil (r:Cu F a b):Vi [] r
 |zero (A:Pn F) (L:List (Pn F)):Vi (A::L) 0
 |add {A:Pn F} {L:List (Pn F)} {h k:Cu F a b}:Vi (A::L) h->Vi (A::L) k->Vi (A::L) (h+k)
 |mul {A:Pn F} {L:List (Pn F)} {h k:Cu F a b}:van A h->Vi L k->Vi (A::L) (h*k)
theorem Yk{A:Pn F}{L:List (Pn F)}{C:Cu F a b->Prop}(c0:C 0)(ca:∀h k,C h->C k->C (h+k))(cm:∀h k,van A h->Vi L k->C (h*k)){w:Cu F a b}(hw:Vi (A::L) w):C w:=by
 generalize hM:A::L=M at hw
 induction hw with
 |nil r=>cases hM
 |zero=>exact c0
 |add _ _ ih ih'=>exact ca _ _ (ih hM) (ih' hM)
 |mul hv hk _=>cases hM;exact cm _ _ hv hk
theorem Zwm:∀L:List (Pn F),Vi L (0:Cu F a b)
 |[]=>.nil _
 |A::L=>.zero A L
theorem Zx1{L:List (Pn F)}{h k:Cu F a b}(hh:Vi L h)(hk:Vi L k):Vi L (h+k):=by
 cases L with
 |nil=>exact .nil _
 |cons A L=>exact .add hh hk
theorem rmz(r:Cu F a b):r*0=0:=mul_zero r
theorem rma(r h k:Cu F a b):r*(h+k)=r*h+r*k:=mul_add r h k
theorem rml(r h k:Cu F a b):r*(h*k)=h*(r*k):=mul_left_comm r h k
theorem rms(r h k:Cu F a b):r*h*k=r*(h*k):=mul_assoc r h k
theorem rmc(r h:Cu F a b):r*h=h*r:=mul_comm r h
theorem Qi7:∀(L:List (Pn F)) (r:Cu F a b) {h:Cu F a b},Vi L h->Vi L (r*h)
 |[],r,h,_=>.nil _
 |A::L,r,h,hh=>Yk (C:=fun w=>Vi (A::L) (r*w)) (by rw[rmz];exact .zero A L) (fun h k ih ih'=>by rw[rma];exact .add ih ih') (fun h k hv hk=>by rw[rml];exact .mul hv (Qi7 L r hk)) hh
theorem Xad{A B:Pn F}{L:List (Pn F)}{w:Cu F a b}(hw:Vi (A::B::L) w):Vi (B::A::L) w :=
 Yk (C:=Vi (B::A::L)) (.zero _ _) (fun _ _=>.add) (fun h k hv hk=>Yk (C:=fun k=>Vi (B::A::L) (h*k)) (by rw[rmz];exact .zero _ _) (fun _ _ i j=>by rw[rma];exact .add i j) (fun h' k' hv' hk'=>by rw[rml];exact .mul hv' (.mul hv hk')) hk) hw
theorem Xb9{A:Pn F}{L M:List (Pn F)}(h:∀k:Cu F a b,Vi L k->Vi M k){w:Cu F a b}(hw:Vi (A::L) w):Vi (A::M) w :=
 Yk (C:=Vi (A::M)) (.zero _ _) (fun _ _=>.add) (fun _ k hv hk=>.mul hv (h k hk)) hw
theorem Qm1{L M:List (Pn F)}(h:L.Perm M):∀ {w:Cu F a b},Vi L w->Vi M w:=by
 induction h with
 |nil=>exact fun h=>h
 |cons x _ ih=>exact fun h=>Xb9 (fun _=>ih) h
 |swap x y l=>exact fun h=>Xad h
 |trans _ _ ih ih'=>exact fun h=>ih' (ih h)
theorem Zvw{L:List (Pn F)}{w:Cu F a b}:Vi (Pn.O::L) w↔Vi L w:=by
 refine⟨fun h=>Yk (C:=Vi L) (Zwm L) (fun _ _=>Zx1) (fun h k _ hk=>Qi7 L h hk) h,fun h=>?_⟩;have:=Vi.mul (A:=Pn.O) (h:=(1:Cu F a b)) trivial h;rwa[show(1:Cu F a b)*w=w from by rw[rmc];exact mul_one w]at this
def io(p:Po F):Cu F a b:=⟨p,0⟩
def Yy:Cu F a b:=⟨0,1⟩
theorem Jg(p q:Po F):(io (p*q):Cu F a b)=io p*io q:=Y7
 (PE.same (rho [p,q,cub a b]) (PE.v 0*PE.v 1) (PE.v 0*PE.v 1+PE.v 2*(PE.p0*PE.p0)) rfl)
 (PE.same (rho [p,q]) PE.p0 (PE.v 0*PE.p0+PE.p0*PE.v 1) rfl)
theorem Qe2(p q:Po F):(io (p+q):Cu F a b)=io p+io q:=Y7 rfl (add_zero _).symm
theorem Qhy(p:Po F):(io (-p):Cu F a b)=-io p:=Y7 rfl neg_zero.symm
theorem Xda:(io 1:Cu F a b)=1:=rfl
theorem YY:(Yy:Cu F a b)*Yy=io (cub a b):=Y7
 (PE.same (rho [cub a b]) (PE.p0*PE.p0+PE.v 0*(PE.p1*PE.p1)) (PE.v 0) rfl)
 (PE.same (rho [cub a b]) (PE.p0*PE.p1+PE.p1*PE.p0) PE.p0 rfl)
theorem uv(h:Cu F a b):h=io h.u+io h.v*Yy:=Y7
 (PE.same (rho [h.u,h.v,cub a b]) (PE.v 0) (PE.v 0+(PE.v 1*PE.p0+PE.v 2*(PE.p0*PE.p1))) rfl)
 (PE.same (rho [h.u,h.v,cub a b]) (PE.v 1) (PE.p0+(PE.v 1*PE.p1+PE.p0*PE.p0)) rfl)
def Ax(x:F):Po F:=Xx + -Cc x
theorem Qz9(x y:F)(p:Po F):rev x y (io p:Cu F a b)=Yf x p:=by
 show Yf x p+y*Yf x 0=_;rw[Qmc,show y*0=(0:F)from mul_zero y];exact add_zero _
theorem Qyf(x:F):Yf x (Ax x)=0:=by
 unfold Ax;rw[Ya,Qhj,Qme,Vr];exact add_neg x
theorem Qnv(x:F):Ax x≠0:=fun h=>Fd.one_ne (α:=F) (by
 have h2:(Ax x).1 1=zero:=by rw[h];rfl
 have h3:(Ax x).1 1=one:=by
  show add one (neg zero)=one;rw[neg_zero,add_zero]
 rw[<- h3,h2])
theorem Qul{p:Po F}(h:p≠0):(io p:Cu F a b)≠0:=fun hc=>h (congrArg Rc.u hc)
theorem Qmr(x y:F):van (.P x y) (io (Ax x):Cu F a b):=by
 show rev x y (io (Ax x))=0;rw[Qz9,Qyf]
theorem Quy(x y:F)(h k:Cu F a b):rev x y (h+k)=rev x y h+rev x y k:=Zru x y h k
theorem Zbz(x y:F):van (.P x y) (Yy + -io (Cc y):Cu F a b):=by
 show rev x y (Yy + -io (Cc y))=0;rw[Quy,<- Qhy,Qz9,Qhj,Vr];show Yf x 0+y*Yf x 1 + -y=0;rw[Qmc,Zwt];exact PE.same (rho [y]) (PE.p0+PE.v 0*PE.p1 + -PE.v 0) PE.p0 rfl
theorem Qqn{x y:F}{h:Cu F a b}(hv:van (.P x y) h):∃(w:Cu F a b) (c:F),h=io (Ax x)*w+io (Cc c)*(Yy + -io (Cc y)):=by
 obtain⟨p,hp⟩:=Zeg x h.u;obtain⟨q,hq⟩:=Zeg x h.v;have h0:Yf x h.u+y*Yf x h.v=0:=hv;have hc:Cc (Yf x h.u)=-(Cc y*Cc (Yf x h.v)):=by
  rw[<- Ym,<- Qe3];exact congrArg Cc (Yl (by rw[add_comm];exact h0))
 refine⟨⟨p,q⟩,Yf x h.v,?_⟩;refine(uv h).trans ?_;rw[uv (⟨p,q⟩:Cu F a b)];show io h.u+io h.v*Yy=io (Ax x)*(io p+io q*Yy)+io (Cc (Yf x h.v))*(Yy + -io (Cc y))
 rw[show h.u=Ax x*p + -(Cc y*Cc (Yf x h.v))from by rw[<- hc];exact hp];rw[show io h.v=io (Ax x*q+Cc (Yf x h.v))from congrArg io hq];rw[Qe2,Qe2,Jg,Jg,Qhy,Jg];exact PE.same (rho [io (Ax x),io p,io q,io (Cc y),io (Cc (Yf x h.v)),Yy]) ((PE.v 0*PE.v 1 + -(PE.v 3*PE.v 4))+(PE.v 0*PE.v 2+PE.v 4)*PE.v 5) (PE.v 0*(PE.v 1+PE.v 2*PE.v 5)+PE.v 4*(PE.v 5 + -PE.v 3)) rfl
def Qx(a x:F):Po F:=Xx*Xx+Cc x*Xx+Cc (x*x+a)
theorem Xc7{x y:F}(h:y*y=x*x*x+a*x+b):cub a b=Ax x*Qx a x+Cc (y*y):=by
 rw[h];unfold cub Ax Qx;rw[Uv,Uv,Uv,Ym,Ym,Ym,Ym];exact PE.same (rho [Xx,Cc x,Cc a,Cc b]) (PE.v 0*PE.v 0*PE.v 0+PE.v 2*PE.v 0+PE.v 3) ((PE.v 0 + -PE.v 1)*(PE.v 0*PE.v 0+PE.v 1*PE.v 0+(PE.v 1*PE.v 1+PE.v 2))+(PE.v 1*PE.v 1*PE.v 1+PE.v 2*PE.v 1+PE.v 3)) rfl
theorem Xfz(a x:F):Yf x (Qx a x)=x*x+x*x+(x*x+a):=by
 unfold Qx;rw[Ya,Ya,Xq,Xq,Qme,Vr,Vr]
theorem Xfr{x y:F}(h:y*y=x*x*x+a*x+b):(Yy + -io (Cc y):Cu F a b)*(Yy+io (Cc y))=io (Ax x)*io (Qx a x):=by
 have e:(Yy + -io (Cc y):Cu F a b)*(Yy+io (Cc y))=Yy*Yy + -(io (Cc y)*io (Cc y)) :=
  PE.same (rho [Yy,io (Cc y)]) ((PE.v 0 + -PE.v 1)*(PE.v 0+PE.v 1)) (PE.v 0*PE.v 0 + -(PE.v 1*PE.v 1)) rfl
 rw[e,YY,<- Jg,<- Ym,show io (cub a b)=(io (Ax x*Qx a x+Cc (y*y)):Cu F a b)from congrArg io (Xc7 h),Qe2,Jg];exact PE.same (rho [io (Ax x)*io (Qx a x),io (Cc (y*y))]) (PE.v 0+PE.v 1 + -PE.v 1) (PE.v 0) rfl
def NS(a b:F):Prop:=∀x:F,x*x*x+a*x+b=0->x*x+x*x+(x*x+a)≠0
theorem Qgf(ns:NS a b){x y:F}(h:y*y=x*x*x+a*x+b){L:List (Pn F)}{k:Cu F a b}(hk:Vi L k):Vi (.P x y :: .P x (-y)::L) (io (Ax x)*k):=by
 have v1:=Qmr (a:=a) (b:=b) x y;have v2:=Qmr (a:=a) (b:=b) x (-y);have v3:=Zbz (a:=a) (b:=b) x y;have v4:van (.P x (-y)) (Yy+io (Cc y):Cu F a b):=by
  have:=Zbz (a:=a) (b:=b) x (-y);rwa[Qe3,Qhy,show -(-io (Cc y))=(io (Cc y):Cu F a b)from neg_neg _]at this
 by_cases hy:y=0
 ·have hq0:Yf x (Qx a x)≠0:=by rw[Xfz];exact ns x (by rw[<- h,hy];exact mul_zero _)
  obtain⟨i,hi⟩:=Fd.inv_ex _ hq0;obtain⟨q,hq⟩:=Zeg x (Qx a x);have hci:Cc (Yf x (Qx a x))*Cc i=(1:Po F):=by rw[<- Ym,<- Xcp];exact congrArg Cc hi
  have e:io (Ax x)*k=(Yy + -io (Cc y))*((Yy+io (Cc y))*(io (Cc i)*k))+io (Ax x)*(io (Ax x)*(-(io q*io (Cc i))*k)):=by
   have e1:(Yy + -io (Cc y))*((Yy+io (Cc y))*(io (Cc i)*k))=io (Ax x)*io (Qx a x)*(io (Cc i)*k):=by rw[<- Xfr h,rms]
   rw[e1,show io (Qx a x)=(io (Ax x*q+Cc (Yf x (Qx a x))):Cu F a b)from congrArg io hq,Qe2,Jg]
   have e2:io (Ax x)*(io (Ax x)*io q+io (Cc (Yf x (Qx a x))))*(io (Cc i)*k)+io (Ax x)*(io (Ax x)*(-(io q*io (Cc i))*k))=io (Ax x)*(io (Cc (Yf x (Qx a x)))*io (Cc i))*k :=
    PE.same (rho [io (Ax x),io q,io (Cc (Yf x (Qx a x))),io (Cc i),k]) (PE.v 0*(PE.v 0*PE.v 1+PE.v 2)*(PE.v 3*PE.v 4)+PE.v 0*(PE.v 0*(-(PE.v 1*PE.v 3)*PE.v 4))) (PE.v 0*(PE.v 2*PE.v 3)*PE.v 4) rfl
   rw[e2,<- Jg,hci,Xda];exact PE.same (rho [io (Ax x),k]) (PE.v 0*PE.v 1) (PE.v 0*PE.p1*PE.v 1) rfl
  rw[e];exact .add (.mul v3 (.mul v4 (Qi7 L _ hk))) (.mul v1 (.mul v2 (Qi7 L _ hk)))
 ·have h2:y+y≠0:=by
   have:(1+1:F)*y≠0:=Xp Fd.two_ne hy;rwa[show(1+1:F)*y=y+y from PE.same (rho [y]) ((PE.p1+PE.p1)*PE.v 0) (PE.v 0+PE.v 0) rfl]at this
  obtain⟨i,hi⟩:=Fd.inv_ex _ h2;have hci:(Cc y+Cc y)*Cc i=(1:Po F):=by rw[<- Uv,<- Ym,<- Xcp];exact congrArg Cc hi
  have e:io (Ax x)*k=io (Ax x)*((Yy+io (Cc y))*(io (Cc i)*k))+(Yy + -io (Cc y))*(io (Ax x)*(-io (Cc i)*k)):=by
   have e2:io (Ax x)*((Yy+io (Cc y))*(io (Cc i)*k))+(Yy + -io (Cc y))*(io (Ax x)*(-io (Cc i)*k))=io (Ax x)*((io (Cc y)+io (Cc y))*io (Cc i))*k :=
    PE.same (rho [io (Ax x),Yy,io (Cc y),io (Cc i),k]) (PE.v 0*((PE.v 1+PE.v 2)*(PE.v 3*PE.v 4))+(PE.v 1 + -PE.v 2)*(PE.v 0*(-PE.v 3*PE.v 4))) (PE.v 0*((PE.v 2+PE.v 2)*PE.v 3)*PE.v 4) rfl
   rw[e2,<- Qe2,<- Jg,hci,Xda];exact PE.same (rho [io (Ax x),k]) (PE.v 0*PE.v 1) (PE.v 0*PE.p1*PE.v 1) rfl
  rw[e];exact .add (.mul v1 (.mul v4 (Qi7 L _ hk))) (.mul v3 (.mul v2 (Qi7 L _ hk)))
theorem B6{L:List (Pn F)}(g:Cu F a b):∃k,Vi L k/\(0:Cu F a b)=g*k:=⟨0,Zwm L,(rmz g).symm⟩
theorem B4{L:List (Pn F)}{g h h':Cu F a b}(i:∃k,Vi L k/\h=g*k)(j:∃k,Vi L k/\h'=g*k):∃k,Vi L k/\h+h'=g*k:=by
 obtain⟨k,hk,rfl⟩:=i;obtain⟨l,hl,rfl⟩:=j;exact⟨k+l,Zx1 hk hl,(rma g k l).symm⟩
theorem Zcq{x y:F}(h:y*y=x*x*x+a*x+b){L:List (Pn F)}{w:Cu F a b}(hw:Vi (.P x y :: .P x (-y)::L) w):∃k,Vi L k/\w=io (Ax x)*k:=by
 refine Yk (C:=fun w=>∃k,Vi L k/\w=io (Ax x)*k) (B6 _) (fun _ _=>B4) (fun h1 k1 v1 i1=>?_) hw;refine Yk (C:=fun k1=>∃k,Vi L k/\h1*k1=io (Ax x)*k) (by rw[rmz];exact B6 _) (fun _ _ i j=>by rw[rma];exact B4 i j) (fun h2 k v2 ik=>?_) i1;obtain⟨w1,c1,rfl⟩:=Qqn v1;obtain⟨w2,c2,rfl⟩:=Qqn v2;have e0:io (Cc (-y))=-(io (Cc y):Cu F a b):=by rw[Qe3,Qhy]
 rw[e0];have e:=Xfr h;refine⟨(w1*(io (Ax x)*w2+io (Cc c2)*(Yy+io (Cc y)))+io (Cc c1)*((Yy + -io (Cc y))*w2)+io (Cc c1)*(io (Cc c2)*io (Qx a x)))*k,Qi7 L _ ik,?_⟩
 have e1:(io (Ax x)*w1+io (Cc c1)*(Yy + -io (Cc y)))*((io (Ax x)*w2+io (Cc c2)*(Yy + - -io (Cc y)))*k)=(io (Ax x)*(w1*(io (Ax x)*w2+io (Cc c2)*(Yy+io (Cc y)))+io (Cc c1)*((Yy + -io (Cc y))*w2))+io (Cc c1)*io (Cc c2)*((Yy + -io (Cc y))*(Yy+io (Cc y))))*k :=
  PE.same (rho [io (Ax x),w1,io (Cc c1),Yy,io (Cc y),w2,io (Cc c2),k]) ((PE.v 0*PE.v 1+PE.v 2*(PE.v 3 + -PE.v 4))*((PE.v 0*PE.v 5+PE.v 6*(PE.v 3 + - -PE.v 4))*PE.v 7)) ((PE.v 0*(PE.v 1*(PE.v 0*PE.v 5+PE.v 6*(PE.v 3+PE.v 4))+PE.v 2*((PE.v 3 + -PE.v 4)*PE.v 5))+PE.v 2*PE.v 6*((PE.v 3 + -PE.v 4)*(PE.v 3+PE.v 4)))*PE.v 7) rfl
 rw[e1,e];exact PE.same (rho [io (Ax x),w1*(io (Ax x)*w2+io (Cc c2)*(Yy+io (Cc y))),io (Cc c1)*((Yy + -io (Cc y))*w2),io (Cc c1),io (Cc c2),io (Qx a x),k]) ((PE.v 0*(PE.v 1+PE.v 2)+PE.v 3*PE.v 4*(PE.v 0*PE.v 5))*PE.v 6) (PE.v 0*((PE.v 1+PE.v 2+PE.v 3*(PE.v 4*PE.v 5))*PE.v 6)) rfl
end
end Go.Sx
