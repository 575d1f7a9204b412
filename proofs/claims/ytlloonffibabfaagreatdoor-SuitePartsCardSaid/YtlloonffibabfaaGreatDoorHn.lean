/- Part Hn of the proof. -/
import Derived.Test.YtlloonffibabfaaGreatDoorHm
import Derived.Test.YtlloonffibabfaaGreatDoorHj
import Derived.Test.YtlloonffibabfaaGreatDoorHk
set_option linter.unusedVariables false
set_option linter.unusedSimpArgs false
namespace Go.Sx
open Go Go.RowKit
set_option maxRecDepth 100000
noncomputable def Ql0(c:Int):Int:=enc [Qr (cq c 0),Qr (cq c 1),Qr (cq c 2),Qr (cq c 3),cq c 4]
theorem Zkd(c:Int):dec (Ql0 c)=[Qr (cq c 0),Qr (cq c 1),Qr (cq c 2),Qr (cq c 3),cq c 4]:=Qu _
noncomputable def rsW(c:Int):J E2:=Qi2 (cq c 0) (cq c 1) (cq c 2) (cq c 3) (cq c 4)
def onW(c:Int):Prop:=Qhl (cq c 0) (cq c 1) (cq c 2) (cq c 3) (cq c 4)
def nnW(c:Int):Prop:=0<=cq c 0/\0<=cq c 1/\0<=cq c 2/\0<=cq c 3
theorem Zve{c:Int}(h:onW c)(k:nnW c):rsC (Ql0 c)=rsW c:=by
 unfold rsC cq;rw[Zkd];exact Qzw k.1 k.2.1 k.2.2.1 k.2.2.2 h.1
noncomputable def J5(l n:List Int):J E2:=((l.zip n)).foldl (fun acc p=>J.md R2 (Wo R2 acc (W5 R2 (rsW p.1) 384 p.2.toNat))) (oJ R2)
theorem Qsp(F:J E2->J E2->Int->J E2):∀(l n:List Int) (a:J E2),(∀c∈l,onW c/\nnW c)->((l.map Ql0).zip n).foldl (fun acc p=>F acc (rsC p.1) p.2) a=(l.zip n).foldl (fun acc p=>F acc (rsW p.1) p.2) a
 |[],n,a,_=>rfl
 |c::l,[],a,_=>rfl
 |c::l,m::n,a,h=>by
  have hc:=h c (Mr ..);simp only[Mn,List.zip_cons_cons,List.foldl_cons];rw[Zve hc.1 hc.2];exact Qsp F l n _ fun d hd=>h d (Mq _ hd)
theorem Zdi{l n:List Int}(h:∀c∈l,onW c/\nnW c):V9 (l.map Ql0) n (l.map Ql0).length=J5 l n:=by
 unfold V9 J5;rw[Mg (by rw[List.length_zip];exact Nat.min_le_left _ _)];exact Qsp (fun acc P m=>J.md R2 (Wo R2 acc (W5 R2 P 384 m.toNat))) l n (oJ R2) h
noncomputable def Wl(f:FuncId):K:={fn:=f,ext:=false,ins:=[.lst Qux,.lst .num],outs:=[.agg Qby,oI],pre:=fun|[l,n]=>(dec l).length=(dec n).length/\(dec l).length<=1000/\∀c∈dec l,onW c|_=>False,sem:=fun|[l,n]=>Ba (J5 (dec l) (dec n))++[0]|_=>[] }
def Qaw(f:FuncId):K:={fn:=f,ext:=false,ins:=[.agg Qby,iN],outs:=[.agg Qby,oI],pre:=fun|[a,b,c,d,z,_]=>Qhl a b c d z|_=>False,sem:=fun|[a,b,c,d,z,n]=>Ba (W5 R2 (Qi2 a b c d z) 384 n.toNat)++[0]|_=>[] }
theorem Zm5{l:List Int}(h:Qux.hasL l){c:Int}(hc:c∈l):nnW c:=by
 have h1:Qn2 [.num,.num,.num,.num,.bit] (dec c):=h.2 c hc;unfold nnW cq
 match hd:dec c,h1 with
 |[a,b,d,f,g],h1=>exact⟨h1.1.1,h1.2.1.1,h1.2.2.1.1,h1.2.2.2.1.1⟩
def Zsj:Qq:=(.l 2 kI (.llen (.v 0))
(.loop [.n 0,.n 0] [kI,(.lst (.tup .num [.num,.num,.num,.bit]))] 3
(.l 5 .bit (.c .lss (.v 3) (.v 2))
(.split 5
(.l 6 kI (.llen (.v 0))
(.l 7 .bit (.c .leq (.n 0) (.v 3))
(.l 8 .bit (.c .lss (.v 3) (.v 6))
(.nz (.v 7)
(.nz (.v 8)
(.l 9 .any (.lget (.v 0) (.v 3))
(.l 10 .num (.lget (.v 9) (.n 0))
(.l 11 .num (.lget (.v 9) (.n 1))
(.l 12 .num (.lget (.v 9) (.n 2))
(.l 13 .num (.lget (.v 9) (.n 3))
(.l 14 .bit (.lget (.v 9) (.n 4))
(.l 15 kI (.llen (.v 0))
(.l 16 kI (.llen (.v 1))
(.l 17 .bit (.c .eql (.v 15) (.v 16))
(.split 17
(xw 0 [.v 10,.v 11,.v 12,.v 13,.v 14] 18 qga
(.l 19 .bit (.not (.v 18))
(.split 19
(.ret [.n 0,.n 0,.n 0,.n 0,.n 0,.n 5])
(xw 1 [.v 10,.v 11,.v 12,.v 13,.v 14] 20 qfa
(.l 25 .any (.lapp (.n 0) [.v 20,.v 21,.v 22,.v 23,.v 24])
(.l 26 kI (.llen (.v 4))
(.l 27 .bit (.c .lss (.v 26) (.n 4294967296))
(.nz (.v 27)
(.l 28 (.lst (.tup .num [.num,.num,.num,.bit])) (.lapp (.v 4) [.v 25])
(.l 29 kI (.b .add .i64 (.v 3) (.n 1))
(.back 0 [.v 29,.v 28])))))))))))
(xw 1 [.v 10,.v 11,.v 12,.v 13,.v 14] 18 qfa
(.l 23 .any (.lapp (.n 0) [.v 18,.v 19,.v 20,.v 21,.v 22])
(.l 24 kI (.llen (.v 4))
(.l 25 .bit (.c .lss (.v 24) (.n 4294967296))
(.nz (.v 25)
(.l 26 (.lst (.tup .num [.num,.num,.num,.bit])) (.lapp (.v 4) [.v 23])
(.l 27 kI (.b .add .i64 (.v 3) (.n 1))
(.back 0 [.v 27,.v 26])))))))))))))))))))))))
(xw 2 [] 6 [.num,.num,.num,.num]
(xw 3 [.v 6,.v 7,.v 8,.v 9,.v 4,.v 1] 10 qea
(xw 4 [.v 10,.v 11,.v 12,.v 13,.v 14] 16 qfa
(.ret [.v 16,.v 17,.v 18,.v 19,.v 20,.v 15]))))))))
theorem Zb1(o:Fo)(f1 f2 f3 f4 f5 f:FuncId)(e:Nat->Int)(hk:Q0 [.lst Qux,.lst .num] [e 0,e 1])(hp:(Wl f).pre [e 0,e 1]):Zsj.Xat [Qh8 f1,Zn6 f2,Qh2 o f3,J9 o f4,Qyk f5] ⟨fun ys=>ys=(Wl f).sem [e 0,e 1],[]⟩ e:=by
 obtain⟨hlen,hll,hok⟩:(dec (e 0)).length=(dec (e 1)).length/\(dec (e 0)).length<=1000/\∀c∈dec (e 0),onW c:=hp;obtain⟨l,d0⟩:∃l,dec (e 0)=l:=⟨_,rfl⟩
 obtain⟨n,d1⟩:∃n,dec (e 1)=n:=⟨_,rfl⟩
 have hplk:Qux.hasL l:=by rw[<- d0];exact hk.1
 have hr:(Wl f).sem [e 0,e 1]=Ba (J5 l n)++[0]:=by rw[<- d0,<- d1];rfl
 rw[hr];rw[d0,d1]at hlen;rw[d0]at hok hll;have hon:∀c∈l,onW c/\nnW c:=fun c hc=>⟨hok c hc,Zm5 hplk hc⟩
 clear hr hk hok;intro a2 _;have v2:e 2=(l.length:Int):=by rw[<- d0];exact a2
 refine⟨fun|[i,q]=>0<=i/\i<=l.length/\dec q=(l.take i.toNat).map Ql0|_=>False,fun|[i,_]=>(l.length-i).toNat|_=>0,⟨Int.le_refl _,(show(0:Int)<=l.length by omega),Qv⟩,fun e' he hkk hI=>?_⟩;obtain⟨i0,i1,d4⟩:0<=e' 3/\e' 3<=l.length/\dec (e' 4)=(l.take (e' 3).toNat).map Ql0:=hI;have v2:=(he 2 (by decide)).trans v2;have d0:=(congrArg dec (he 0 (by decide))).trans d0;have d1:=(congrArg dec (he 1 (by decide))).trans d1;clear he hkk a2;intro a5 _;have b5:=Zj a5;simp only[Ql]at b5;refine⟨fun hs=>?_,fun hs=>?_⟩
 ·have c5:e' 3<l.length:=by omega
  intro a6 _ a7 _ a8 _;have v6:e' 6=(l.length:Int):=by rw[<- d0];exact a6
  refine⟨Xf a7 i0,Xi a8 (by show e' 3<e' 6;omega),fun a9 _ a10 _ a11 _ a12 _ a13 _ a14 _ a15 _ a16 _ a17 _=>?_⟩;have v9:e' 9=l.getD (e' 3).toNat 0:=by rw[<- d0];exact a9
  have hm:e' 9∈l:=by rw[v9,getD_lt (by omega)];exact Kk _
  have v10:e' 10=cq (e' 9) 0:=a10;have v11:e' 11=cq (e' 9) 1:=a11;have v12:e' 12=cq (e' 9) 2:=a12;have v13:e' 13=cq (e' 9) 3:=a13;have v14:e' 14=cq (e' 9) 4:=a14;have ho:=(hon _ hm).1;have v15:e' 15=(l.length:Int):=by rw[<- d0];exact a15
  have v16:e' 16=(n.length:Int):=by rw[<- d1];exact a16
  have b17:=Zy a17;simp only[Ql]at b17;refine⟨fun _=>?_,fun h=>by omega⟩;refine⟨trivial,fun a18 _ a19 _=>?_⟩;have v18:e' 18=bj ((e' 10<bP/\e' 11<bP)/\(e' 12<bP/\e' 13<bP)):=a18;rw[v10,v11,v12,v13,Ql9 ho.1]at v18;have b19:=Ju a19;simp only[Ql]at b19;refine⟨fun h=>by omega,fun _=>⟨trivial,fun a20 _ a21 _ a22 _ a23 _ a24 _ a25 _ a26 _ a27 _=>?_⟩⟩;have v20:e' 20=Qr (e' 10):=a20;have v21:e' 21=Qr (e' 11):=a21;have v22:e' 22=Qr (e' 12):=a22;have v23:e' 23=Qr (e' 13):=a23;have v24:e' 24=e' 14:=a24;have v25:e' 25=Ql0 (e' 9):=by
   have h:e' 25=enc (dec 0++[e' 20,e' 21,e' 22,e' 23,e' 24]):=a25;rw[h,Qv,v20,v21,v22,v23,v24,v10,v11,v12,v13,v14];rfl
  have v26:e' 26=((dec (e' 4)).length:Int):=a26;rw[d4,O8,O6]at v26;refine⟨Xi a27 (by show e' 26<4294967296;omega),fun a28 _ a29 _=>?_⟩;have d28:dec (e' 28)=dec (e' 4)++[e' 25]:=by
   have h:e' 28=enc (dec (e' 4)++[e' 25]):=a28;rw[h,Qu]
  have v29:e' 29=e' 3+1:=by
   have h:e' 29=Qm .add .i64 (e' 3) 1:=a29;rw[h];simp only[Qm,wr];omega
  show(0<=e' 29/\e' 29<=l.length/\dec (e' 28)=(l.take (e' 29).toNat).map Ql0)/\(l.length-e' 29).toNat<(l.length-e' 3).toNat;refine⟨⟨by omega,by omega,?_⟩,by omega⟩;rw[v29,show(e' 3+1).toNat=(e' 3).toNat+1 by omega,d28,d4,v25,Ki (by omega),Kq,v9,getD_lt (by omega)];rfl
 ·rw[show(e' 3).toNat=l.length by omega,Mg (Nat.le_refl _)]at d4;refine⟨trivial,fun a6 _ a7 _ a8 _ a9 _=>?_⟩;have v6:e' 6=Qr 1:=a6;have v7:e' 7=0:=a7;have v8:e' 8=Qr 4:=a8;have v9:e' 9=Qr 4:=a9;have hg:Qh3 (l.map Ql0):=fun c hc=>by
   obtain⟨d,hd,rfl⟩:=Mx.1 hc;obtain⟨h,k⟩:=hon d hd;unfold cq;rw[Zkd];exact⟨⟨⟨(Qki _).2,(Qki _).2⟩,(Qki _).2,(Qki _).2⟩,(Qpy k.1 k.2.1 k.2.2.1 k.2.2.2 h.1).2 h⟩
  refine⟨⟨⟨v6,v7⟩,⟨v8,v9⟩,(by show(dec (e' 4)).length=(dec (e' 1)).length;rw[d4,d1,O8,hlen]),(by show Qh3 (dec (e' 4));rw[d4];exact hg)⟩,fun a10 _ a11 _ a12 _ a13 _ a14 _ a15 _=>?_⟩;have hs:(J9 o f4).sem [e' 6,e' 7,e' 8,e' 9,e' 4,e' 1]=Yi (J5 l n)++[0]:=by
   show Yi (V9 (dec (e' 4)) (dec (e' 1)) (dec (e' 4)).length)++[0]=_;rw[d4,d1,Zdi hon]
  rw[B0]at hs;rw[By];generalize B3 (J5 l n)=G at hs ⊢;generalize Qin (J5 l n)=g at hs ⊢;have v10:e' 10=Qr G.1.1:=by
   have h:e' 10=((J9 o f4).sem [e' 6,e' 7,e' 8,e' 9,e' 4,e' 1]).getD 0 0:=a10;rw[h,hs];rfl
  have v11:e' 11=Qr G.1.2:=by
   have h:e' 11=((J9 o f4).sem [e' 6,e' 7,e' 8,e' 9,e' 4,e' 1]).getD 1 0:=a11;rw[h,hs];rfl
  have v12:e' 12=Qr G.2.1:=by
   have h:e' 12=((J9 o f4).sem [e' 6,e' 7,e' 8,e' 9,e' 4,e' 1]).getD 2 0:=a12;rw[h,hs];rfl
  have v13:e' 13=Qr G.2.2:=by
   have h:e' 13=((J9 o f4).sem [e' 6,e' 7,e' 8,e' 9,e' 4,e' 1]).getD 3 0:=a13;rw[h,hs];rfl
  have v14:e' 14=g:=by
   have h:e' 14=((J9 o f4).sem [e' 6,e' 7,e' 8,e' 9,e' 4,e' 1]).getD 4 0:=a14;rw[h,hs];rfl
  have v15:e' 15=0:=by
   have h:e' 15=((J9 o f4).sem [e' 6,e' 7,e' 8,e' 9,e' 4,e' 1]).getD 5 0:=a15;rw[h,hs];rfl
  refine⟨⟨⟨Q6 v10,Q6 v11⟩,Q6 v12,Q6 v13⟩,fun a16 _ a17 _ a18 _ a19 _ a20 _=>?_⟩;show[e' 16,e' 17,e' 18,e' 19,e' 20,e' 15]=_;rw[show e' 16=Qo (e' 10)from a16,show e' 17=Qo (e' 11)from a17,show e' 18=Qo (e' 12)from a18,show e' 19=Qo (e' 13)from a19,show e' 20=e' 14 from a20,v10,v11,v12,v13,v14,v15,Xv,Xv,Xv,Xv];rfl
theorem Zub:R2.isz (oJ R2).z=true:=Bz.2 ⟨rfl,rfl⟩
theorem Zup(Q:J E2):Wo R2 (oJ R2) Q=Q:=by
 rw[U4,if_pos Zub]
def Zum:Qq:=(.l 6 .any (.lapp (.n 0) [.v 0,.v 1,.v 2,.v 3,.v 4])
(.l 7 (.lst (.tup .num [.num,.num,.num,.bit])) (.lapp (.n 0) [.v 6])
(.l 8 (.lst .num) (.lapp (.n 0) [.v 5])
(xw 0 [.v 7,.v 8] 9 qea
(.ret [.v 9,.v 10,.v 11,.v 12,.v 13,.v 14])))))
theorem Zc7(f1 f:FuncId)(e:Nat->Int)(hp:(Qaw f).pre [e 0,e 1,e 2,e 3,e 4,e 5]):Zum.Xat [Wl f1] ⟨fun ys=>ys=(Qaw f).sem [e 0,e 1,e 2,e 3,e 4,e 5],[]⟩ e:=by
 have hon:Qhl (e 0) (e 1) (e 2) (e 3) (e 4):=hp;intro a6 _ a7 _ a8 _;have d6:dec (e 6)=[e 0,e 1,e 2,e 3,e 4]:=by
  have h:e 6=enc (dec 0++[e 0,e 1,e 2,e 3,e 4]):=a6;rw[h,Qu,Qv];rfl
 have d7:dec (e 7)=[e 6]:=by
  have h:e 7=enc (dec 0++[e 6]):=a7;rw[h,Qu,Qv];rfl
 have d8:dec (e 8)=[e 5]:=by
  have h:e 8=enc (dec 0++[e 5]):=a8;rw[h,Qu,Qv];rfl
 have hw:rsW (e 6)=Qi2 (e 0) (e 1) (e 2) (e 3) (e 4):=by unfold rsW cq;rw[d6];rfl
 have how:onW (e 6):=by unfold onW cq;rw[d6];exact hon
 refine⟨⟨(by show(dec (e 7)).length=(dec (e 8)).length;rw[d7,d8];rfl),(by show(dec (e 7)).length<=1000;rw[d7];simp),(by
  show ∀c∈dec (e 7),_;rw[d7];intro c hc;rw[Me.1 hc];exact how)⟩,fun a9 _ a10 _ a11 _ a12 _ a13 _ a14 _=>?_⟩
 have hs:(Wl f1).sem [e 7,e 8]=Ba (W5 R2 (Qi2 (e 0) (e 1) (e 2) (e 3) (e 4)) 384 (e 5).toNat)++[0]:=by
  show Ba (J5 (dec (e 7)) (dec (e 8)))++[0]=_;rw[d7,d8];show Ba (J.md R2 (Wo R2 (oJ R2) (W5 R2 (rsW (e 6)) 384 (e 5).toNat)))++[0]=_;rw[hw,Zup,Zew (Qmk _)]
 show[e 9,e 10,e 11,e 12,e 13,e 14]=(Qaw f).sem [e 0,e 1,e 2,e 3,e 4,e 5];rw[show e 9=((Wl f1).sem [e 7,e 8]).getD 0 0 from a9,show e 10=((Wl f1).sem [e 7,e 8]).getD 1 0 from a10,show e 11=((Wl f1).sem [e 7,e 8]).getD 2 0 from a11,show e 12=((Wl f1).sem [e 7,e 8]).getD 3 0 from a12,show e 13=((Wl f1).sem [e 7,e 8]).getD 4 0 from a13,show e 14=((Wl f1).sem [e 7,e 8]).getD 5 0 from a14,hs];show _=Ba (W5 R2 (Qi2 (e 0) (e 1) (e 2) (e 3) (e 4)) 384 (e 5).toNat)++[0]
 rw[By];rfl
theorem Zsl{a:Int}(h:¬a%bP=0):a^(bP-1).toNat%bP=1:=by
 have hf:=U6 h;unfold Bh at hf;rw[show(bP-1).toNat=(bP-2).toNat+1 by unfold bP;decide];generalize (bP-2).toNat=n at hf ⊢;rw[L3,M0];exact hf
theorem Qy5(x:Int)(k:Nat):(-x)^(2*k+1)=-(x^(2*k+1)):=by
 rw[L3,L3,Int.pow_mul,Int.pow_mul,show(-x)^2=x^2 by grind,Int.mul_neg]
theorem Qsf:(bP-1).toNat=2*(2*((bP-3)/4).toNat+1):=by unfold bP;decide
theorem Zy8{a b:Int}(h:(a*a+b*b)%bP=0):a%bP=0/\b%bP=0:=by
 have h1:(a*a)%bP=(-(b*b))%bP:=by
  have:=Wh (p:=bP) (a:=a*a+b*b) (A:=0) (by rw[h];rfl) (show(b*b)%bP=(b*b)%bP from rfl);rwa[Int.add_sub_cancel,Int.zero_sub]at this
 by_cases ha:a%bP=0
 ·refine⟨ha,?_⟩;by_cases hb:b%bP=0
  ·exact hb
  ·have h2:(b*b)%bP=0:=by
    have h3:(a*a)%bP=0:=X4 _ ha;have:=Wh (p:=bP) (a:=a*a+b*b) (A:=0) (by rw[h];rfl) (show(a*a)%bP=0%bP by rw[h3];rfl);rw[show a*a+b*b-a*a=b*b by omega]at this;exact this
   exact Ui h2 hb
 ·exfalso;have hb:¬b%bP=0:=fun hb=>ha (by
   have h3:(b*b)%bP=0:=X4 _ hb;have h4:(a*a)%bP=0:=by
    have:=Wh (p:=bP) (a:=a*a+b*b) (A:=0) (by rw[h];rfl) (show(b*b)%bP=0%bP by rw[h3];rfl);rw[Int.add_sub_cancel]at this;exact this
   exact Ui h4 ha)
  have fa:=Zsl ha;have fb:=Zsl hb;rw[Qsf]at fa fb;generalize ((bP-3)/4).toNat=k at fa fb;have h2:=U8 h1 (2*k+1);rw[Qy5]at h2;have e:∀x:Int,(x*x)^(2*k+1)=x^(2*(2*k+1)):=fun x=>by
   rw[Int.pow_mul,show x^2=x*x by grind]
  rw[e,e,fa]at h2;have h3:(-(b^(2*(2*k+1))))%bP=(-1)%bP:=Ua (by rw[fb];rfl);rw[h3]at h2;exact absurd h2 (by decide)
theorem Zx5{A:E2}(h:¬R2.isz A=true):¬(A.1*A.1+A.2*A.2)%bP=0:=fun hc=>h (Bz.2 (Zy8 hc))
theorem Zjk{A:E2}(h:¬R2.isz A=true):S2 (R2.mul A (Zk A)) (1,0):=by
 have hi:=U6 (Zx5 h);have e1:(R2.mul A (Zk A)).1=(A.1*A.1+A.2*A.2)*Bh (A.1*A.1+A.2*A.2):=by
  show A.1*(A.1*nrm A.1 A.2)-A.2 * -(A.2*nrm A.1 A.2)=_;rw[show nrm A.1 A.2=Bh (A.1*A.1+A.2*A.2)from rfl];generalize Bh (A.1*A.1+A.2*A.2)=n
  grind
 have e2:(R2.mul A (Zk A)).2=0:=by
  show A.1 * -(A.2*nrm A.1 A.2)+A.2*(A.1*nrm A.1 A.2)=0;generalize nrm A.1 A.2=n
  grind
 exact⟨by rw[e1,hi];rfl,by rw[e2]⟩
theorem Zg2(a:E2):R2.mul a (1,0)=a:=by
 show(a.1*1-a.2*0,a.1*0+a.2*1)=a;rw[Hg,Oac,Hg,Oac,Int.sub_zero,Int.zero_add]
theorem X3{a b c:E2}(h:S2 a b)(k:S2 b c):S2 a c:=⟨h.1.trans k.1,h.2.trans k.2⟩
theorem Qys{a b:E2}(h:S2 a b):S2 b a:=⟨h.1.symm,h.2.symm⟩
theorem Zrf{a b:E2}(h:a=b):S2 a b:=by rw[h];exact Ww _
theorem Ztm{x y:E2}(h:R2.isz (R2.mul x y)=true)(hx:¬R2.isz x=true):R2.isz y=true:=by
 have hi:=Zjk hx;have h1:S2 (R2.mul y (R2.mul x (Zk x))) y:=X3 (Q3 (Ww y) hi) (Zrf (Zg2 y));rw[<- Qda h1];have e:R2.mul y (R2.mul x (Zk x))=R2.mul (R2.mul x y) (Zk x):=by
  obtain⟨x1,x2⟩:=x;obtain⟨y1,y2⟩:=y;generalize Zk (x1,x2)=i;obtain⟨i1,i2⟩:=i;simp only[R2];refine Prod.ext ?_ ?_
  ·show y1*(x1*i1-x2*i2)-y2*(x1*i2+x2*i1)=(x1*y1-x2*y2)*i1-(x1*y2+x2*y1)*i2
   grind
  ·show y1*(x1*i2+x2*i1)+y2*(x1*i1-x2*i2)=(x1*y1-x2*y2)*i2+(x1*y2+x2*y1)*i1
   grind
 rw[e];exact Zor h
def t3(x:E2):E2:=R2.add (R2.add (R2.mul x x) (R2.mul x x)) (R2.mul x x)
def cn(a:E2):Prop:=(0<=a.1/\a.1<bP)/\(0<=a.2/\a.2<bP)
def ng2(a:E2):E2:=((-a.1)%bP,(-a.2)%bP)
theorem Zp9(a:E2):cn (ng2 a):=⟨Zo Q9,Zo Q9⟩
theorem Zm9:¬R2.isz (1,0)=true:=fun h=>one_ne (Bz.1 h).1
theorem Zu7{x y:E2}(hx:cn x)(hy:cn y)(h:R2.isz (R2.sub y x)=true):x=y:=by
 obtain⟨h1,h2⟩:=Bz.1 h;refine Prod.ext ?_ ?_
 ·exact Classical.byContradiction fun hc=>Zfu hx.1 hy.1 hc h1
 ·exact Classical.byContradiction fun hc=>Zfu hx.2 hy.2 hc h2
theorem Zuy{y y':E2}(hy:cn y)(hy':cn y')(h:R2.isz (R2.add y' y)=true):y=ng2 y':=by
 obtain⟨h1,h2⟩:=Bz.1 h;exact Prod.ext (Zfy hy.1 hy'.1 h1) (Zfy hy.2 hy'.2 h2)
theorem Zcx(x:E2):R2.isz (R2.sub x x)=true:=Bz.2 ⟨by rw[Int.sub_self];rfl,by rw[Int.sub_self];rfl⟩
theorem Zn4{y y' s:E2}(h:R2.md (R2.mul y y)=R2.md s)(h':R2.md (R2.mul y' y')=R2.md s):R2.isz (R2.mul (R2.sub y' y) (R2.add y' y))=true:=by
 have e:R2.mul (R2.sub y' y) (R2.add y' y)=R2.sub (R2.mul y' y') (R2.mul y y):=by
  obtain⟨a,b⟩:=y;obtain⟨c,d⟩:=y';simp only[R2];refine Prod.ext ?_ ?_
  ·simp only[]
   grind
  ·simp only[]
   grind
 rw[e];have h2:=h'.trans h.symm;have h3:S2 (R2.mul y' y') (R2.mul y y):=⟨congrArg Prod.fst h2,congrArg Prod.snd h2⟩
 rw[Qda (Jk h3 (Ww (R2.mul y y)))];exact Zcx _
section
variable {x y x' y':E2}
end
theorem PQ.S{a b:Int}{A:E2}(h:PQ a b A):S2 (a,b) A:=⟨by rw[h.1];exact Za _,by rw[h.2];exact Za _⟩
def Y0(a:E2):Prop:=∃y:E2,S2 (R2.mul y y) a
def Qak(y:E2):Prop:=bP/2<y.2∨(y.2=0/\bP/2<y.1)
instance  (y:E2):Decidable (Qak y):=by unfold Qak;exact inferInstance
def Wd(y:E2):E2:=if Qak y then ng2 y else y
open Classical in
noncomputable def rt2(a:E2):E2:=if h:Y0 a then Wd (R2.md h.choose)else(0,0)
theorem Zhd{c:Int}(h:0<=c/\c<bP):(c=0/\(-c)%bP=0)∨(0<c/\(-c)%bP=bP-c):=by
 by_cases h0:c=0
 ·left;rw[h0];exact⟨rfl,rfl⟩
 ·right;exact⟨by omega,Zkq (by omega) h.2⟩
theorem Xbx{c:E2}(h:cn c):ng2 (ng2 c)=c:=by
 have one:∀ {c:Int},0<=c/\c<bP->(-((-c)%bP))%bP=c:=fun {c} h=>by
  rcases Zhd h with⟨h0,h1⟩|⟨h0,h1⟩
  ·rw[h1,h0];rfl
  ·rw[h1,Zkq (by omega) (by omega)];omega
 exact Prod.ext (one h.1) (one h.2)
theorem Zta{c:E2}(h:cn c):Wd (ng2 c)=Wd c:=by
 have hodd:=Qbq;have g:Qak (ng2 c)↔(¬Qak c/\¬c=(0,0)):=by
  have e0:c=(0,0)↔c.1=0/\c.2=0:=⟨fun h=>by rw[h];exact⟨rfl,rfl⟩,fun h=>Prod.ext h.1 h.2⟩
  rw[e0];unfold Qak;show(bP/2<(-c.2)%bP∨((-c.2)%bP=0/\bP/2<(-c.1)%bP))↔_;rcases Zhd h.1 with⟨a0,a1⟩|⟨a0,a1⟩ <;> rcases Zhd h.2 with⟨b0,b1⟩|⟨b0,b1⟩ <;> rw[a1,b1] <;> have:=h.1.2 <;> have:=h.2.2 <;> clear a1 b1 <;> generalize bP=p at * <;> omega
 unfold Wd;by_cases hg:Qak c
 ·rw[if_pos hg,if_neg (fun hc=>(g.1 hc).1 hg)]
 ·by_cases h0:c=(0,0)
  ·rw[h0];rfl
  ·rw[if_neg hg,if_pos (g.2 ⟨hg,h0⟩),Xbx h]
theorem Qcn(a:E2):cn (R2.md a):=⟨Zo Q9,Zo Q9⟩
theorem Qhd(a:E2):S2 (R2.md a) a:=⟨Za _,Za _⟩
theorem Qji{a b:E2}(h:S2 a b):R2.md a=R2.md b:=Prod.ext h.1 h.2
theorem Qio{y a:E2}(hy:cn y)(h:S2 (R2.mul y y) a):rt2 a=Wd y:=by
 have hs:Y0 a:=⟨y,h⟩
 unfold rt2;rw[dif_pos hs];have hc:=hs.choose_spec;generalize hs.choose=c at hc ⊢;have hc':S2 (R2.mul (R2.md c) (R2.md c)) a:=X3 (Q3 (Qhd c) (Qhd c)) hc;have hd:=Zn4 (y:=y) (y':=R2.md c) (Qji h) (Qji hc');by_cases hz:R2.isz (R2.sub (R2.md c) y)=true
 ·rw[Zu7 hy (Qcn c) hz]
 ·rw[Zuy hy (Qcn c) (Ztm hd hz),Zta (Qcn c)]
theorem Qpr{a:E2}(h:¬Y0 a):rt2 a=(0,0):=dif_neg h
theorem Zs6{y:E2}(h:cn y):cn (Wd y):=by
 unfold Wd;split
 ·exact Zp9 y
 ·exact h
theorem Qbv{x y:Int}(h:x%bP=y%bP):(x-y)%bP=0:=by rw[Int.sub_emod,h,Int.sub_self];rfl
theorem Yl{x y:Int}(h:(x-y)%bP=0):x%bP=y%bP:=by
 have:=Xz (p:=bP) (a:=x-y) (A:=0) (b:=y) (B:=y) (by rw[h];rfl) rfl;rwa[Hq,Int.zero_add]at this
theorem Qfp{u v E a b:Int}(hu:u%bP=0)(hv:v%bP=0)(h:E=u*a+v*b):E%bP=0:=by
 rw[h];exact Qif (X4 _ hu) (X4 _ hv)
theorem Zwh{u v w E a b c:Int}(hu:u%bP=0)(hv:v%bP=0)(hw:w%bP=0)(h:E=u*a+v*b+w*c):E%bP=0:=by
 rw[h];exact Qif (Qif (X4 _ hu) (X4 _ hv)) (X4 _ hw)
def kE:Nat:=((bP-3)/4).toNat
theorem Zyp:eR=kE+1:=by unfold eR kE bP;decide
theorem Qpd{a:Int}(h:¬a%bP=0):a^(2*(2*kE+1))%bP=1:=by
 have:=Zsl h;rwa[Qsf]at this
theorem Zrn(c:Int):Ue c*Ue c%bP=c*c^(2*kE+1)%bP:=by
 have e:c^eR*c^eR=c*c^(2*kE+1):=by
  rw[Zyp,<- Kz,M0 c,<- L3];congr 1 <;> omega
 rw[<- e];exact Q4 (Za _) (Za _)
theorem Zmj{c:Int}(h:c^(2*kE+1)%bP=1):sqV c:=by
 unfold sqV;rw[Zrn];have:=Q4 (p:=bP) (a:=c) (A:=c) (b:=c^(2*kE+1)) (B:=1) rfl (by rw[h];rfl);rwa[Hg]at this
theorem Zlw{c:Int}(h:c%bP=0):sqV c:=by
 unfold sqV;rw[Zrn,h];exact X4 _ h
theorem Qyi{c d:Int}(h:c%bP=d*d%bP):sqV c:=by
 by_cases hd:d%bP=0
 ·exact Zlw (by rw[h];exact X4 _ hd)
 ·refine Zmj ?_;rw[<- Qpd hd];have:=U8 h (2*kE+1);rw[this,show d*d=d^2 by grind,<- Int.pow_mul]
theorem Quo{c:Int}(h:¬sqV c):sqV (-c):=by
 have hc:¬c%bP=0:=fun h0=>h (Zlw h0)
 have h1:=Qpd hc;have e:c^(2*(2*kE+1))=c^(2*kE+1)*c^(2*kE+1):=by rw[<- Kz];congr 1 <;> omega
 rw[e]at h1;have hn:(-c)^(2*kE+1)=-(c^(2*kE+1)):=Qy5 c kE;have hu:¬c^(2*kE+1)%bP=1:=fun hu=>h (Zmj hu)
 generalize c^(2*kE+1)=u at *
 have h2:((u-1)*(u+1))%bP=0:=by
  have:=Qbv (x:=u*u) (y:=1) (by rw[h1];rfl);rwa[show(u-1)*(u+1)=u*u-1 by grind]
 have h3:¬(u-1)%bP=0:=fun h0=>hu (by rw[Yl h0];rfl)
 have h4:=Ui h2 h3;refine Zmj ?_;rw[hn];have:=Qbv (x:=u+1) (y:=0) (by rw[h4];rfl);have h5:(-u-1)%bP=0:=by
  have:=X4 (-1) h4;rwa[show(u+1) * -1=-u-1 by omega]at this
 rw[Yl h5];rfl
theorem Zw8{a b:Int}(h:a*a%bP=b*b%bP):a%bP=b%bP∨a%bP=(-b)%bP:=by
 have h2:((a-b)*(a+b))%bP=0:=by
  have:=Qbv h;rwa[show(a-b)*(a+b)=a*a-b*b by grind]
 by_cases h3:(a-b)%bP=0
 ·exact .inl (Yl h3)
 ·right
  have h4:=Ui h2 h3;exact Yl (by rwa[Int.sub_neg])
theorem Zfl:¬(2:Int)%bP=0:=by decide
theorem Qt1{A B s x w H i:Int}(hH:(2*H)%bP=1)(hs:s*s%bP=(A*A+B*B)%bP)(hB:¬B%bP=0)(hx:x*x%bP=(A+s)*H%bP)(hi:¬(x+x)%bP=0->(x+x)*i%bP=1)(hw:w%bP=B*i%bP):S2 (R2.mul (x,w) (x,w)) (A,B):=by
 have U2:=Qbv hs;have V1:=Qbv hx;have V2:(2*H-1)%bP=0:=Qbv (by rw[hH];rfl);have U1:((x+x)*x-(A+s))%bP=0:=Qfp (a:=2) (b:=A+s) V1 V2 (by grind);have hx0:¬(x+x)%bP=0:=fun h0=>hB (by
  have hx1:x%bP=0:=Ui (x:=2) (by rw[show(2:Int)*x=x+x by omega];exact h0) Zfl;have h1:(B*B)%bP=0:=Zwh (a:=-1) (b:=A-s) (c:=x*2*(s-A)) U2 U1 hx1 (by grind);exact Classical.byContradiction fun hb=>hb (Ui h1 hb))
 have h1:((x+x)*w-B)%bP=0:=by
  have W:=Qbv hw;have I:=Qbv (x:=(x+x)*i) (y:=1) (by rw[hi hx0];rfl);exact Qfp (a:=x+x) (b:=B) W I (by grind)
 refine⟨?_,?_⟩
 ·refine Yl (x:=x*x-w*w) (y:=A) ?_;have hD:((x+x)*((x+x)*(x*x-w*w-A)))%bP=0:=Zwh (a:=(x+x)*x-(A+s)+2*s) (b:=-((x+x)*w-B+2*B)) (c:=1) U1 h1 U2 (by grind);exact Ui (Ui hD hx0) hx0
 ·refine Yl (x:=x*w+w*x) (y:=B) ?_;rw[show x*w+w*x-B=(x+x)*w-B by grind];exact h1
theorem Qq2{A B:Int}(h:Y0 (A,B)){H:Int}(hH:(2*H)%bP=1):∃n c d:Int,(A*A+B*B)%bP=n*n%bP/\(A+n)*H%bP=c*c%bP/\(n-A)*H%bP=d*d%bP/\A%bP=(c*c-d*d)%bP/\B%bP=(c*d+d*c)%bP:=by
 obtain⟨⟨c,d⟩,h1,h2⟩:=h;have a:(A-(c*c-d*d))%bP=0:=Qbv h1.symm;have b:(B-(c*d+d*c))%bP=0:=Qbv h2.symm;have V2:(2*H-1)%bP=0:=Qbv (by rw[hH];rfl);refine⟨c*c+d*d,c,d,Yl ?_,Yl ?_,Yl ?_,Yl a,Yl b⟩
 ·exact Qfp (a:=A+(c*c-d*d)) (b:=B+(c*d+d*c)) a b (by grind)
 ·exact Qfp (a:=H) (b:=c*c) a V2 (by grind)
 ·exact Qfp (a:=-H) (b:=d*d) a V2 (by grind)
theorem Zqa{a b:E2}(h:S2 a b):rt2 a=rt2 b/\(Y0 a↔Y0 b):=by
 have hi:Y0 a↔Y0 b:=⟨fun⟨y,hy⟩=>⟨y,X3 hy h⟩,fun⟨y,hy⟩=>⟨y,X3 hy (Qys h)⟩⟩
 refine⟨?_,hi⟩;by_cases hs:Y0 a
 ·obtain⟨y,hy⟩:=hs;have hy':S2 (R2.mul (R2.md y) (R2.md y)) a:=X3 (Q3 (Qhd y) (Qhd y)) hy;rw[Qio (Qcn y) hy',Qio (Qcn y) (X3 hy' h)]
 ·rw[Qpr hs,Qpr (fun hb=>hs (hi.2 hb))]
theorem Qua(a:E2):cn (rt2 a):=by
 by_cases hs:Y0 a
 ·obtain⟨y,hy⟩:=hs;rw[Qio (Qcn y) (X3 (Q3 (Qhd y) (Qhd y)) hy)];exact Zs6 (Qcn y)
 ·rw[Qpr hs];exact⟨⟨by decide,Q9⟩,by decide,Q9⟩
def Qo3(f:FuncId):K:={fn:=f,ext:=false,ins:=[iE2],outs:=[oE2],pre:=fun|[a,b]=>a<bP/\b<bP|_=>False,sem:=fun|[a,b]=>[Qr (-Qo a),Qr (-Qo b)]|_=>[] }
noncomputable def Qca(f:FuncId):K:={fn:=f,ext:=false,ins:=[iN],outs:=[oN,oB],pre:=fun|[a]=>a<bP|_=>False,sem:=fun|[a]=>[Qr (Ue (Qo a)),bj (sqV (Qo a))]|_=>[] }
def Qab(f:FuncId):K:={fn:=f,ext:=false,ins:=[iE2],outs:=[oE2],pre:=fun|[a,b]=>a<bP/\b<bP|_=>False,sem:=fun|[a,b]=>[(Wd (Qo a,Qo b)).1,(Wd (Qo a,Qo b)).2]|_=>[] }
open Classical in
noncomputable def J3(a:E2):List Int:=if Y0 a then[(rt2 a).1,(rt2 a).2,0]else[0,0,6]
theorem Qkr{a:E2}(h:Y0 a):J3 a=[(rt2 a).1,(rt2 a).2,0]:=if_pos h
theorem Qd7{a:E2}(h:¬Y0 a):J3 a=[0,0,6]:=if_neg h
theorem Zbv{y a:E2}(hy:cn y)(h:S2 (R2.mul y y) a):J3 a=[(Wd y).1,(Wd y).2,0]:=by rw[Qkr ⟨y,h⟩,Qio hy h]
noncomputable def Qlh(f:FuncId):K:={fn:=f,ext:=false,ins:=[iE2],outs:=[oE2,oI],pre:=fun _=>True,sem:=fun|[a,b]=>J3 (a,b)|_=>[] }
def Qia(f:FuncId):K:={fn:=f,ext:=false,ins:=[iE2,iE2],outs:=[oE2],pre:=fun _=>True,sem:=fun|[a,b,c,d]=>[(a+c)%bP,(b+d)%bP]|_=>[] }
def Qpq(f:FuncId):K:={fn:=f,ext:=false,ins:=[iE2,iE2],outs:=[oE2],pre:=fun _=>True,sem:=fun|[a,b,c,d]=>[(a*c-b*d)%bP,(a*d+b*c)%bP]|_=>[] }
noncomputable def Zss(f:FuncId):K:={fn:=f,ext:=false,ins:=[iE2],outs:=[.agg Qby,oB],pre:=fun _=>True,sem:=fun|[a,b]=>[a,b,(rt2 (Ya (a,b))).1,(rt2 (Ya (a,b))).2,0,bj (Y0 (Ya (a,b)))]|_=>[] }
def Zse:Qq:=(xw 0 [.v 0] 98 Z7
(xw 0 [.v 1] 242 Z7
(.ret [.v 98,.v 242])))
theorem Zdo(f1 f:FuncId)(e:Nat->Int)(hp:(Qo3 f).pre [e 0,e 1]):Zse.Xat [Qgy f1] ⟨fun ys=>ys=(Qo3 f).sem [e 0,e 1],[]⟩ e:=by
 obtain⟨u0,u1⟩:e 0<bP/\e 1<bP:=hp;refine⟨u0,fun a1 _=>⟨u1,fun a2 _=>?_⟩⟩;show[e 98,e 242]=[Qr (-Qo (e 0)),Qr (-Qo (e 1))]
 rw[show e 98=_ from a1,show e 242=_ from a2];rfl
def Zaj:Qq:=(xw 1 [] 1 Z7
(xw 2 [.n 1] 2 Z7
(xw 0 [.v 1,.v 2] 3 qha
(xw 3 [.v 3] 101 Z7
(xw 4 [.v 0,.v 101] 149 Z7
(xw 5 [.v 149,.v 149] 437 Z7
(.l 533 .bit (.eqs [((.m 437 0),(.m 0 0)),((.m 437 1),(.m 0 1)),((.m 437 2),(.m 0 2)),((.m 437 3),(.m 0 3)),((.m 437 4),(.m 0 4)),((.m 437 5),(.m 0 5))])
(.ret [.v 149,.v 533]))))))))
theorem Qvn(f1 f2 f3 f4 f5 f6 f:FuncId)(e:Nat->Int)(hk:Q0 [.num] [e 0])(hp:(Qca f).pre [e 0]):Zaj.Xat [Qcq f1,Qjs f2,kOf f3,Zjh f4,Qso f5,Qay f6] ⟨fun ys=>ys=(Qca f).sem [e 0],[]⟩ e:=by
 have u0:e 0<bP:=hp;have k0:0<=e 0/\e 0<Qw:=hk.1;show Zaj.Xat _ ⟨fun ys=>ys=[Qr (Ue (Qo (e 0))),bj (sqV (Qo (e 0)))],[]⟩ e;refine⟨trivial,fun a1 _=>⟨trivial,fun a2 _=>⟨trivial,fun a3 _ a4 _=>⟨trivial,fun a101 _=>⟨u0,fun a149 _=>?_⟩⟩⟩⟩⟩;have v149:e 149=Qr (Ue (Qo (e 0))):=by
  have h:e 149=Qr (Qo (e 0)^(e 101).toNat):=a149;rw[h,show e 101=e 3/4 from a101,show e 3=(e 1+e 2)%Qw from a3,show e 1=bP from a1,show e 2=1 from a2,Zvy];exact Z3 (Za _).symm
 refine⟨⟨Q6 v149,Q6 v149⟩,fun a437 k437 a533 _=>?_⟩;have v437:e 437=Qr (Ue (Qo (e 0))*Ue (Qo (e 0))):=Qdh (show e 437=Qr (Qo (e 149)*Qo (e 149))from a437) v149 v149;have b533:=Qsu a533 k437 k0;have hsq:e 437=e 0↔sqV (Qo (e 0)):=by
  have h0:=Vl k0.1 u0;constructor
  ·intro h;rw[v437]at h;exact Qh0 (h.trans h0)
  ·intro h;rw[v437,Z3 h];exact h0.symm
 show[e 149,e 533]=_;rw[v149,show e 533=bj (sqV (Qo (e 0)))from Qrp (by
  rcases b533 with⟨h1,h2⟩|⟨h1,h2⟩
  ·exact .inl ⟨h1,hsq.1 h2⟩
  ·exact .inr ⟨h1,fun h=>h2 (hsq.2 h)⟩)]
theorem Zp3{c:Int}(h:0<=c/\c<bP):(-c)%bP<c↔bP/2<c:=by
 have hodd:=Qbq;rcases Zhd h with⟨a0,a1⟩|⟨a0,a1⟩ <;> rw[a1] <;> have:=h.2 <;> clear a1 <;> generalize bP=p at * <;> omega
theorem Zv4{c:Int}(h:0<=c/\c<bP):(-c)%bP=c↔c=0:=by
 have hodd:=Qbq;rcases Zhd h with⟨a0,a1⟩|⟨a0,a1⟩ <;> rw[a1] <;> have:=h.2 <;> clear a1 <;> generalize bP=p at * <;> omega
theorem Zo2{v a b:Int}(h:v=if a<b then -1 else if a=b then 0 else 1):v=0↔a=b:=by
 rw[h];split
 ·rename_i h1;exact⟨fun h2=>absurd h2 (by decide),fun h2=>by omega⟩
 ·split
  ·rename_i h2;exact⟨fun _=>h2,fun _=>rfl⟩
  ·rename_i h2;exact⟨fun h3=>absurd h3 (by decide),fun h3=>absurd h3 h2⟩
theorem Qy8(a:Int):0<=Qo a/\Qo a<bP:=Zo Q9
def Zah:Qq:=(xw 0 [.v 0,.v 1] 50 Yo
(xw 1 [.v 0,.v 1] 146 Yo
(xw 0 [.v 146,.v 147] 194 Yo
(xw 2 [.v 195,.v 51] 434 [kI]
(.l 435 .bit (.c .lss (.v 434) (.n 0))
(.split 435
(.ret [.v 194,.v 195])
(.l 436 .bit (.c .eql (.v 434) (.n 0))
(.split 436
(xw 2 [.v 194,.v 50] 437 [kI]
(.l 438 .bit (.c .lss (.v 437) (.n 0))
(.split 438
(.ret [.v 194,.v 195])
(.ret [.v 50,.v 51]))))
(.ret [.v 50,.v 51])))))))))
theorem Qxj(f1 f2 f3 f:FuncId)(e:Nat->Int)(hk:Q0 [.num,.num] [e 0,e 1])(hp:(Qab f).pre [e 0,e 1]):Zah.Xat [Qao f1,Qo3 f2,Vt f3] ⟨fun ys=>ys=(Qab f).sem [e 0,e 1],[]⟩ e:=by
 obtain⟨u0,u1⟩:e 0<bP/\e 1<bP:=hp;obtain⟨A,hA⟩:∃A,Qo (e 0)=A:=⟨_,rfl⟩
 obtain⟨B,hB⟩:∃B,Qo (e 1)=B:=⟨_,rfl⟩
 have ra:=Qy8 (e 0);have rb:=Qy8 (e 1);rw[hA]at ra;rw[hB]at rb;show Zah.Xat _ ⟨fun ys=>ys=[(Wd (Qo (e 0),Qo (e 1))).1,(Wd (Qo (e 0),Qo (e 1))).2],[]⟩ e;rw[hA,hB];refine⟨⟨u0,u1⟩,fun a50 _ a51 _=>⟨⟨u0,u1⟩,fun a146 _ a147 _=>?_⟩⟩;have v50:e 50=A:=(show e 50=Qo (e 0)from a50).trans hA;have v51:e 51=B:=(show e 51=Qo (e 1)from a51).trans hB;have v146:e 146=Qr (-A):=by rw[show e 146=Qr (-Qo (e 0))from a146,hA]
 have v147:e 147=Qr (-B):=by rw[show e 147=Qr (-Qo (e 1))from a147,hB]
 refine⟨⟨Q6 v146,Q6 v147⟩,fun a194 _ a195 _=>⟨trivial,fun a434 _ a435 _=>?_⟩⟩;have v194:e 194=(-A)%bP:=by rw[show e 194=Qo (e 146)from a194,v146,Xv]
 have v195:e 195=(-B)%bP:=by rw[show e 195=Qo (e 147)from a195,v147,Xv]
 have l1:=(Qzd (show e 434=if e 195<e 51 then -1 else if e 195=e 51 then 0 else 1 from a434))
 have l2:=(Zo2 (show e 434=if e 195<e 51 then -1 else if e 195=e 51 then 0 else 1 from a434))
 rw[v195,v51,Zp3 rb]at l1;rw[v195,v51,Zv4 rb]at l2;have b435:=Zj a435;simp only[Ql,Qn]at b435;have yes:Qak (A,B)->[e 194,e 195]=[(Wd (A,B)).1,(Wd (A,B)).2]:=fun hg=>by
  rw[show Wd (A,B)=ng2 (A,B)from if_pos hg,v194,v195];rfl
 have no:¬Qak (A,B)->[e 50,e 51]=[(Wd (A,B)).1,(Wd (A,B)).2]:=fun hg=>by
  rw[show Wd (A,B)=(A,B)from if_neg hg,v50,v51]
 refine⟨fun h=>yes (.inl (l1.1 (Xn b435 h))),fun h=>?_⟩;have n1:¬bP/2<B:=fun hc=>Wc b435 h (l1.2 hc)
 intro a436 _;have b436:=Zy a436;simp only[Ql,Qn]at b436;refine⟨fun h=>⟨trivial,fun a437 _ a438 _=>?_⟩,fun h=>no (fun hg=>by
  rcases hg with hg|hg
  ·exact n1 hg
  ·exact Wc b436 h (l2.2 hg.1))⟩
 have z0:=l2.1 (Xn b436 h);have l3:=(Qzd (show e 437=if e 194<e 50 then -1 else if e 194=e 50 then 0 else 1 from a437))
 rw[v194,v50,Zp3 ra]at l3;have b438:=Zj a438;simp only[Ql,Qn]at b438;exact⟨fun h=>yes (.inr ⟨z0,l3.1 (Xn b438 h)⟩),fun h=>no (fun hg=>by
  rcases hg with hg|hg
  ·exact n1 hg
  ·exact Wc b438 h (l3.2 hg.2))⟩
def Zlu:Qq:=(xw 2 [.v 0,.v 1] 52 Yo
(xw 2 [.v 2,.v 3] 148 Yo
(xw 1 [.v 52,.v 53,.v 148,.v 149] 196 Yo
(xw 0 [.v 196,.v 197] 244 Yo
(.ret [.v 244,.v 245])))))
theorem Qu1(f1 f2 f3 f:FuncId)(e:Nat->Int):Zlu.Xat [Qao f1,Qdp f2,Qhi f3] ⟨fun ys=>ys=(Qia f).sem [e 0,e 1,e 2,e 3],[]⟩ e:=by
 refine⟨trivial,fun a1 _ a2 _=>⟨trivial,fun a3 _ a4 _=>?_⟩⟩;have v1:e 52=Qr (e 0):=a1;have v2:e 53=Qr (e 1):=a2;have v3:e 148=Qr (e 2):=a3;have v4:e 149=Qr (e 3):=a4;refine⟨⟨Q6 v1,Q6 v2,Q6 v3,Q6 v4⟩,fun a5 _ a6 _=>?_⟩;have v5:e 196=Qr (e 0+e 2):=Qfo (show e 196=Qr (Qo (e 52)+Qo (e 148))from a5) v1 v3;have v6:e 197=Qr (e 1+e 3):=Qfo (show e 197=Qr (Qo (e 53)+Qo (e 149))from a6) v2 v4;refine⟨⟨Q6 v5,Q6 v6⟩,fun a7 _ a8 _=>?_⟩;show[e 244,e 245]=[(e 0+e 2)%bP,(e 1+e 3)%bP]
 rw[show e 244=Qo (e 196)from a7,show e 245=Qo (e 197)from a8,v5,v6,Xv,Xv]
def Znf:Qq:=(xw 2 [.v 0,.v 1] 52 Yo
(xw 2 [.v 2,.v 3] 148 Yo
(xw 1 [.v 52,.v 53,.v 148,.v 149] 196 Yo
(xw 0 [.v 196,.v 197] 244 Yo
(.ret [.v 244,.v 245])))))
theorem Qv0(f1 f2 f3 f:FuncId)(e:Nat->Int):Znf.Xat [Qao f1,Qbe f2,Qhi f3] ⟨fun ys=>ys=(Qpq f).sem [e 0,e 1,e 2,e 3],[]⟩ e:=by
 refine⟨trivial,fun a1 _ a2 _=>⟨trivial,fun a3 _ a4 _=>?_⟩⟩;have v1:e 52=Qr (e 0):=a1;have v2:e 53=Qr (e 1):=a2;have v3:e 148=Qr (e 2):=a3;have v4:e 149=Qr (e 3):=a4;refine⟨⟨Q6 v1,Q6 v2,Q6 v3,Q6 v4⟩,fun a5 _ a6 _=>?_⟩;have q:=Zr (x:=e 196) (y:=e 197) (A:=(e 0,e 1)) (C:=(e 2,e 3)) a5 a6 ⟨v1,v2⟩ ⟨v3,v4⟩;refine⟨⟨Q6 q.1,Q6 q.2⟩,fun a7 _ a8 _=>?_⟩;show[e 244,e 245]=[(e 0*e 2-e 1*e 3)%bP,(e 0*e 3+e 1*e 2)%bP]
 rw[show e 244=Qo (e 196)from a7,show e 245=Qo (e 197)from a8,q.1,q.2,Xv,Xv];rfl
theorem rtE{v a X:Int}(h:v=Qr (Ue (Qo a)))(ha:a=Qr X):v=Qr (Ue X):=by rw[h,ha,Xv,Qyg]
theorem sqE{v a X:Int}(h:v=bj (sqV (Qo a)))(ha:a=Qr X):v=bj (sqV X):=by rw[h,ha,Xv];exact Qbw (Zn3 X)
theorem Qp8{v w a b X Y:Int}(h:v=(Wd (Qo a,Qo b)).1)(k:w=(Wd (Qo a,Qo b)).2)(ha:a=Qr X)(hb:b=Qr Y):v=(Wd (X%bP,Y%bP)).1/\w=(Wd (X%bP,Y%bP)).2:=by
 rw[h,k,ha,hb,Xv,Xv];exact⟨rfl,rfl⟩
theorem Zvw(a b:Int):cn (a%bP,b%bP):=⟨Zo Q9,Zo Q9⟩
theorem Qga{x y:Int}{a:E2}(h:S2 (R2.mul (x,y) (x,y)) a):J3 a=[(Wd (x%bP,y%bP)).1,(Wd (x%bP,y%bP)).2,0]:=Zbv (Zvw x y) (X3 (Q3 ⟨Za _,Za _⟩ ⟨Za _,Za _⟩) h)
theorem Zpp:(0:Int)=Qr 0:=Qmo.symm
theorem Qja:(2*Bh 2)%bP=1:=U6 Zfl
def Zxa(x n1 n2 n3 n4:Nat):Qq:=.req 6 [.v x,.v x] (.l n1 .num (.app 6 0 [.v x,.v x]) (.req 5 [.v n1] (.l n2 .num (.app 5 0 [.v n1]) (.req 8 [.v 3,.v n2] (.l n3 .num (.app 8 0 [.v 3,.v n2]) (.req 2 [.v x,.v n3] (.l n4 .num (.app 2 0 [.v x,.v n3]) (.l (n4+1) .num (.app 2 1 [.v x,.v n3]) (.ret [.v n4,.v (n4+1),.lit 0])))))))))
theorem Qj3{T:List K}{e:Nat->Int}{g2 g5 g6 g8:FuncId}(h2:T[2]?=some (Qab g2))(h5:T[5]?=some (Qg8 g5))(h6:T[6]?=some (Qb1 g6))(h8:T[8]?=some (Qay g8))(x n1 n2 n3 n4:Nat){A B s:Int}(hs:s*s%bP=(A*A+B*B)%bP)(hB:¬B%bP=0)(v3:e 3=Qr B)(vx:e x=Qr (Ue ((A+s)*Bh 2)))(hq:sqV ((A+s)*Bh 2)):(Zxa x n1 n2 n3 n4).Xat T ⟨fun ys=>ys=J3 (A,B),[]⟩ e:=by
 obtain⟨t,ht⟩:∃t,t=Ue ((A+s)*Bh 2):=⟨_,rfl⟩
 rw[<- ht]at vx;refine⟨by rw[h6];exact⟨Q6 vx,Q6 vx⟩,fun a1 _=>?_⟩;simp only[D.ev,h6]at a1;have v1:e n1=Qr (t+t):=Qfo (show e n1=Qr (Qo (e x)+Qo (e x))from a1) vx vx;refine⟨by rw[h5];exact Q6 v1,fun a2 _=>?_⟩;simp only[D.ev,h5]at a2;have v2:e n2=Qr (Bh (t+t)):=Zvc (show e n2=Qr (Qo (e n1)^(bP-2).toNat)from a2) v1;refine⟨by rw[h8];exact⟨Q6 v3,Q6 v2⟩,fun a3 _=>?_⟩;simp only[D.ev,h8]at a3;have w3:e n3=Qr (B*Bh (t+t)):=Qdh (show e n3=Qr (Qo (e 3)*Qo (e n2))from a3) v3 v2;refine⟨by rw[h2];exact⟨Q6 vx,Q6 w3⟩,fun a4 _ a5 _=>?_⟩;simp only[D.ev,h2]at a4 a5;obtain⟨r1,r2⟩:=Qp8 (show e n4=(Wd (Qo (e x),Qo (e n3))).1 from a4) (show e (n4+1)=(Wd (Qo (e x),Qo (e n3))).2 from a5) vx w3;show[e n4,e (n4+1),0]=_;rw[r1,r2];refine(Qga (Qt1 Qja hs hB (x:=t) (i:=Bh (t+t)) ?_ (fun h=>U6 h) rfl)).symm;rw[ht];exact hq
def Qrt:Qq:=(xw 0 [.v 0,.v 1] 2 Yo
(.l 4 .bit (.eqs [((.m 3 0),(.n 0)),((.m 3 1),(.n 0)),((.m 3 2),(.n 0)),((.m 3 3),(.n 0)),((.m 3 4),(.n 0)),((.m 3 5),(.n 0))])
(.split 4
(xw 1 [.v 2] 5 qha
(.split 6
(xw 2 [.v 5,.n 0] 7 Yo
(.ret [.v 7,.v 8,.n 0]))
(xw 3 [.v 2] 7 Z7
(xw 1 [.v 7] 8 qha
(xw 2 [.n 0,.v 8] 10 Yo
(.ret [.v 10,.v 11,.n 0]))))))
(xw 4 [.v 2,.v 3] 5 Z7
(xw 1 [.v 5] 6 qha
(.l 8 .bit (.not (.v 7))
(.split 8
(.ret [.n 0,.n 0,.n 6])
(xw 7 [] 9 Z7
(xw 7 [] 10 Z7
(xw 6 [.v 9,.v 10] 11 Z7
(xw 5 [.v 11] 12 Z7
(xw 6 [.v 2,.v 6] 157 Z7
(xw 8 [.v 157,.v 12] 253 Z7
(xw 1 [.v 253] 301 qha
(.split 302
(xw 6 [.v 301,.v 301] 877 Z7
(xw 5 [.v 877] 925 Z7
(xw 8 [.v 3,.v 925] 973 Z7
(xw 2 [.v 301,.v 973] 1069 Yo
(.ret [.v 1069,.v 1070,.n 0])))))
(xw 3 [.v 6] 637 Z7
(xw 6 [.v 2,.v 637] 782 Z7
(xw 8 [.v 782,.v 12] 878 Z7
(xw 1 [.v 878] 926 qha
(.split 927
(xw 6 [.v 926,.v 926] 1502 Z7
(xw 5 [.v 1502] 1550 Z7
(xw 8 [.v 3,.v 1550] 1598 Z7
(xw 2 [.v 926,.v 1598] 1694 Yo
(.ret [.v 1694,.v 1695,.n 0])))))
(xw 3 [.v 637] 1262 Z7
(.ret [.n 0,.n 0,.n 6]))))))))))))))))))))))
theorem Qri(f1 f2 f3 f4 f5 f6 f7 f8 f9 f:FuncId)(e:Nat->Int)(hk:Q0 [.num,.num] [e 0,e 1]):Qrt.Xat [Qhi f1,Qca f2,Qab f3,Qgy f4,B9 f5,Qg8 f6,Qb1 f7,Qkv f8,Qay f9] ⟨fun ys=>ys=(Qlh f).sem [e 0,e 1],[]⟩ e:=by
 show Qrt.Xat _ ⟨fun ys=>ys=J3 (e 0,e 1),[]⟩ e;obtain⟨A,hA⟩:∃A,e 0=A:=⟨_,rfl⟩
 obtain⟨B,hB⟩:∃B,e 1=B:=⟨_,rfl⟩
 rw[hA,hB];refine⟨trivial,fun a2 _ a3 k3 a4 _=>?_⟩;have v2:e 2=Qr A:=by rw[<- hA];exact a2
 have v3:e 3=Qr B:=by rw[<- hB];exact a3
 have b4:=Zj3 a4 k3;rw[v3,Qbd]at b4;refine⟨fun h=>?_,fun h=>?_⟩
 ·have hz:=Xn b4 h;refine⟨Q6 v2,fun a5 _ a6 _=>?_⟩;have v5:=rtE (show e 5=Qr (Ue (Qo (e 2)))from a5) v2;have v6:=sqE (show e 6=bj (sqV (Qo (e 2)))from a6) v2;refine⟨fun h=>?_,fun h=>?_⟩
  ·have hq:=Qcp v6 h;refine⟨⟨Q6 v5,Q9⟩,fun a7 _ a8 _=>?_⟩;obtain⟨r1,r2⟩:=Qp8 (show e 7=(Wd (Qo (e 5),Qo 0)).1 from a7) (show e 8=(Wd (Qo (e 5),Qo 0)).2 from a8) v5 Zpp;show[e 7,e 8,0]=_;rw[r1,r2];refine(Qga ⟨?_,?_⟩).symm
   ·show(Ue A*Ue A-0*0)%bP=A%bP;rw[Oac,Int.sub_zero];exact hq
   ·show(Ue A*0+0*Ue A)%bP=B%bP;rw[Oac,Oab,hz];rfl
  ·have hq:=Quo (Qly v6 h);refine⟨Q6 v2,fun a7 _=>?_⟩;have v7:=Zsx (show e 7=Qr (-Qo (e 2))from a7) v2;refine⟨Q6 v7,fun a8 _ a9 _=>?_⟩;have v8:=rtE (show e 8=Qr (Ue (Qo (e 7)))from a8) v7;refine⟨⟨Q9,Q6 v8⟩,fun a10 _ a11 _=>?_⟩;obtain⟨r1,r2⟩:=Qp8 (show e 10=(Wd (Qo 0,Qo (e 8))).1 from a10) (show e 11=(Wd (Qo 0,Qo (e 8))).2 from a11) Zpp v8;show[e 10,e 11,0]=_;rw[r1,r2];have hq:Ue (-A)*Ue (-A)%bP=(-A)%bP:=hq;generalize Ue (-A)=t at *
   refine(Qga ⟨?_,?_⟩).symm
   ·show(0*0-t*t)%bP=A%bP;have:=Ua hq;rwa[Int.neg_neg,show -(t*t)=0*0-t*t by omega]at this
   ·show(0*t+t*0)%bP=B%bP;rw[Oac,Oab,hz];rfl
 have hB0:=Wc b4 h;refine⟨⟨Q6 v2,Q6 v3⟩,fun a5 _=>?_⟩;have v5:e 5=Qr (A*A+B*B):=by
  rw[show e 5=Qr (Qo (e 2)*Qo (e 2)+Qo (e 3)*Qo (e 3))from a5];exact Z3 (Xz (Q4 (Xl v2) (Xl v2)) (Q4 (Xl v3) (Xl v3)))
 refine⟨Q6 v5,fun a6 _ a7 _ a8 _=>?_⟩;have v6:=rtE (show e 6=Qr (Ue (Qo (e 5)))from a6) v5;have v7:=sqE (show e 7=bj (sqV (Qo (e 5)))from a7) v5;have b8:=Ju a8;simp only[Ql]at b8;refine⟨fun h=>?_,fun h=>?_⟩
 ·have hq:=Qly v7 (Xn b8 h);refine(Qd7 (fun hs=>hq ?_)).symm;obtain⟨n,c,d,h1,_⟩:=Qq2 hs Qja;exact Qyi h1
 have hq:=Qcp v7 (Wc b8 h);obtain⟨s,hs⟩:∃s,s=Ue (A*A+B*B):=⟨_,rfl⟩
 rw[<- hs]at v6;have hss:s*s%bP=(A*A+B*B)%bP:=by rw[hs];exact hq
 have hss':-s * -s%bP=(A*A+B*B)%bP:=by rw[Hv];exact hss
 refine⟨trivial,fun a9 _=>⟨trivial,fun a10 _=>?_⟩⟩;have v9:e 9=Qr 1:=a9;have v10:e 10=Qr 1:=a10;refine⟨⟨Q6 v9,Q6 v10⟩,fun a11 _=>?_⟩;have v11:=Qfo (show e 11=Qr (Qo (e 9)+Qo (e 10))from a11) v9 v10;refine⟨Q6 v11,fun a12 _=>?_⟩;have v12:e 12=Qr (Bh 2):=Zvc (show e 12=Qr (Qo (e 11)^(bP-2).toNat)from a12) v11;refine⟨⟨Q6 v2,Q6 v6⟩,fun a157 _=>?_⟩;have v157:=Qfo (show e 157=Qr (Qo (e 2)+Qo (e 6))from a157) v2 v6;refine⟨⟨Q6 v157,Q6 v12⟩,fun a253 _=>?_⟩;have v253:=Qdh (show e 253=Qr (Qo (e 157)*Qo (e 12))from a253) v157 v12;refine⟨Q6 v253,fun a301 _ a302 _=>?_⟩;have v301:=rtE (show e 301=Qr (Ue (Qo (e 253)))from a301) v253;have v302:=sqE (show e 302=bj (sqV (Qo (e 253)))from a302) v253;refine⟨fun h=>?_,fun h=>?_⟩
 ·exact Qj3 (T:=[Qhi f1,Qca f2,Qab f3,Qgy f4,B9 f5,Qg8 f6,Qb1 f7,Qkv f8,Qay f9]) rfl rfl rfl rfl 301 877 925 973 1069 hss hB0 v3 v301 (Qcp v302 h)
 have n1:=Qly v302 h;refine⟨Q6 v6,fun a637 _=>?_⟩;have v637:=Zsx (show e 637=Qr (-Qo (e 6))from a637) v6;refine⟨⟨Q6 v2,Q6 v637⟩,fun a782 _=>?_⟩;have v782:=Qfo (show e 782=Qr (Qo (e 2)+Qo (e 637))from a782) v2 v637;refine⟨⟨Q6 v782,Q6 v12⟩,fun a878 _=>?_⟩;have v878:=Qdh (show e 878=Qr (Qo (e 782)*Qo (e 12))from a878) v782 v12;refine⟨Q6 v878,fun a926 _ a927 _=>?_⟩;have v926:=rtE (show e 926=Qr (Ue (Qo (e 878)))from a926) v878;have v927:=sqE (show e 927=bj (sqV (Qo (e 878)))from a927) v878;refine⟨fun h=>?_,fun h=>?_⟩
 ·exact Qj3 (T:=[Qhi f1,Qca f2,Qab f3,Qgy f4,B9 f5,Qg8 f6,Qb1 f7,Qkv f8,Qay f9]) rfl rfl rfl rfl 926 1502 1550 1598 1694 hss' hB0 v3 v926 (Qcp v927 h)
 have n2:=Qly v927 h;refine⟨Q6 v637,fun a1262 _=>?_⟩;refine(Qd7 (fun hq2=>?_)).symm;obtain⟨n,c,d,h1,h2,_⟩:=Qq2 hq2 Qja;rcases Zw8 (hss.trans h1)with hn|hn
 ·exact n1 (Qyi ((Q4 (Xz (p:=bP) (a:=A) (A:=A) rfl hn) rfl).trans h2))
 ·have hn':(-s)%bP=n%bP:=by have:=Ua hn;rwa[Int.neg_neg]at this
  exact n2 (Qyi ((Q4 (Xz (p:=bP) (a:=A) (A:=A) rfl hn') rfl).trans h2))
def Zwc:Qq:=(xw 0 [.n 4] 2 Z7
(xw 0 [.n 4] 3 Z7
(xw 3 [.v 0,.v 1,.v 0,.v 1] 100 Yo
(xw 3 [.v 100,.v 101,.v 0,.v 1] 196 Yo
(xw 2 [.v 196,.v 197,.v 2,.v 3] 292 Yo
(xw 1 [.v 292,.v 293] 340 [.num,.num,kI]
(.l 676 .bit (.c .eql (.v 342) (.n 0))
(.ret [.v 0,.v 1,.v 340,.v 341,.n 0,.v 676]))))))))
theorem Zlr(f1 f2 f3 f4 f:FuncId)(e:Nat->Int):Zwc.Xat [kOf f1,Qlh f2,Qia f3,Qpq f4] ⟨fun ys=>ys=(Zss f).sem [e 0,e 1],[]⟩ e:=by
 show Zwc.Xat _ ⟨fun ys=>ys=[e 0,e 1,(rt2 (Ya (e 0,e 1))).1,(rt2 (Ya (e 0,e 1))).2,0,bj (Y0 (Ya (e 0,e 1)))],[]⟩ e;refine⟨trivial,fun a2 _=>⟨trivial,fun a3 _=>⟨trivial,fun a4 _ a5 _=>⟨trivial,fun a6 _ a7 _=>⟨trivial,fun a8 _ a9 _=>⟨trivial,fun a10 _ a11 _ a12 _ a13 _=>?_⟩⟩⟩⟩⟩⟩;have q1:S2 (e 100,e 101) (R2.mul (e 0,e 1) (e 0,e 1)):=⟨by rw[show e 100=_ from a4];exact Za _,by rw[show e 101=_ from a5];exact Za _⟩
 have q2:S2 (e 196,e 197) (R2.mul (R2.mul (e 0,e 1) (e 0,e 1)) (e 0,e 1)):=X3 ⟨by rw[show e 196=_ from a6];exact Za _,by rw[show e 197=_ from a7];exact Za _⟩ (Q3 q1 (Ww _));have q3:S2 (e 292,e 293) (Ya (e 0,e 1)):=by
  refine X3 (b:=R2.add (e 196,e 197) (e 2,e 3)) ⟨by rw[show e 292=_ from a8];exact Za _,by rw[show e 293=_ from a9];exact Za _⟩ ?_;rw[show e 2=4 from a2,show e 3=4 from a3];exact Wu q2 (Ww _)
 obtain⟨r1,r2⟩:=Zqa q3;have b13:=Zy a13;simp only[Ql,Qn]at b13;have hv:[e 340,e 341,e 342]=J3 (e 292,e 293):=by
  have hl:∃a b c,J3 (e 292,e 293)=[a,b,c]:=by
   by_cases h:Y0 (e 292,e 293)
   ·exact⟨_,_,_,Qkr h⟩
   ·exact⟨_,_,_,Qd7 h⟩
  rw[show e 340=(J3 (e 292,e 293)).getD 0 0 from a10,show e 341=(J3 (e 292,e 293)).getD 1 0 from a11,show e 342=(J3 (e 292,e 293)).getD 2 0 from a12];obtain⟨a,b,c,h⟩:=hl;rw[h];rfl
 show[e 0,e 1,e 340,e 341,0,e 676]=_;by_cases h:Y0 (Ya (e 0,e 1))
 ·rw[Qkr (r2.2 h),r1]at hv;injection hv with h1 hv;injection hv with h2 hv;injection hv with h3 hv;rw[h1,h2,Ql9 h];rcases b13 with⟨g,_⟩|⟨_,g⟩
  ·rw[g]
  ·exact absurd h3 g
 ·rw[Qd7 (fun hc=>h (r2.1 hc))]at hv;injection hv with h1 hv;injection hv with h2 hv;injection hv with h3 hv;rw[Qpr h,Qcj h,h1,h2];rcases b13 with⟨_,g⟩|⟨g,_⟩
  ·rw[h3]at g;exact absurd g (by decide)
  ·rw[g]
end Go.Sx


namespace Go.Sx
open Go Go.RowKit
set_option maxRecDepth 100000
def br0(b:List Int):Int:=Xr (b.drop 48)
theorem Zx2(c:E2):S2 (R2.mul (ng2 c) (ng2 c)) (R2.mul c c):=by
 have h:S2 (ng2 c) (-c.1,-c.2):=⟨Za _,Za _⟩
 refine X3 (Q3 h h) (Zrf (Prod.ext ?_ ?_))
 ·show -c.1 * -c.1 - -c.2 * -c.2=c.1*c.1-c.2*c.2;rw[Hv,Hv]
 ·show -c.1 * -c.2 + -c.2 * -c.1=c.1*c.2+c.2*c.1;rw[Hv,Hv]
theorem Zn0(c:E2):S2 (R2.mul (Wd c) (Wd c)) (R2.mul c c):=by
 unfold Wd;split
 ·exact Zx2 c
 ·exact Ww _
theorem Zsr{a:E2}(h:Y0 a):S2 (R2.mul (rt2 a) (rt2 a)) a:=by
 obtain⟨y,hy⟩:=h;have h1:S2 (R2.mul (R2.md y) (R2.md y)) a:=X3 (Q3 (Qhd y) (Qhd y)) hy;rw[Qio (Qcn y) h1];exact X3 (Zn0 _) h1
theorem Zsg{x y:Int}(hx:x<bP)(hy:y<bP)(h:Y0 (Ya (x,y))):Qhl x y (rt2 (Ya (x,y))).1 (rt2 (Ya (x,y))).2 0 :=
 (Qdt rfl).2 ⟨⟨⟨hx,hy⟩,(Qua _).1.2,(Qua _).2.2⟩,Qji (Zsr h)⟩
end Go.Sx
namespace Go.Sx
class Cr (α:Type) where
 add:α->α->α
 mul:α->α->α
 neg:α->α
 zero:α
 one:α
 add_assoc:∀a b c,add (add a b) c=add a (add b c)
 add_comm:∀a b,add a b=add b a
 add_zero:∀a,add a zero=a
 add_neg:∀a,add a (neg a)=zero
 mul_assoc:∀a b c,mul (mul a b) c=mul a (mul b c)
 mul_comm:∀a b,mul a b=mul b a
 mul_one:∀a,mul a one=a
 mul_add:∀a b c,mul a (add b c)=add (mul a b) (mul a c)
namespace Cr
variable {α:Type}[Cr α]
theorem zero_add(a:α):add zero a=a:=by rw[add_comm,add_zero]
theorem Wr(a b c:α):add a (add b c)=add b (add a c):=by rw[<- add_assoc,add_comm a b,add_assoc]
theorem Qi3{a b c:α}(h:add a b=add a c):b=c:=by
 have h2:add (neg a) (add a b)=add (neg a) (add a c):=by rw[h]
 rwa[<- add_assoc,<- add_assoc,add_comm (neg a),add_neg,zero_add,zero_add]at h2
theorem mul_zero(a:α):mul a zero=zero:=by
 refine Qi3 (a:=mul a zero) ?_;rw[<- mul_add,add_zero,add_zero]
theorem Yd{a b:α}(h:add a b=zero):b=neg a:=Qi3 (a:=a) (by rw[h,add_neg])
theorem mul_neg(a b:α):mul a (neg b)=neg (mul a b):=Yd (by rw[<- mul_add,add_neg,mul_zero])
theorem neg_mul(a b:α):mul (neg a) b=neg (mul a b):=by rw[mul_comm,mul_neg,mul_comm]
theorem neg_neg(a:α):neg (neg a)=a:=(Yd (by rw[add_comm,add_neg])).symm
theorem Z0:neg (zero:α)=zero:=(Yd (add_zero _)).symm
theorem Zn5(a b:α):neg (add a b)=add (neg a) (neg b):=by
 refine(Yd ?_).symm;rw[add_assoc,Wr b,add_neg,add_zero,add_neg]
theorem mul_left_comm(a b c:α):mul a (mul b c)=mul b (mul a c):=by rw[<- mul_assoc,mul_comm a b,mul_assoc]
end Cr
instance  (priority:=low){α:Type}[Cr α]:Add α:=⟨Cr.add⟩
instance  (priority:=low){α:Type}[Cr α]:Mul α:=⟨Cr.mul⟩
instance  (priority:=low){α:Type}[Cr α]:Neg α:=⟨Cr.neg⟩
instance  (priority:=low){α:Type}[Cr α]:Sub α:=⟨fun a b=>Cr.add a (Cr.neg b)⟩
instance  (priority:=low){α:Type}[Cr α]:OfNat α 0:=⟨Cr.zero⟩
instance  (priority:=low){α:Type}[Cr α]:OfNat α 1:=⟨Cr.one⟩
inductive PE where
 |v (n:Nat)|pa (a b:PE)|pm (a b:PE)|pn (a:PE)|p0|p1
namespace PE
instance:Add PE:=⟨PE.pa⟩
instance:Mul PE:=⟨PE.pm⟩
instance:Neg PE:=⟨PE.pn⟩
instance:Sub PE:=⟨fun a b=>PE.pa a (PE.pn b)⟩
def ev{α:Type}[Cr α](r:Nat->α):PE->α
 |v n=>r n
 |pa a b=>Cr.add (a.ev r) (b.ev r)
 |pm a b=>Cr.mul (a.ev r) (b.ev r)
 |pn a=>Cr.neg (a.ev r)
 |p0=>Cr.zero
 |p1=>Cr.one
abbrev Mo:=Bool×List Nat
def Vi{α:Type}[Cr α](r:Nat->α):List Nat->α
 |[]=>Cr.one
 |n::l=>Cr.mul (r n) (Vi r l)
def moE{α:Type}[Cr α](r:Nat->α)(m:Mo):α:=if m.1 then Cr.neg (Vi r m.2)else Vi r m.2
def smE{α:Type}[Cr α](r:Nat->α):List Mo->α
 |[]=>Cr.zero
 |m::l=>Cr.add (moE r m) (smE r l)
def Zeb(n:Nat):List Nat->List Nat
 |[]=>[n]
 |m::l=>if Nat.ble n m then n::m::l else m::Zeb n l
def mulN:List Nat->List Nat->List Nat
 |[],b=>b
 |n::a,b=>Zeb n (mulN a b)
def ltL:List Nat->List Nat->Bool
 |[],[]=>false
 |[],_::_=>true
 |_::_,[]=>false
 |a::aq,b::bs=>if a==b then ltL aq bs else Nat.blt a b
def Qqz(m:Mo):List Mo->List Mo
 |[]=>[m]
 |k::l=>if m.2==k.2 then(if m.1==k.1 then m::k::l else l)else if ltL m.2 k.2 then m::k::l else k::Qqz m l
def Qwb:List Mo->List Mo->List Mo
 |[],b=>b
 |m::a,b=>Qqz m (Qwb a b)
def Zov(l:List Mo):List Mo:=l.map fun m=>(!m.1,m.2)
def Zek(m k:Mo):Mo:=(m.1 != k.1,mulN m.2 k.2)
def Zin(m:Mo):List Mo->List Mo
 |[]=>[]
 |k::l=>Qqz (Zek m k) (Zin m l)
def Zij:List Mo->List Mo->List Mo
 |[],_=>[]
 |m::a,b=>Qwb (Zin m b) (Zij a b)
def nf:PE->List Mo
 |v n=>[(false,[n])]
 |pa a b=>Qwb a.nf b.nf
 |pm a b=>Zij a.nf b.nf
 |pn a=>Zov a.nf
 |p0=>[]
 |p1=>[(false,[])]
section
variable {α:Type}[Cr α](r:Nat->α)
open Cr
theorem Qx7(n:Nat):∀l,Vi r (Zeb n l)=mul (r n) (Vi r l)
 |[]=>rfl
 |m::l=>by
  unfold Zeb;split
  ·rfl
  ·show mul (r m) (Vi r (Zeb n l))=mul (r n) (mul (r m) (Vi r l));rw[Qx7 n l,mul_left_comm]
theorem Qea:∀a b,Vi r (mulN a b)=mul (Vi r a) (Vi r b)
 |[],b=>by show Vi r b=mul one (Vi r b);rw[mul_comm,mul_one]
 |n::a,b=>by
  show Vi r (Zeb n (mulN a b))=mul (mul (r n) (Vi r a)) (Vi r b);rw[Qx7,Qea a b,mul_assoc]
theorem Znn{m k:Mo}(h:m.2=k.2)(h1:m.1≠k.1):add (moE r m) (moE r k)=zero:=by
 obtain⟨a,l⟩:=m;obtain⟨b,l'⟩:=k;cases h;cases a <;> cases b <;> first|exact absurd rfl h1|skip
 ·show add (Vi r l) (neg (Vi r l))=zero;exact add_neg _
 ·show add (neg (Vi r l)) (Vi r l)=zero;rw[add_comm];exact add_neg _
theorem Qoj(m:Mo):∀l,smE r (Qqz m l)=add (moE r m) (smE r l)
 |[]=>rfl
 |k::l=>by
  unfold Qqz;split
  ·rename_i h;rw[beq_iff_eq]at h;split
   ·rfl
   ·rename_i h1;show smE r l=add (moE r m) (add (moE r k) (smE r l));rw[<- add_assoc,Znn r h (fun hc=>h1 (beq_iff_eq.2 hc)),zero_add]
  ·split
   ·rfl
   ·show add (moE r k) (smE r (Qqz m l))=add (moE r m) (add (moE r k) (smE r l));rw[Qoj m l,Wr]
theorem Qoz:∀a b,smE r (Qwb a b)=add (smE r a) (smE r b)
 |[],b=>by show smE r b=add zero (smE r b);rw[zero_add]
 |m::a,b=>by
  show smE r (Qqz m (Qwb a b))=add (add (moE r m) (smE r a)) (smE r b);rw[Qoj,Qoz a b,add_assoc]
theorem Znc(m:Mo):moE r (!m.1,m.2)=neg (moE r m):=by
 obtain⟨a,l⟩:=m;cases a
 ·rfl
 ·show Vi r l=neg (neg (Vi r l));rw[neg_neg]
theorem Qzp:∀l,smE r (Zov l)=neg (smE r l)
 |[]=>(Z0).symm
 |m::l=>by
  show add (moE r (!m.1,m.2)) (smE r (Zov l))=neg (add (moE r m) (smE r l));rw[Znc,Qzp l,Zn5]
theorem Ze6(m k:Mo):moE r (Zek m k)=mul (moE r m) (moE r k):=by
 obtain⟨a,l⟩:=m;obtain⟨b,l'⟩:=k;cases a <;> cases b
 ·exact Qea r l l'
 ·show neg (Vi r (mulN l l'))=mul (Vi r l) (neg (Vi r l'));rw[Qea,mul_neg]
 ·show neg (Vi r (mulN l l'))=mul (neg (Vi r l)) (Vi r l');rw[Qea,neg_mul]
 ·show Vi r (mulN l l')=mul (neg (Vi r l)) (neg (Vi r l'));rw[Qea,neg_mul,mul_neg,neg_neg]
theorem Qx4(m:Mo):∀l,smE r (Zin m l)=mul (moE r m) (smE r l)
 |[]=>(mul_zero _).symm
 |k::l=>by
  show smE r (Qqz (Zek m k) (Zin m l))=mul (moE r m) (add (moE r k) (smE r l));rw[Qoj,Qx4 m l,Ze6,mul_add]
theorem Qyj:∀a b,smE r (Zij a b)=mul (smE r a) (smE r b)
 |[],b=>by show zero=mul zero (smE r b);rw[mul_comm,mul_zero]
 |m::a,b=>by
  show smE r (Qwb (Zin m b) (Zij a b))=mul (add (moE r m) (smE r a)) (smE r b);rw[Qoz,Qx4,Qyj a b,mul_comm (add _ _),mul_add,mul_comm (moE r m),mul_comm (smE r a)]
theorem Qk5:∀a:PE,smE r a.nf=a.ev r
 |v n=>by show add (mul (r n) one) zero=r n;rw[add_zero,mul_one]
 |.pa a b=>by show smE r (Qwb a.nf b.nf)=_;rw[Qoz,Qk5 a,Qk5 b];rfl
 |.pm a b=>by show smE r (Zij a.nf b.nf)=_;rw[Qyj,Qk5 a,Qk5 b];rfl
 |.pn a=>by show smE r (Zov a.nf)=_;rw[Qzp,Qk5 a];rfl
 |.p0=>rfl
 |.p1=>by show add one zero=one;rw[add_zero]
end
def eqL:List Mo->List Mo->Bool
 |[],[]=>true
 |a::aq,b::bs=>a.1==b.1&&(a.2==b.2&&eqL aq bs)
 |_,_=>false
theorem Zfx:∀ {a b:List Mo},eqL a b=true->a=b
 |[],[],_=>rfl
 |a::aq,b::bs,h=>by
  simp only[eqL,Bool.and_eq_true,beq_iff_eq]at h;rw[Zfx h.2.2,Prod.ext h.1 h.2.1]
 |[],_::_,h=>by simp[eqL]at h
 |_::_,[],h=>by simp[eqL]at h
theorem same{α:Type}[Cr α](r:Nat->α)(a b:PE)(h:eqL a.nf b.nf=true):a.ev r=b.ev r:=by
 rw[<- Qk5 r a,<- Qk5 r b,Zfx h]
end PE
def rho{α:Type}[Cr α](l:List α)(n:Nat):α:=match l with
 |[]=>Cr.zero
 |a::r=>match n with|0=>a|n+1=>rho r n
end Go.Sx
namespace Go.Sx
open Cr
class Fd (α:Type) extends Cr α where
 inv_ex:∀a:α,a≠Cr.zero->∃b,Cr.mul a b=Cr.one
 one_ne:(Cr.one:α)≠Cr.zero
 two_ne:Cr.add (Cr.one:α) Cr.one≠Cr.zero
section
variable {F:Type}[Fd F]
theorem Xb{a b:F}(ha:a≠0)(hb:b≠0):a*b≠0:=fun h=>by
 obtain⟨i,hi⟩:=Fd.inv_ex a ha;refine hb ?_;have h2:i*(a*b)=i*0:=by rw[h]
 have h3:i*(a*b)=b:=by
  show mul i (mul a b)=b;rw[<- mul_assoc,mul_comm i a,hi,mul_comm,mul_one]
 rw[<- h3,h2];exact mul_zero _
theorem W3{a b:F}(h:a*b=0):a=0∨b=0:=by
 by_cases ha:a=0
 ·exact .inl ha
 ·by_cases hb:b=0
  ·exact .inr hb
  ·exact absurd h (Xb ha hb)
end
def PS(F:Type):Type:=Nat->F
section
variable {F:Type}[Cr F]
def sh(f:Nat->F):Nat->F:=fun i=>f (i+1)
def Jo(f g:Nat->F):Nat->F
 |0=>mul (f 0) (g 0)
 |n+1=>add (mul (f 0) (g (n+1))) (Jo (fun i=>f (i+1)) g n)
theorem Zrk(g:Nat->F):∀(n:Nat) (f:Nat->F),Jo f g (n+1)=add (mul (f (n+1)) (g 0)) (Jo f (sh g) n)
 |0,f=>by
  show add (mul (f 0) (g 1)) (mul (f 1) (g 0))=add (mul (f 1) (g 0)) (mul (f 0) (g 1));rw[add_comm]
 |n+1,f=>by
  show add (mul (f 0) (g (n+2))) (Jo (fun i=>f (i+1)) g (n+1))=add (mul (f (n+2)) (g 0)) (add (mul (f 0) (g (n+2))) (Jo (fun i=>f (i+1)) (sh g) n));rw[Zrk g n,Wr]
theorem Qbm:∀(n:Nat) (f g:Nat->F),Jo f g n=Jo g f n
 |0,f,g=>mul_comm _ _
 |n+1,f,g=>by
  rw[Zrk f n g];show add (mul (f 0) (g (n+1))) (Jo (fun i=>f (i+1)) g n)=_;rw[Qbm n,mul_comm (f 0)];rfl
theorem Qqa(g h:Nat->F):∀(n:Nat) (f:Nat->F),Jo f (fun i=>add (g i) (h i)) n=add (Jo f g n) (Jo f h n)
 |0,f=>mul_add _ _ _
 |n+1,f=>by
  show add (mul (f 0) (add (g (n+1)) (h (n+1)))) (Jo (fun i=>f (i+1)) (fun i=>add (g i) (h i)) n)=_;rw[Qqa g h n,mul_add];show _=add (add (mul (f 0) (g (n+1))) _) (add (mul (f 0) (h (n+1))) _);rw[add_assoc,add_assoc,Wr (mul (f 0) (h (n+1)))]
theorem Zif(c:F)(g:Nat->F):∀(n:Nat) (f:Nat->F),Jo (fun i=>mul c (f i)) g n=mul c (Jo f g n)
 |0,f=>mul_assoc _ _ _
 |n+1,f=>by
  show add (mul (mul c (f 0)) (g (n+1))) (Jo (fun i=>mul c (f (i+1))) g n)=mul c (add (mul (f 0) (g (n+1))) (Jo (fun i=>f (i+1)) g n));rw[Zif c g n (fun i=>f (i+1)),mul_assoc,mul_add]
theorem Zuk(f h g:Nat->F)(n:Nat):Jo (fun i=>add (f i) (h i)) g n=add (Jo f g n) (Jo h g n):=by
 rw[Qbm,Qqa,Qbm n g f,Qbm n g h]
theorem Qum(g h:Nat->F):∀(n:Nat) (f:Nat->F),Jo (Jo f g) h n=Jo f (Jo g h) n
 |0,f=>mul_assoc _ _ _
 |n+1,f=>by
  have e:Jo (fun i=>Jo f g (i+1)) h n=add (mul (f 0) (Jo (fun i=>g (i+1)) h n)) (Jo (Jo (fun i=>f (i+1)) g) h n):=by
   have:(fun i=>Jo f g (i+1))=fun i=>add (mul (f 0) (g (i+1))) (Jo (fun i=>f (i+1)) g i):=rfl
   rw[this,Zuk (fun i=>mul (f 0) (g (i+1))) (Jo (fun i=>f (i+1)) g) h n,Zif (f 0) h n (fun i=>g (i+1))]
  show add (mul (mul (f 0) (g 0)) (h (n+1))) (Jo (fun i=>Jo f g (i+1)) h n)=add (mul (f 0) (add (mul (g 0) (h (n+1))) (Jo (fun i=>g (i+1)) h n))) (Jo (fun i=>f (i+1)) (Jo g h) n);rw[e,Qum g h n (fun i=>f (i+1)),mul_add,mul_assoc,add_assoc]
def Zct:Nat->F:=fun i=>match i with|0=>one|_+1=>zero
theorem Zhf(g:Nat->F):∀n,Jo (fun _=>zero) g n=zero
 |0=>by show mul zero (g 0)=zero;rw[mul_comm,mul_zero]
 |n+1=>by
  show add (mul zero (g (n+1))) (Jo (fun _=>zero) g n)=zero;rw[Zhf g n,add_zero,mul_comm,mul_zero]
theorem Qpb(g:Nat->F):∀n,Jo Zct g n=g n
 |0=>by show mul one (g 0)=g 0;rw[mul_comm,mul_one]
 |n+1=>by
  show add (mul one (g (n+1))) (Jo (fun _=>zero) g n)=g (n+1);rw[Zhf,add_zero,mul_comm,mul_one]
instance:Cr (PS F) where
 add f g:=fun i=>add (f i) (g i)
 mul f g:=Jo f g
 neg f:=fun i=>neg (f i)
 zero:=fun _=>zero
 one:=Zct
 add_assoc a b c:=funext fun i=>add_assoc _ _ _
 add_comm a b:=funext fun i=>add_comm _ _
 add_zero a:=funext fun i=>add_zero _
 add_neg a:=funext fun i=>add_neg _
 mul_assoc a b c:=funext fun i=>Qum b c i a
 mul_comm a b:=funext fun i=>Qbm i a b
 mul_one a:=funext fun i=>(Qbm i a Zct).trans (Qpb a i)
 mul_add a b c:=funext fun i=>Qqa b c i a
def Wm(n:Nat)(f:Nat->F):Prop:=∀i,n<i->f i=zero
theorem Q8{m n:Nat}{f:Nat->F}(h:Wm m f)(hm:m<=n):Wm n f:=fun i hi=>h i (by omega)
theorem Qen{n:Nat}{f g:Nat->F}(hf:Wm n f)(hg:Wm n g):Wm n (fun i=>add (f i) (g i)):=fun i hi=>by
 show add (f i) (g i)=zero;rw[hf i hi,hg i hi,add_zero]
theorem Qzq{n:Nat}{f:Nat->F}(hf:Wm n f):Wm n (fun i=>neg (f i)):=fun i hi=>by
 show neg (f i)=zero;rw[hf i hi,Z0]
theorem Qsl{f:Nat->F}(h:Wm 0 f)(g:Nat->F):∀n,Jo f g n=mul (f 0) (g n)
 |0=>rfl
 |n+1=>by
  show add (mul (f 0) (g (n+1))) (Jo (fun i=>f (i+1)) g n)=_;rw[show(fun i=>f (i+1))=fun _=>zero from funext fun i=>h (i+1) (by omega),Zhf,add_zero]
theorem Qr0{n:Nat}{g:Nat->F}(hg:Wm n g):∀(m:Nat) (f:Nat->F),Wm m f->Wm (m+n) (Jo f g)/\Jo f g (m+n)=mul (f m) (g n)
 |0,f,hf=>by
  refine⟨fun i hi=>?_,?_⟩
  ·rw[Qsl hf,hg i (by omega),mul_zero]
  ·rw[Qsl hf,Nat.zero_add]
 |m+1,f,hf=>by
  obtain⟨h1,h2⟩:=Qr0 hg m (fun i=>f (i+1)) (fun i hi=>hf (i+1) (by omega));refine⟨fun i hi=>?_,?_⟩
  ·obtain⟨j,rfl⟩:∃j,i=j+1:=⟨i-1,by omega⟩
   show add (mul (f 0) (g (j+1))) (Jo (fun i=>f (i+1)) g j)=zero;rw[hg (j+1) (by omega),h1 j (by omega),mul_zero,add_zero]
  ·rw[show m+1+n=(m+n)+1 by omega];show add (mul (f 0) (g (m+n+1))) (Jo (fun i=>f (i+1)) g (m+n))=_;rw[hg (m+n+1) (by omega),h2,mul_zero,zero_add]
def hE(x:F):Nat->(Nat->F)->F
 |0,f=>f 0
 |n+1,f=>add (f 0) (mul x (hE x n (fun i=>f (i+1))))
theorem Zw4(x:F):∀n,hE x n (fun _=>zero)=zero
 |0=>rfl
 |n+1=>by show add zero (mul x (hE x n (fun _=>zero)))=zero;rw[Zw4 x n,mul_zero,add_zero]
theorem Qz0(x:F):∀(n:Nat) (f:Nat->F),Wm n f->∀k,hE x (n+k) f=hE x n f
 |0,f,h,0=>rfl
 |0,f,h,k+1=>by
  rw[show 0+(k+1)=(0+k)+1 by omega];show add (f 0) (mul x (hE x (0+k) (fun i=>f (i+1))))=f 0;rw[show(fun i=>f (i+1))=fun _=>zero from funext fun i=>h (i+1) (by omega),Zw4,mul_zero,add_zero]
 |n+1,f,h,k=>by
  rw[show n+1+k=(n+k)+1 by omega];show add (f 0) (mul x (hE x (n+k) (fun i=>f (i+1))))=add (f 0) (mul x (hE x n (fun i=>f (i+1))));rw[Qz0 x n _ (fun i hi=>h (i+1) (by omega)) k]
theorem Ztw{x:F}{m n:Nat}{f:Nat->F}(hm:Wm m f)(hn:Wm n f):hE x m f=hE x n f:=by
 rcases Nat.le_total m n with h|h
 ·obtain⟨k,rfl⟩:=Nat.exists_eq_add_of_le h;exact(Qz0 x m f hm k).symm
 ·obtain⟨k,rfl⟩:=Nat.exists_eq_add_of_le h;exact Qz0 x n f hn k
theorem Qwr(x:F):∀(n:Nat) (f g:Nat->F),hE x n (fun i=>add (f i) (g i))=add (hE x n f) (hE x n g)
 |0,f,g=>rfl
 |n+1,f,g=>by
  show add (add (f 0) (g 0)) (mul x (hE x n (fun i=>add (f (i+1)) (g (i+1)))))=add (add (f 0) _) (add (g 0) _);rw[Qwr x n (fun i=>f (i+1)) (fun i=>g (i+1)),mul_add,add_assoc,add_assoc,Wr (g 0)]
theorem Zkv(x c:F):∀(n:Nat) (f:Nat->F),hE x n (fun i=>mul c (f i))=mul c (hE x n f)
 |0,f=>rfl
 |n+1,f=>by
  show add (mul c (f 0)) (mul x (hE x n (fun i=>mul c (f (i+1)))))=mul c (add (f 0) _);rw[Zkv x c n (fun i=>f (i+1)),mul_add,mul_left_comm]
theorem Zey{x:F}{n:Nat}{g:Nat->F}(hg:Wm n g):∀(m:Nat) (f:Nat->F),Wm m f->hE x (m+n) (Jo f g)=mul (hE x m f) (hE x n g)
 |0,f,hf=>by
  rw[show Jo f g=fun i=>mul (f 0) (g i)from funext fun i=>Qsl hf g i,Zkv,Nat.zero_add];rfl
 |m+1,f,hf=>by
  have hf':Wm m (fun i=>f (i+1)):=fun i hi=>hf (i+1) (by omega)
  have ih:=Zey (x:=x) hg m (fun i=>f (i+1)) hf';rw[show m+1+n=(m+n)+1 by omega];show add (mul (f 0) (g 0)) (mul x (hE x (m+n) (fun i=>add (mul (f 0) (g (i+1))) (Jo (fun i=>f (i+1)) g i))))=mul (add (f 0) (mul x (hE x m (fun i=>f (i+1))))) (hE x n g);rw[Qwr x _ (fun i=>mul (f 0) (g (i+1))),Zkv x (f 0) _ (fun i=>g (i+1)),ih];have hst:add (g 0) (mul x (hE x (m+n) (fun i=>g (i+1))))=hE x n g:=by
   have:=Qz0 x n g hg (m+1);rw[show n+(m+1)=(m+n)+1 by omega]at this;exact this
  rw[mul_comm (add (f 0) _),mul_add,<- hst];generalize hE x (m+n) (fun i=>g (i+1))=G;generalize hE x m (fun i=>f (i+1))=K;generalize g 0=g0;generalize f 0=f0;exact PE.same (rho [f0,g0,x,G,K]) (PE.v 0*PE.v 1+(PE.v 2*(PE.v 0*PE.v 3)+PE.v 2*(PE.v 4*(PE.v 1+PE.v 2*PE.v 3)))) ((PE.v 1+PE.v 2*PE.v 3)*(PE.v 0+PE.v 2*PE.v 4)) rfl
end
def Po(F:Type)[Cr F]:Type:={f:Nat->F // ∃n,Wm n f }
section
variable {F:Type}[Cr F]
theorem Yu{p q:Po F}(h:∀i,p.1 i=q.1 i):p=q:=Subtype.ext (funext h)
instance:Cr (Po F) where
 add p q:=⟨fun i=>add (p.1 i) (q.1 i),by
  obtain⟨m,hm⟩:=p.2;obtain⟨n,hn⟩:=q.2;exact⟨m+n,Qen (Q8 hm (by omega)) (Q8 hn (by omega))⟩⟩
 mul p q:=⟨Jo p.1 q.1,by
  obtain⟨m,hm⟩:=p.2;obtain⟨n,hn⟩:=q.2;exact⟨m+n,(Qr0 hn m _ hm).1⟩⟩
 neg p:=⟨fun i=>neg (p.1 i),by
  obtain⟨m,hm⟩:=p.2;exact⟨m,Qzq hm⟩⟩
 zero:=⟨fun _=>zero,0,fun _ _=>rfl⟩
 one:=⟨Zct,0,fun i hi=>by match i,hi with|i+1,_=>rfl⟩
 add_assoc a b c:=Subtype.ext (funext fun i=>add_assoc _ _ _)
 add_comm a b:=Subtype.ext (funext fun i=>add_comm _ _)
 add_zero a:=Subtype.ext (funext fun i=>add_zero _)
 add_neg a:=Subtype.ext (funext fun i=>add_neg _)
 mul_assoc a b c:=Subtype.ext (funext fun i=>Qum b.1 c.1 i a.1)
 mul_comm a b:=Subtype.ext (funext fun i=>Qbm i a.1 b.1)
 mul_one a:=Subtype.ext (funext fun i=>(Qbm i a.1 Zct).trans (Qpb a.1 i))
 mul_add a b c:=Subtype.ext (funext fun i=>Qqa b.1 c.1 i a.1)
def Cc(c:F):Po F:=⟨fun i=>match i with|0=>c|_+1=>zero,0,fun i hi=>by match i,hi with|i+1,_=>rfl⟩
def Xx:Po F:=⟨fun i=>match i with|1=>one|_=>zero,1,fun i hi=>by match i,hi with|i+2,_=>rfl⟩
theorem W0(c d:F):Cc (c+d)=Cc c+Cc d:=Yu fun i=>by
 match i with
 |0=>rfl
 |i+1=>exact(add_zero _).symm
theorem Qbo(c:F):Cc (-c)=-Cc c:=Yu fun i=>by
 match i with
 |0=>rfl
 |i+1=>exact Z0.symm
theorem X6(c d:F):Cc (c*d)=Cc c*Cc d:=Yu fun i=>by
 show _=Jo (Cc c).1 (Cc d).1 i;rw[Qsl (fun i hi=>by match i,hi with|i+1,_=>rfl)]
 match i with
 |0=>rfl
 |i+1=>exact(mul_zero _).symm
theorem Qqj:(Cc 0:Po F)=0:=Yu fun i=>by
 match i with
 |0=>rfl
 |i+1=>rfl
theorem Qwc:(Cc 1:Po F)=1:=Yu fun i=>by
 match i with
 |0=>rfl
 |i+1=>rfl
theorem Qc0(p:Po F)(i:Nat):(Xx*p).1 (i+1)=p.1 i:=by
 show add (mul zero (p.1 (i+1))) (Jo (fun i=>(Xx:Po F).1 (i+1)) p.1 i)=_;rw[show(fun i=>(Xx:Po F).1 (i+1))=Zct from funext fun i=>by
  match i with
  |0=>rfl
  |i+1=>rfl]
 rw[Qpb,mul_comm,mul_zero,zero_add]
theorem Qh5(p:Po F):(Xx*p).1 0=zero:=by
 show mul zero (p.1 0)=zero;rw[mul_comm,mul_zero]
noncomputable def Xj(x:F)(p:Po F):F:=hE x p.2.choose p.1
theorem Qb2{x:F}{p:Po F}{n:Nat}(h:Wm n p.1):Xj x p=hE x n p.1:=Ztw p.2.choose_spec h
theorem Z5(x:F)(p q:Po F):Xj x (p+q)=Xj x p+Xj x q:=by
 obtain⟨m,hm⟩:=p.2;obtain⟨n,hn⟩:=q.2;have h1:Wm (m+n) p.1:=Q8 hm (by omega);have h2:Wm (m+n) q.1:=Q8 hn (by omega);rw[Qb2 (p:=p+q) (Qen h1 h2),Qb2 h1,Qb2 h2];exact Qwr x _ _ _
theorem Zq(x:F)(p q:Po F):Xj x (p*q)=Xj x p*Xj x q:=by
 obtain⟨m,hm⟩:=p.2;obtain⟨n,hn⟩:=q.2;rw[Qb2 (p:=p*q) (Qr0 hn m _ hm).1,Qb2 hm,Qb2 hn];exact Zey hn m _ hm
theorem Wp(x c:F):Xj x (Cc c)=c:=Qb2 (n:=0) fun i hi=>by match i,hi with|i+1,_=>rfl
theorem Qg3(x:F):Xj x (0:Po F)=0:=by rw[<- Qqj,Wp]
theorem Qr7(x:F):Xj x (1:Po F)=1:=by rw[<- Qwc,Wp]
theorem Qb0(x:F):Xj x (Xx:Po F)=x:=by
 rw[Qb2 (n:=1) (fun i hi=>by match i,hi with|i+2,_=>rfl)];show add zero (mul x one)=x;rw[mul_one,zero_add]
theorem Ud(x:F)(p:Po F):Xj x (-p)=-Xj x p:=by
 refine Yd ?_;have:=Z5 x p (-p);rw[show p + -p=(0:Po F)from add_neg p,Qg3]at this;exact this.symm
theorem Zxe(x:F):∀(n:Nat) (p:Po F),Wm n p.1->∃q:Po F,p=(Xx + -Cc x)*q+Cc (Xj x p)
 |0,p,h=>by
  refine⟨0,?_⟩;have hp:p=Cc (p.1 0):=Yu fun i=>by
   match i with
   |0=>rfl
   |i+1=>exact h (i+1) (by omega)
  have h2:Xj x p=p.1 0:=by rw[hp,Wp];rfl
  rw[h2,<- hp];exact PE.same (rho [p,Xx,Cc x]) (PE.v 0) ((PE.v 1 + -PE.v 2)*PE.p0+PE.v 0) rfl
 |n+1,p,h=>by
  let s:Po F:=⟨fun i=>p.1 (i+1),n,fun i hi=>h (i+1) (by omega)⟩
  obtain⟨q,hq⟩:=Zxe x n s (fun i hi=>h (i+1) (by omega));have hp:p=Cc (p.1 0)+Xx*s:=Yu fun i=>by
   match i with
   |0 =>
    show p.1 0=add (p.1 0) ((Xx*s).1 0);rw[Qh5,add_zero]
   |i+1 =>
    show p.1 (i+1)=add zero ((Xx*s).1 (i+1));rw[Qc0,zero_add]
  have h2:Xj x p=p.1 0+x*Xj x s:=by
   have h3:Xj x p=Xj x (Cc (p.1 0)+Xx*s):=congrArg _ hp;rw[h3,Z5,Zq,Wp,Qb0]
  refine⟨Xx*q+Cc (Xj x s),?_⟩;rw[h2,W0,X6];have h4:p=Cc (p.1 0)+Xx*((Xx + -Cc x)*q+Cc (Xj x s)):=by rw[<- hq];exact hp
  refine h4.trans ?_;exact PE.same (rho [Cc (p.1 0),Xx,Cc x,q,Cc (Xj x s)]) (PE.v 0+PE.v 1*((PE.v 1 + -PE.v 2)*PE.v 3+PE.v 4)) ((PE.v 1 + -PE.v 2)*(PE.v 1*PE.v 3+PE.v 4)+(PE.v 0+PE.v 2*PE.v 4)) rfl
theorem Qq7(x:F)(p:Po F):∃q:Po F,p=(Xx + -Cc x)*q+Cc (Xj x p):=by
 obtain⟨n,hn⟩:=p.2;exact Zxe x n p hn
def dg(n:Nat)(p:Po F):Prop:=Wm n p.1/\p.1 n≠zero
theorem Zro:∀(n:Nat) (p:Po F),Wm n p.1->p≠0->∃m,dg m p
 | 0,p,h,hp=>⟨0,h,fun h0=>hp (Yu fun i=>by
   match i with
   |0=>exact h0
   |i+1=>exact h (i+1) (by omega))⟩
 |n+1,p,h,hp=>by
  by_cases h0:p.1 (n+1)=zero
  ·exact Zro n p (fun i hi=>by
    by_cases hc:i=n+1
    ·rw[hc];exact h0
    ·exact h i (by omega)) hp
  ·exact⟨n+1,h,h0⟩
theorem Bi{p:Po F}(hp:p≠0):∃m,dg m p:=by
 obtain⟨n,hn⟩:=p.2;exact Zro n p hn hp
theorem Qrx{m n:Nat}{p:Po F}(h:dg m p)(h2:Wm n p.1):m<=n:=by
 refine Classical.byContradiction fun hc=>h.2 (h2 m (by omega))
theorem Qxt{m n:Nat}{p:Po F}(h:dg m p)(h2:dg n p):m=n:=Nat.le_antisymm (Qrx h h2.1) (Qrx h2 h.1)
theorem Qxv{n:Nat}{p:Po F}(h:dg n p):p≠0:=fun h0=>h.2 (by rw[h0];rfl)
end
section
variable {F:Type}[Fd F]
theorem Y7{m n:Nat}{p q:Po F}(hp:dg m p)(hq:dg n q):dg (m+n) (p*q):=by
 obtain⟨h1,h2⟩:=Qr0 hq.1 m _ hp.1;refine⟨h1,?_⟩;show Jo p.1 q.1 (m+n)≠zero;rw[h2];exact Xb hp.2 hq.2
theorem Qic{p q:Po F}(hp:p≠0)(hq:q≠0):p*q≠0:=by
 obtain⟨m,hm⟩:=Bi hp;obtain⟨n,hn⟩:=Bi hq;exact Qxv (Y7 hm hn)
theorem Qz8{a b c:Po F}(ha:a≠0)(h:a*b=a*c):b=c:=by
 refine Classical.byContradiction fun hc=>?_
 have h3:b + -c≠0:=fun h0=>hc (by
  have:=Yd (a:=neg c) (b:=b) (by rw[add_comm];exact h0);rw[this,neg_neg])
 refine Qic ha h3 ?_;show mul a (add b (neg c))=zero;rw[mul_add,mul_neg,show mul a b=mul a c from h,add_neg]
end
def Bl{F:Type}[Cr F](a b:F):Po F:=Xx*Xx*Xx+Cc a*Xx+Cc b
section
variable {F:Type}[Cr F]
theorem Zrx(a b:F):Wm 3 (Bl a b).1/\(Bl a b).1 3=one:=by
 have hx:Wm 1 (Xx:Po F).1:=fun i hi=>by match i,hi with|i+2,_=>rfl
 have hc:∀c:F,Wm 0 (Cc c).1:=fun c i hi=>by match i,hi with|i+1,_=>rfl
 have h2:=Qr0 hx 1 (Xx:Po F).1 hx;have h3:=Qr0 hx 2 (Xx*Xx:Po F).1 h2.1;have h4:=Qr0 hx 0 (Cc a).1 (hc a);refine⟨Qen (Qen h3.1 (Q8 h4.1 (by omega))) (Q8 (hc b) (by omega)),?_⟩;show add (add ((Xx*Xx*Xx:Po F).1 3) ((Cc a*Xx:Po F).1 3)) ((Cc b).1 3)=one;rw[show(Cc b).1 3=zero from rfl,show(Cc a*Xx:Po F).1 3=zero from h4.1 3 (by omega),add_zero,add_zero];refine h3.2.trans ?_;show mul ((Xx*Xx:Po F).1 2) one=one;rw[mul_one];refine h2.2.trans ?_;show mul one one=one;exact mul_one _
theorem Zoz(x a b:F):Xj x (Bl a b)=x*x*x+a*x+b:=by
 unfold Bl;rw[Z5,Z5,Zq,Zq,Zq,Wp,Wp,Qb0]
end
structure Rc (F:Type) [Cr F] (f:Po F) where
 u:Po F
 v:Po F
section
variable {F:Type}[Cr F]{f:Po F}
theorem Yt{h k:Rc F f}(h1:h.u=k.u)(h2:h.v=k.v):h=k:=by cases h;cases k;cases h1;cases h2;rfl
instance:Cr (Rc F f) where
 add h k:=⟨h.u+k.u,h.v+k.v⟩
 mul h k:=⟨h.u*k.u+f*(h.v*k.v),h.u*k.v+h.v*k.u⟩
 neg h:=⟨-h.u,-h.v⟩
 zero:=⟨0,0⟩
 one:=⟨1,0⟩
 add_assoc a b c:=Yt (add_assoc _ _ _) (add_assoc _ _ _)
 add_comm a b:=Yt (add_comm _ _) (add_comm _ _)
 add_zero a:=Yt (add_zero _) (add_zero _)
 add_neg a:=Yt (add_neg _) (add_neg _)
 mul_assoc a b c:=Yt
  (PE.same (rho [a.u,a.v,b.u,b.v,c.u,c.v,f]) ((PE.v 0*PE.v 2+PE.v 6*(PE.v 1*PE.v 3))*PE.v 4+PE.v 6*((PE.v 0*PE.v 3+PE.v 1*PE.v 2)*PE.v 5)) (PE.v 0*(PE.v 2*PE.v 4+PE.v 6*(PE.v 3*PE.v 5))+PE.v 6*(PE.v 1*(PE.v 2*PE.v 5+PE.v 3*PE.v 4))) rfl)
  (PE.same (rho [a.u,a.v,b.u,b.v,c.u,c.v,f]) ((PE.v 0*PE.v 2+PE.v 6*(PE.v 1*PE.v 3))*PE.v 5+(PE.v 0*PE.v 3+PE.v 1*PE.v 2)*PE.v 4) (PE.v 0*(PE.v 2*PE.v 5+PE.v 3*PE.v 4)+PE.v 1*(PE.v 2*PE.v 4+PE.v 6*(PE.v 3*PE.v 5))) rfl)
 mul_comm a b:=Yt
  (PE.same (rho [a.u,a.v,b.u,b.v,f]) (PE.v 0*PE.v 2+PE.v 4*(PE.v 1*PE.v 3)) (PE.v 2*PE.v 0+PE.v 4*(PE.v 3*PE.v 1)) rfl)
  (PE.same (rho [a.u,a.v,b.u,b.v,f]) (PE.v 0*PE.v 3+PE.v 1*PE.v 2) (PE.v 2*PE.v 1+PE.v 3*PE.v 0) rfl)
 mul_one a:=Yt
  (PE.same (rho [a.u,a.v,f]) (PE.v 0*PE.p1+PE.v 2*(PE.v 1*PE.p0)) (PE.v 0) rfl)
  (PE.same (rho [a.u,a.v,f]) (PE.v 0*PE.p0+PE.v 1*PE.p1) (PE.v 1) rfl)
 mul_add a b c:=Yt
  (PE.same (rho [a.u,a.v,b.u,b.v,c.u,c.v,f]) (PE.v 0*(PE.v 2+PE.v 4)+PE.v 6*(PE.v 1*(PE.v 3+PE.v 5))) ((PE.v 0*PE.v 2+PE.v 6*(PE.v 1*PE.v 3))+(PE.v 0*PE.v 4+PE.v 6*(PE.v 1*PE.v 5))) rfl)
  (PE.same (rho [a.u,a.v,b.u,b.v,c.u,c.v,f]) (PE.v 0*(PE.v 3+PE.v 5)+PE.v 1*(PE.v 2+PE.v 4)) ((PE.v 0*PE.v 3+PE.v 1*PE.v 2)+(PE.v 0*PE.v 5+PE.v 1*PE.v 4)) rfl)
def Qoo(h:Rc F f):Po F:=h.u*h.u + -(f*(h.v*h.v))
theorem Qqx(h k:Rc F f):Qoo (h*k)=Qoo h*Qoo k :=
 PE.same (rho [h.u,h.v,k.u,k.v,f]) ((PE.v 0*PE.v 2+PE.v 4*(PE.v 1*PE.v 3))*(PE.v 0*PE.v 2+PE.v 4*(PE.v 1*PE.v 3)) + -(PE.v 4*((PE.v 0*PE.v 3+PE.v 1*PE.v 2)*(PE.v 0*PE.v 3+PE.v 1*PE.v 2)))) ((PE.v 0*PE.v 0 + -(PE.v 4*(PE.v 1*PE.v 1)))*(PE.v 2*PE.v 2 + -(PE.v 4*(PE.v 3*PE.v 3)))) rfl
noncomputable def rev(x y:F)(h:Rc F f):F:=Xj x h.u+y*Xj x h.v
theorem Zoq(x y:F)(h k:Rc F f):rev x y (h+k)=rev x y h+rev x y k:=by
 show Xj x (h.u+k.u)+y*Xj x (h.v+k.v)=_;rw[Z5,Z5];exact PE.same (rho [Xj x h.u,Xj x k.u,y,Xj x h.v,Xj x k.v]) (PE.v 0+PE.v 1+PE.v 2*(PE.v 3+PE.v 4)) ((PE.v 0+PE.v 2*PE.v 3)+(PE.v 1+PE.v 2*PE.v 4)) rfl
theorem Zle{x y:F}(hy:y*y=Xj x f)(h k:Rc F f):rev x y (h*k)=rev x y h*rev x y k:=by
 show Xj x (h.u*k.u+f*(h.v*k.v))+y*Xj x (h.u*k.v+h.v*k.u)=_;rw[Z5,Z5,Zq,Zq,Zq,Zq,Zq,<- hy];exact PE.same (rho [Xj x h.u,Xj x k.u,y,Xj x h.v,Xj x k.v]) (PE.v 0*PE.v 1+PE.v 2*PE.v 2*(PE.v 3*PE.v 4)+PE.v 2*(PE.v 0*PE.v 4+PE.v 3*PE.v 1)) ((PE.v 0+PE.v 2*PE.v 3)*(PE.v 1+PE.v 2*PE.v 4)) rfl
end
section
variable {F:Type}[Fd F]{a b:F}
abbrev Cu(F:Type)[Cr F](a b:F):Type:=Rc F (Bl a b)
theorem Qqe(p q:Po F)(i:Nat):(p + -q).1 i=p.1 i + -(q.1 i):=rfl
theorem Qfi{n:Nat}(h:Cu F a b)(hn:Wm n (Qoo h).1):(∀i,n<2*i->h.u.1 i=zero)/\(∀i,n<2*i+3->h.v.1 i=zero):=by
 obtain⟨u,v⟩:=h;have hf:=Zrx a b;have vv:∀ {c},dg c v->dg (3+(c+c)) (Bl a b*(v*v)):=fun {c} hc=>Y7 (p:=Bl a b) ⟨hf.1,by rw[hf.2];exact Fd.one_ne⟩ (Y7 hc hc)
 by_cases hu:u=0
 ·by_cases hv:v=0
  ·subst hu;subst hv;exact⟨fun _ _=>rfl,fun _ _=>rfl⟩
  ·obtain⟨c,hc⟩:=Bi hv;have h1:=vv hc;have hz:(u*u)=0:=by rw[hu];exact mul_zero _
   have hle:3+(c+c)<=n:=Classical.byContradiction fun hh=>by
    have h2:(u*u + -(Bl a b*(v*v))).1 (3+(c+c))=zero:=hn _ (by omega);rw[Qqe,hz]at h2;have h3:(Bl a b*(v*v)).1 (3+(c+c))=zero:=by
     have:add zero (neg ((Bl a b*(v*v)).1 (3+(c+c))))=zero:=h2;rw[zero_add]at this;rw[<- neg_neg ((Bl a b*(v*v)).1 (3+(c+c))),this,Z0]
    exact h1.2 h3
   exact⟨fun i _=>by rw[hu];rfl,fun i hi=>hc.1 i (by omega)⟩
 ·obtain⟨d,hd⟩:=Bi hu;have hdd:=Y7 hd hd;by_cases hv:v=0
  ·have hz:Bl a b*(v*v)=0:=by rw[hv,show(0*0:Po F)=0 from mul_zero _];exact mul_zero _
   have hle:d+d<=n:=Classical.byContradiction fun hh=>by
    have h2:(u*u + -(Bl a b*(v*v))).1 (d+d)=zero:=hn _ (by omega);rw[Qqe,hz]at h2;have h3:add ((u*u).1 (d+d)) (neg zero)=zero:=h2;rw[Z0,add_zero]at h3;exact hdd.2 h3
   exact⟨fun i hi=>hd.1 i (by omega),fun i _=>by rw[hv];rfl⟩
  ·obtain⟨c,hc⟩:=Bi hv;have h1:=vv hc;by_cases hcmp:3+(c+c)<d+d
   ·have hle:d+d<=n:=Classical.byContradiction fun hh=>by
     have h2:(u*u + -(Bl a b*(v*v))).1 (d+d)=zero:=hn _ (by omega);rw[Qqe,h1.1 (d+d) hcmp]at h2;have h3:add ((u*u).1 (d+d)) (neg zero)=zero:=h2;rw[Z0,add_zero]at h3;exact hdd.2 h3
    exact⟨fun i hi=>hd.1 i (by omega),fun i hi=>hc.1 i (by omega)⟩
   ·have hle:3+(c+c)<=n:=Classical.byContradiction fun hh=>by
     have h2:(u*u + -(Bl a b*(v*v))).1 (3+(c+c))=zero:=hn _ (by omega);rw[Qqe,hdd.1 (3+(c+c)) (by omega)]at h2;have h3:(Bl a b*(v*v)).1 (3+(c+c))=zero:=by
      have:add zero (neg ((Bl a b*(v*v)).1 (3+(c+c))))=zero:=h2;rw[zero_add]at this;rw[<- neg_neg ((Bl a b*(v*v)).1 (3+(c+c))),this,Z0]
     exact h1.2 h3
    exact⟨fun i hi=>hd.1 i (by omega),fun i hi=>hc.1 i (by omega)⟩
theorem Qts{p:Po F}(h:∀i,0<i->p.1 i=zero):p=Cc (p.1 0):=Yu fun i=>by
 match i with
 |0=>rfl
 |i+1=>exact h (i+1) (by omega)
theorem Zug{p:Po F}(h:∀i,1<i->p.1 i=zero):p=Cc (p.1 0)+Cc (p.1 1)*Xx:=Yu fun i=>by
 rw[show Cc (p.1 1)*Xx=Xx*Cc (p.1 1)from mul_comm _ _]
 match i with
 |0=>show p.1 0=add (p.1 0) ((Xx*Cc (p.1 1)).1 0);rw[Qh5,add_zero]
 |1=>show p.1 1=add zero ((Xx*Cc (p.1 1)).1 1);rw[Qc0,zero_add];rfl
 |i+2=>show p.1 (i+2)=add zero ((Xx*Cc (p.1 1)).1 (i+1+1));rw[Qc0,zero_add];exact h (i+2) (by omega)
theorem Qw8{v:Po F}(h:∀i,v.1 i=zero):v=0:=Yu h
theorem Ztu{h:Cu F a b}(hn:Qoo h=0):h=0:=by
 obtain⟨h1,h2⟩:=Qfi (n:=0) h (by rw[hn];exact fun _ _=>rfl);have hv:h.v=0:=Qw8 fun i=>h2 i (by omega)
 have hu:=Qts (p:=h.u) fun i hi=>h1 i (by omega)
 have h3:h.u*h.u=0:=by
  have:h.u*h.u + -(Bl a b*(h.v*h.v))=0:=hn;rw[hv,show(0*0:Po F)=0 from mul_zero _,show Bl a b*0=(0:Po F)from mul_zero _,show -(0:Po F)=0 from Z0]at this;rw[show h.u*h.u+0=h.u*h.u from add_zero _]at this;exact this
 have hu0:h.u=0:=Classical.byContradiction fun hc=>Qic hc hc h3
 exact Yt hu0 hv
theorem Qn9{h:Cu F a b}(hh:h≠0):Qoo h≠0:=fun hc=>hh (Ztu hc)
theorem Zhs:Qoo (0:Cu F a b)=0:=PE.same (rho [Bl a b]) (PE.p0*PE.p0 + -(PE.v 0*(PE.p0*PE.p0))) PE.p0 rfl
theorem Qae{h k:Cu F a b}(hh:h≠0)(hk:k≠0):h*k≠0:=fun hc=>by
 refine Qic (Qn9 hh) (Qn9 hk) ?_;rw[<- Qqx,hc,Zhs]
theorem Qes{h k l:Cu F a b}(hh:h≠0)(e:h*k=h*l):k=l:=by
 refine Classical.byContradiction fun hc=>?_
 have h3:k + -l≠0:=fun h0=>hc (by
  have:=Yd (a:=neg l) (b:=k) (by rw[add_comm];exact h0);rw[this,neg_neg])
 refine Qae hh h3 ?_;show mul h (add k (neg l))=zero;rw[mul_add,mul_neg,show mul h k=mul h l from e,add_neg]
def nd(n:Nat)(h:Cu F a b):Prop:=dg n (Qoo h)
theorem Qxy{h:Cu F a b}(hh:h≠0):∃n,nd n h:=Bi (Qn9 hh)
theorem Qw6{m n:Nat}{h k:Cu F a b}(hm:nd m h)(hn:nd n k):nd (m+n) (h*k):=by
 unfold nd;rw[Qqx];exact Y7 hm hn
theorem Qqh{m n:Nat}{h:Cu F a b}(hm:nd m h)(hn:nd n h):m=n:=Qxt hm hn
theorem Zrh{n:Nat}{h:Cu F a b}(hn:nd n h):h≠0:=fun h0=>Qxv hn (by rw[h0,Zhs])
theorem Zr0{n:Nat}{h:Cu F a b}(hn:nd n h)(h1:n<=1):h=⟨Cc (h.u.1 0),0⟩/\h.u.1 0≠zero/\n=0:=by
 obtain⟨hu,hv⟩:=Qfi h hn.1;have hv0:h.v=0:=Qw8 fun i=>hv i (by omega)
 have hu0:=Qts (p:=h.u) fun i hi=>hu i (by omega)
 have e:h=⟨Cc (h.u.1 0),0⟩:=Yt hu0 hv0;have hne:h.u.1 0≠zero:=fun h0=>Zrh hn (e.trans (by rw[h0];exact Yt Qqj rfl))
 have hd:nd 0 h:=by
  unfold nd;rw[e];refine⟨fun i hi=>?_,?_⟩
  ·show add ((Cc (h.u.1 0)*Cc (h.u.1 0)).1 i) (neg ((Bl a b*(0*0)).1 i))=zero;rw[<- X6,show(0*0:Po F)=0 from mul_zero _,show Bl a b*0=(0:Po F)from mul_zero _]
   match i,hi with
   |i+1,_=>show add zero (neg zero)=zero;rw[Z0,add_zero]
  ·show add ((Cc (h.u.1 0)*Cc (h.u.1 0)).1 0) (neg ((Bl a b*(0*0)).1 0))≠zero;rw[<- X6,show(0*0:Po F)=0 from mul_zero _,show Bl a b*0=(0:Po F)from mul_zero _];show add (h.u.1 0*h.u.1 0) (neg zero)≠zero;rw[Z0,add_zero];exact Xb hne hne
 exact⟨e,hne,Qqh hn hd⟩
theorem Zry{n:Nat}{h:Cu F a b}(hn:nd n h)(h1:n<=2):h=⟨Cc (h.u.1 0)+Cc (h.u.1 1)*Xx,0⟩:=by
 obtain⟨hu,hv⟩:=Qfi h hn.1;exact Yt (Zug fun i hi=>hu i (by omega)) (Qw8 fun i=>hv i (by omega))
end
inductive Pn (F:Type) where|O|P (x y:F)
section
variable {F:Type}[Fd F]{a b:F}
def Pn.ng:Pn F->Pn F|.O=>.O|.P x y=>.P x (-y)
def Pn.on(a b:F):Pn F->Prop|.O=>True|.P x y=>y*y=x*x*x+a*x+b
theorem Pn.Xbx(A:Pn F):A.ng.ng=A:=by
 cases A with
 |O=>rfl
 |P x y=>show Pn.P x (-(-y))=_;rw[show -(-y)=y from neg_neg y]
theorem Pn.Xby{A:Pn F}(h:A.on a b):A.ng.on a b:=by
 cases A with
 |O=>trivial
 |P x y =>
  show -y * -y=_;rw[show -y * -y=y*y from PE.same (rho [y]) (-PE.v 0 * -PE.v 0) (PE.v 0*PE.v 0) rfl];exact h
def van(A:Pn F)(h:Cu F a b):Prop:=match A with|.O=>True|.P x y=>rev x y h=0
theorem Zmd{A:Pn F}(hA:A.on a b)(r:Cu F a b){h:Cu F a b}(hv:van A h):van A (r*h):=by
 cases A with
 |O=>trivial
 |P x y =>
  show rev x y (r*h)=0;rw[Zle (by rw[Zoz];exact hA),show rev x y h=0 from hv];exact mul_zero _
inductive W1:List (Pn F)->Cu F a b->Prop
 |nil (r:Cu F a b):W1 [] r
 |zero (A:Pn F) (L:List (Pn F)):W1 (A::L) 0
 |add {A:Pn F} {L:List (Pn F)} {h k:Cu F a b}:W1 (A::L) h->W1 (A::L) k->W1 (A::L) (h+k)
 |mul {A:Pn F} {L:List (Pn F)} {h k:Cu F a b}:van A h->W1 L k->W1 (A::L) (h*k)
theorem Yb{A:Pn F}{L:List (Pn F)}{C:Cu F a b->Prop}(c0:C 0)(ca:∀h k,C h->C k->C (h+k))(cm:∀h k,van A h->W1 L k->C (h*k)){w:Cu F a b}(hw:W1 (A::L) w):C w:=by
 generalize hM:A::L=M at hw
 induction hw with
 |nil r=>cases hM
 |zero=>exact c0
 |add _ _ ih ih'=>exact ca _ _ (ih hM) (ih' hM)
 |mul hv hk _=>cases hM;exact cm _ _ hv hk
theorem Zrb:∀L:List (Pn F),W1 L (0:Cu F a b)
 |[]=>.nil _
 |A::L=>.zero A L
theorem Zp8{L:List (Pn F)}{h k:Cu F a b}(hh:W1 L h)(hk:W1 L k):W1 L (h+k):=by
 cases L with
 |nil=>exact .nil _
 |cons A L=>exact .add hh hk
theorem rmz(r:Cu F a b):r*0=0:=mul_zero r
theorem rma(r h k:Cu F a b):r*(h+k)=r*h+r*k:=mul_add r h k
theorem rml(r h k:Cu F a b):r*(h*k)=h*(r*k):=mul_left_comm r h k
theorem rms(r h k:Cu F a b):r*h*k=r*(h*k):=mul_assoc r h k
theorem rmc(r h:Cu F a b):r*h=h*r:=mul_comm r h
theorem Qgp:∀(L:List (Pn F)) (r:Cu F a b) {h:Cu F a b},W1 L h->W1 L (r*h)
 |[],r,h,_=>.nil _
 |A::L,r,h,hh=>Yb (C:=fun w=>W1 (A::L) (r*w)) (by rw[rmz];exact .zero A L) (fun h k ih ih'=>by rw[rma];exact .add ih ih') (fun h k hv hk=>by rw[rml];exact .mul hv (Qgp L r hk)) hh
theorem Zuj{A B:Pn F}{L:List (Pn F)}{w:Cu F a b}(hw:W1 (A::B::L) w):W1 (B::A::L) w :=
 Yb (C:=W1 (B::A::L)) (.zero _ _) (fun _ _=>.add) (fun h k hv hk=>Yb (C:=fun k=>W1 (B::A::L) (h*k)) (by rw[rmz];exact .zero _ _) (fun _ _ i j=>by rw[rma];exact .add i j) (fun h' k' hv' hk'=>by rw[rml];exact .mul hv' (.mul hv hk')) hk) hw
theorem Ztl{A:Pn F}{L M:List (Pn F)}(h:∀k:Cu F a b,W1 L k->W1 M k){w:Cu F a b}(hw:W1 (A::L) w):W1 (A::M) w :=
 Yb (C:=W1 (A::M)) (.zero _ _) (fun _ _=>.add) (fun _ k hv hk=>.mul hv (h k hk)) hw
theorem Qlb{L M:List (Pn F)}(h:L.Perm M):∀ {w:Cu F a b},W1 L w->W1 M w:=by
 induction h with
 |nil=>exact fun h=>h
 |cons x _ ih=>exact fun h=>Ztl (fun _=>ih) h
 |swap x y l=>exact fun h=>Zuj h
 |trans _ _ ih ih'=>exact fun h=>ih' (ih h)
theorem Zql{L:List (Pn F)}{w:Cu F a b}:W1 (Pn.O::L) w↔W1 L w:=by
 refine⟨fun h=>Yb (C:=W1 L) (Zrb L) (fun _ _=>Zp8) (fun h k _ hk=>Qgp L h hk) h,fun h=>?_⟩;have:=W1.mul (A:=Pn.O) (h:=(1:Cu F a b)) trivial h;rwa[show(1:Cu F a b)*w=w from by rw[rmc];exact mul_one w]at this
def io(p:Po F):Cu F a b:=⟨p,0⟩
def Yy:Cu F a b:=⟨0,1⟩
theorem Jg(p q:Po F):(io (p*q):Cu F a b)=io p*io q:=Yt
 (PE.same (rho [p,q,Bl a b]) (PE.v 0*PE.v 1) (PE.v 0*PE.v 1+PE.v 2*(PE.p0*PE.p0)) rfl)
 (PE.same (rho [p,q]) PE.p0 (PE.v 0*PE.p0+PE.p0*PE.v 1) rfl)
theorem Qc5(p q:Po F):(io (p+q):Cu F a b)=io p+io q:=Yt rfl (add_zero _).symm
theorem Qft(p:Po F):(io (-p):Cu F a b)=-io p:=Yt rfl Z0.symm
theorem Zxm:(io 1:Cu F a b)=1:=rfl
theorem YY:(Yy:Cu F a b)*Yy=io (Bl a b):=Yt
 (PE.same (rho [Bl a b]) (PE.p0*PE.p0+PE.v 0*(PE.p1*PE.p1)) (PE.v 0) rfl)
 (PE.same (rho [Bl a b]) (PE.p0*PE.p1+PE.p1*PE.p0) PE.p0 rfl)
theorem uv(h:Cu F a b):h=io h.u+io h.v*Yy:=Yt
 (PE.same (rho [h.u,h.v,Bl a b]) (PE.v 0) (PE.v 0+(PE.v 1*PE.p0+PE.v 2*(PE.p0*PE.p1))) rfl)
 (PE.same (rho [h.u,h.v,Bl a b]) (PE.v 1) (PE.p0+(PE.v 1*PE.p1+PE.p0*PE.p0)) rfl)
def Ax(x:F):Po F:=Xx + -Cc x
theorem Quk(x y:F)(p:Po F):rev x y (io p:Cu F a b)=Xj x p:=by
 show Xj x p+y*Xj x 0=_;rw[Qg3,show y*0=(0:F)from mul_zero y];exact add_zero _
theorem Qvy(x:F):Xj x (Ax x)=0:=by
 unfold Ax;rw[Z5,Ud,Qb0,Wp];exact add_neg x
theorem Qj5(x:F):Ax x≠0:=fun h=>Fd.one_ne (α:=F) (by
 have h2:(Ax x).1 1=zero:=by rw[h];rfl
 have h3:(Ax x).1 1=one:=by
  show add one (neg zero)=one;rw[Z0,add_zero]
 rw[<- h3,h2])
theorem Qrm{p:Po F}(h:p≠0):(io p:Cu F a b)≠0:=fun hc=>h (congrArg Rc.u hc)
theorem Qjk(x y:F):van (.P x y) (io (Ax x):Cu F a b):=by
 show rev x y (io (Ax x))=0;rw[Quk,Qvy]
theorem Qrl(x y:F)(h k:Cu F a b):rev x y (h+k)=rev x y h+rev x y k:=Zoq x y h k
theorem Qx6(x y:F):van (.P x y) (Yy + -io (Cc y):Cu F a b):=by
 show rev x y (Yy + -io (Cc y))=0;rw[Qrl,<- Qft,Quk,Ud,Wp];show Xj x 0+y*Xj x 1 + -y=0;rw[Qg3,Qr7];exact PE.same (rho [y]) (PE.p0+PE.v 0*PE.p1 + -PE.v 0) PE.p0 rfl
theorem Qmd{x y:F}{h:Cu F a b}(hv:van (.P x y) h):∃(w:Cu F a b) (c:F),h=io (Ax x)*w+io (Cc c)*(Yy + -io (Cc y)):=by
 obtain⟨p,hp⟩:=Qq7 x h.u;obtain⟨q,hq⟩:=Qq7 x h.v;have h0:Xj x h.u+y*Xj x h.v=0:=hv;have hc:Cc (Xj x h.u)=-(Cc y*Cc (Xj x h.v)):=by
  rw[<- X6,<- Qbo];exact congrArg Cc (Yd (by rw[add_comm];exact h0))
 refine⟨⟨p,q⟩,Xj x h.v,?_⟩;refine(uv h).trans ?_;rw[uv (⟨p,q⟩:Cu F a b)];show io h.u+io h.v*Yy=io (Ax x)*(io p+io q*Yy)+io (Cc (Xj x h.v))*(Yy + -io (Cc y))
 rw[show h.u=Ax x*p + -(Cc y*Cc (Xj x h.v))from by rw[<- hc];exact hp];rw[show io h.v=io (Ax x*q+Cc (Xj x h.v))from congrArg io hq];rw[Qc5,Qc5,Jg,Jg,Qft,Jg];exact PE.same (rho [io (Ax x),io p,io q,io (Cc y),io (Cc (Xj x h.v)),Yy]) ((PE.v 0*PE.v 1 + -(PE.v 3*PE.v 4))+(PE.v 0*PE.v 2+PE.v 4)*PE.v 5) (PE.v 0*(PE.v 1+PE.v 2*PE.v 5)+PE.v 4*(PE.v 5 + -PE.v 3)) rfl
def Qx(a x:F):Po F:=Xx*Xx+Cc x*Xx+Cc (x*x+a)
theorem Zvu{x y:F}(h:y*y=x*x*x+a*x+b):Bl a b=Ax x*Qx a x+Cc (y*y):=by
 rw[h];unfold Bl Ax Qx;rw[W0,W0,W0,X6,X6,X6,X6];exact PE.same (rho [Xx,Cc x,Cc a,Cc b]) (PE.v 0*PE.v 0*PE.v 0+PE.v 2*PE.v 0+PE.v 3) ((PE.v 0 + -PE.v 1)*(PE.v 0*PE.v 0+PE.v 1*PE.v 0+(PE.v 1*PE.v 1+PE.v 2))+(PE.v 1*PE.v 1*PE.v 1+PE.v 2*PE.v 1+PE.v 3)) rfl
theorem Zv2(a x:F):Xj x (Qx a x)=x*x+x*x+(x*x+a):=by
 unfold Qx;rw[Z5,Z5,Zq,Zq,Qb0,Wp,Wp]
theorem Zwt{x y:F}(h:y*y=x*x*x+a*x+b):(Yy + -io (Cc y):Cu F a b)*(Yy+io (Cc y))=io (Ax x)*io (Qx a x):=by
 have e:(Yy + -io (Cc y):Cu F a b)*(Yy+io (Cc y))=Yy*Yy + -(io (Cc y)*io (Cc y)) :=
  PE.same (rho [Yy,io (Cc y)]) ((PE.v 0 + -PE.v 1)*(PE.v 0+PE.v 1)) (PE.v 0*PE.v 0 + -(PE.v 1*PE.v 1)) rfl
 rw[e,YY,<- Jg,<- X6,show io (Bl a b)=(io (Ax x*Qx a x+Cc (y*y)):Cu F a b)from congrArg io (Zvu h),Qc5,Jg];exact PE.same (rho [io (Ax x)*io (Qx a x),io (Cc (y*y))]) (PE.v 0+PE.v 1 + -PE.v 1) (PE.v 0) rfl
def NS(a b:F):Prop:=∀x:F,x*x*x+a*x+b=0->x*x+x*x+(x*x+a)≠0
theorem Qe6(ns:NS a b){x y:F}(h:y*y=x*x*x+a*x+b){L:List (Pn F)}{k:Cu F a b}(hk:W1 L k):W1 (.P x y :: .P x (-y)::L) (io (Ax x)*k):=by
 have v1:=Qjk (a:=a) (b:=b) x y;have v2:=Qjk (a:=a) (b:=b) x (-y);have v3:=Qx6 (a:=a) (b:=b) x y;have v4:van (.P x (-y)) (Yy+io (Cc y):Cu F a b):=by
  have:=Qx6 (a:=a) (b:=b) x (-y);rwa[Qbo,Qft,show -(-io (Cc y))=(io (Cc y):Cu F a b)from neg_neg _]at this
 by_cases hy:y=0
 ·have hq0:Xj x (Qx a x)≠0:=by rw[Zv2];exact ns x (by rw[<- h,hy];exact mul_zero _)
  obtain⟨i,hi⟩:=Fd.inv_ex _ hq0;obtain⟨q,hq⟩:=Qq7 x (Qx a x);have hci:Cc (Xj x (Qx a x))*Cc i=(1:Po F):=by rw[<- X6,<- Qwc];exact congrArg Cc hi
  have e:io (Ax x)*k=(Yy + -io (Cc y))*((Yy+io (Cc y))*(io (Cc i)*k))+io (Ax x)*(io (Ax x)*(-(io q*io (Cc i))*k)):=by
   have e1:(Yy + -io (Cc y))*((Yy+io (Cc y))*(io (Cc i)*k))=io (Ax x)*io (Qx a x)*(io (Cc i)*k):=by rw[<- Zwt h,rms]
   rw[e1,show io (Qx a x)=(io (Ax x*q+Cc (Xj x (Qx a x))):Cu F a b)from congrArg io hq,Qc5,Jg]
   have e2:io (Ax x)*(io (Ax x)*io q+io (Cc (Xj x (Qx a x))))*(io (Cc i)*k)+io (Ax x)*(io (Ax x)*(-(io q*io (Cc i))*k))=io (Ax x)*(io (Cc (Xj x (Qx a x)))*io (Cc i))*k :=
    PE.same (rho [io (Ax x),io q,io (Cc (Xj x (Qx a x))),io (Cc i),k]) (PE.v 0*(PE.v 0*PE.v 1+PE.v 2)*(PE.v 3*PE.v 4)+PE.v 0*(PE.v 0*(-(PE.v 1*PE.v 3)*PE.v 4))) (PE.v 0*(PE.v 2*PE.v 3)*PE.v 4) rfl
   rw[e2,<- Jg,hci,Zxm];exact PE.same (rho [io (Ax x),k]) (PE.v 0*PE.v 1) (PE.v 0*PE.p1*PE.v 1) rfl
  rw[e];exact .add (.mul v3 (.mul v4 (Qgp L _ hk))) (.mul v1 (.mul v2 (Qgp L _ hk)))
 ·have h2:y+y≠0:=by
   have:(1+1:F)*y≠0:=Xb Fd.two_ne hy;rwa[show(1+1:F)*y=y+y from PE.same (rho [y]) ((PE.p1+PE.p1)*PE.v 0) (PE.v 0+PE.v 0) rfl]at this
  obtain⟨i,hi⟩:=Fd.inv_ex _ h2;have hci:(Cc y+Cc y)*Cc i=(1:Po F):=by rw[<- W0,<- X6,<- Qwc];exact congrArg Cc hi
  have e:io (Ax x)*k=io (Ax x)*((Yy+io (Cc y))*(io (Cc i)*k))+(Yy + -io (Cc y))*(io (Ax x)*(-io (Cc i)*k)):=by
   have e2:io (Ax x)*((Yy+io (Cc y))*(io (Cc i)*k))+(Yy + -io (Cc y))*(io (Ax x)*(-io (Cc i)*k))=io (Ax x)*((io (Cc y)+io (Cc y))*io (Cc i))*k :=
    PE.same (rho [io (Ax x),Yy,io (Cc y),io (Cc i),k]) (PE.v 0*((PE.v 1+PE.v 2)*(PE.v 3*PE.v 4))+(PE.v 1 + -PE.v 2)*(PE.v 0*(-PE.v 3*PE.v 4))) (PE.v 0*((PE.v 2+PE.v 2)*PE.v 3)*PE.v 4) rfl
   rw[e2,<- Qc5,<- Jg,hci,Zxm];exact PE.same (rho [io (Ax x),k]) (PE.v 0*PE.v 1) (PE.v 0*PE.p1*PE.v 1) rfl
  rw[e];exact .add (.mul v1 (.mul v4 (Qgp L _ hk))) (.mul v3 (.mul v2 (Qgp L _ hk)))
theorem Bb{L:List (Pn F)}(g:Cu F a b):∃k,W1 L k/\(0:Cu F a b)=g*k:=⟨0,Zrb L,(rmz g).symm⟩
theorem U7{L:List (Pn F)}{g h h':Cu F a b}(i:∃k,W1 L k/\h=g*k)(j:∃k,W1 L k/\h'=g*k):∃k,W1 L k/\h+h'=g*k:=by
 obtain⟨k,hk,rfl⟩:=i;obtain⟨l,hl,rfl⟩:=j;exact⟨k+l,Zp8 hk hl,(rma g k l).symm⟩
theorem Qyp{x y:F}(h:y*y=x*x*x+a*x+b){L:List (Pn F)}{w:Cu F a b}(hw:W1 (.P x y :: .P x (-y)::L) w):∃k,W1 L k/\w=io (Ax x)*k:=by
 refine Yb (C:=fun w=>∃k,W1 L k/\w=io (Ax x)*k) (Bb _) (fun _ _=>U7) (fun h1 k1 v1 i1=>?_) hw;refine Yb (C:=fun k1=>∃k,W1 L k/\h1*k1=io (Ax x)*k) (by rw[rmz];exact Bb _) (fun _ _ i j=>by rw[rma];exact U7 i j) (fun h2 k v2 ik=>?_) i1;obtain⟨w1,c1,rfl⟩:=Qmd v1;obtain⟨w2,c2,rfl⟩:=Qmd v2;have e0:io (Cc (-y))=-(io (Cc y):Cu F a b):=by rw[Qbo,Qft]
 rw[e0];have e:=Zwt h;refine⟨(w1*(io (Ax x)*w2+io (Cc c2)*(Yy+io (Cc y)))+io (Cc c1)*((Yy + -io (Cc y))*w2)+io (Cc c1)*(io (Cc c2)*io (Qx a x)))*k,Qgp L _ ik,?_⟩
 have e1:(io (Ax x)*w1+io (Cc c1)*(Yy + -io (Cc y)))*((io (Ax x)*w2+io (Cc c2)*(Yy + - -io (Cc y)))*k)=(io (Ax x)*(w1*(io (Ax x)*w2+io (Cc c2)*(Yy+io (Cc y)))+io (Cc c1)*((Yy + -io (Cc y))*w2))+io (Cc c1)*io (Cc c2)*((Yy + -io (Cc y))*(Yy+io (Cc y))))*k :=
  PE.same (rho [io (Ax x),w1,io (Cc c1),Yy,io (Cc y),w2,io (Cc c2),k]) ((PE.v 0*PE.v 1+PE.v 2*(PE.v 3 + -PE.v 4))*((PE.v 0*PE.v 5+PE.v 6*(PE.v 3 + - -PE.v 4))*PE.v 7)) ((PE.v 0*(PE.v 1*(PE.v 0*PE.v 5+PE.v 6*(PE.v 3+PE.v 4))+PE.v 2*((PE.v 3 + -PE.v 4)*PE.v 5))+PE.v 2*PE.v 6*((PE.v 3 + -PE.v 4)*(PE.v 3+PE.v 4)))*PE.v 7) rfl
 rw[e1,e];exact PE.same (rho [io (Ax x),w1*(io (Ax x)*w2+io (Cc c2)*(Yy+io (Cc y))),io (Cc c1)*((Yy + -io (Cc y))*w2),io (Cc c1),io (Cc c2),io (Qx a x),k]) ((PE.v 0*(PE.v 1+PE.v 2)+PE.v 3*PE.v 4*(PE.v 0*PE.v 5))*PE.v 6) (PE.v 0*((PE.v 1+PE.v 2+PE.v 3*(PE.v 4*PE.v 5))*PE.v 6)) rfl
end
section
variable {F:Type}[Fd F]{a b:F}
structure Ln (a b l m x1 x2 x3:F):Prop where
 h2:l*l=x1+x2+x3
 h1:l*m+l*m=a + -(x1*x2+x1*x3+x2*x3)
 h0:m*m=b+x1*x2*x3
theorem Ln.sw{l m x1 x2 x3:F}(h:Ln a b l m x1 x2 x3):Ln a b (-l) (-m) x1 x2 x3:=by
 refine⟨?_,?_,?_⟩
 ·rw[<- h.h2];exact PE.same (rho [l]) (-PE.v 0 * -PE.v 0) (PE.v 0*PE.v 0) rfl
 ·rw[<- h.h1];exact PE.same (rho [l,m]) (-PE.v 0 * -PE.v 1 + -PE.v 0 * -PE.v 1) (PE.v 0*PE.v 1+PE.v 0*PE.v 1) rfl
 ·rw[<- h.h0];exact PE.same (rho [m]) (-PE.v 0 * -PE.v 0) (PE.v 0*PE.v 0) rfl
def Lp(l m:F):Po F:=Cc l*Xx+Cc m
def Le(a b l m:F):Cu F a b:=Yy + -io (Lp l m)
theorem Zul(x l m:F):Xj x (Lp l m)=l*x+m:=by unfold Lp;rw[Z5,Zq,Wp,Wp,Qb0]
theorem Zwl(l m:F):Lp (-l) (-m)=-Lp l m:=by
 unfold Lp;rw[Qbo,Qbo];exact PE.same (rho [Cc l,Xx,Cc m]) (-PE.v 0*PE.v 1 + -PE.v 2) (-(PE.v 0*PE.v 1+PE.v 2)) rfl
theorem Zpf(l m:F):Le a b l m≠0:=fun h=>Fd.one_ne (α:=F) (by
 have h1:(Le a b l m).v.1 0=zero:=by rw[h];rfl
 have h2:(Le a b l m).v.1 0=one:=by
  show add one (neg zero)=one;rw[Z0,add_zero]
 rw[<- h2,h1])
theorem Zwg{l m x1 x2 x3:F}(h:Ln a b l m x1 x2 x3):Lp l m*Lp l m + -Bl a b=-(Ax x1*Ax x2*Ax x3):=by
 have e2:Cc l*Cc l=Cc x1+Cc x2+Cc x3:=by rw[<- X6,h.h2,W0,W0]
 have e1:Cc l*Cc m+Cc l*Cc m=Cc a + -(Cc x1*Cc x2+Cc x1*Cc x3+Cc x2*Cc x3):=by rw[<- X6,<- W0,h.h1,W0,Qbo,W0,W0,X6,X6,X6]
 have e0:Cc m*Cc m=Cc b+Cc x1*Cc x2*Cc x3:=by rw[<- X6,h.h0,W0,X6,X6]
 unfold Lp Bl Ax
 have e:(Cc l*Xx+Cc m)*(Cc l*Xx+Cc m) + -(Xx*Xx*Xx+Cc a*Xx+Cc b)=Cc l*Cc l*(Xx*Xx)+(Cc l*Cc m+Cc l*Cc m)*Xx+Cc m*Cc m + -(Xx*Xx*Xx+Cc a*Xx+Cc b) :=
  PE.same (rho [Cc l,Cc m,Xx,Cc a,Cc b]) ((PE.v 0*PE.v 2+PE.v 1)*(PE.v 0*PE.v 2+PE.v 1) + -(PE.v 2*PE.v 2*PE.v 2+PE.v 3*PE.v 2+PE.v 4)) (PE.v 0*PE.v 0*(PE.v 2*PE.v 2)+(PE.v 0*PE.v 1+PE.v 0*PE.v 1)*PE.v 2+PE.v 1*PE.v 1 + -(PE.v 2*PE.v 2*PE.v 2+PE.v 3*PE.v 2+PE.v 4)) rfl
 rw[e,e2,e1,e0];exact PE.same (rho [Xx,Cc a,Cc b,Cc x1,Cc x2,Cc x3]) ((PE.v 3+PE.v 4+PE.v 5)*(PE.v 0*PE.v 0)+(PE.v 1 + -(PE.v 3*PE.v 4+PE.v 3*PE.v 5+PE.v 4*PE.v 5))*PE.v 0+(PE.v 2+PE.v 3*PE.v 4*PE.v 5) + -(PE.v 0*PE.v 0*PE.v 0+PE.v 1*PE.v 0+PE.v 2)) (-((PE.v 0 + -PE.v 3)*(PE.v 0 + -PE.v 4)*(PE.v 0 + -PE.v 5))) rfl
theorem Zpl{l m x1 x2 x3:F}(h:Ln a b l m x1 x2 x3):io (Ax x1)*io (Ax x2)*io (Ax x3)=Le a b l m*Le a b (-l) (-m):=by
 have e:Le a b l m*Le a b (-l) (-m)=Yy*Yy + -(io (Lp l m)*io (Lp l m)):=by
  unfold Le;rw[Zwl,Qft];exact PE.same (rho [Yy,io (Lp l m)]) ((PE.v 0 + -PE.v 1)*(PE.v 0 + - -PE.v 1)) (PE.v 0*PE.v 0 + -(PE.v 1*PE.v 1)) rfl
 have e3:Bl a b + -(Lp l m*Lp l m)=Ax x1*Ax x2*Ax x3:=by
  have h2:-(Lp l m*Lp l m + -Bl a b)=- -(Ax x1*Ax x2*Ax x3):=by rw[Zwg h]
  rw[show - -(Ax x1*Ax x2*Ax x3)=Ax x1*Ax x2*Ax x3 from neg_neg _]at h2;rw[<- h2];exact PE.same (rho [Bl a b,Lp l m*Lp l m]) (PE.v 0 + -PE.v 1) (-(PE.v 1 + -PE.v 0)) rfl
 rw[e,YY,<- Jg,<- Jg,<- Jg,<- Qft,<- Qc5,e3]
theorem Qkk{l m x:F}{h:Cu F a b}(hv:van (.P x (l*x+m)) h):∃s w:Cu F a b,h=io (Ax x)*s+Le a b l m*w:=by
 obtain⟨q,hq⟩:=Qq7 x (h.u+Lp l m*h.v);have h0:Xj x h.u+(l*x+m)*Xj x h.v=0:=hv;have hz:Xj x (h.u+Lp l m*h.v)=0:=by rw[Z5,Zq,Zul];exact h0
 rw[hz]at hq;have hq:h.u+Lp l m*h.v=Ax x*q:=by
  refine hq.trans ?_;rw[Qqj];exact add_zero _
 refine⟨io q,io h.v,(uv h).trans ?_⟩;unfold Le;rw[<- Jg,<- hq,Qc5,Jg];exact PE.same (rho [io h.u,io h.v,Yy,io (Lp l m)]) (PE.v 0+PE.v 1*PE.v 2) (PE.v 0+PE.v 3*PE.v 1+(PE.v 2 + -PE.v 3)*PE.v 1) rfl
theorem Qzi{l m x1 x2 x3:F}(h:Ln a b l m x1 x2 x3){L:List (Pn F)}{w:Cu F a b}(hw:W1 (.P x1 (l*x1+m) :: .P x2 (l*x2+m) :: .P x3 (l*x3+m)::L) w):∃k,W1 L k/\w=Le a b l m*k:=by
 refine Yb (C:=fun w=>∃k,W1 L k/\w=Le a b l m*k) (Bb _) (fun _ _=>U7) (fun h1 k1 v1 i1=>?_) hw;refine Yb (C:=fun k1=>∃k,W1 L k/\h1*k1=Le a b l m*k) (by rw[rmz];exact Bb _) (fun _ _ i j=>by rw[rma];exact U7 i j) (fun h2 k2 v2 i2=>?_) i1;refine Yb (C:=fun k2=>∃k,W1 L k/\h1*(h2*k2)=Le a b l m*k) (by rw[rmz,rmz];exact Bb _) (fun _ _ i j=>by rw[rma,rma];exact U7 i j) (fun h3 k v3 ik=>?_) i2;obtain⟨s1,w1,rfl⟩:=Qkk v1;obtain⟨s2,w2,rfl⟩:=Qkk v2;obtain⟨s3,w3,rfl⟩:=Qkk v3;have e:=Zpl h;refine⟨(Le a b (-l) (-m)*(s1*s2*s3)+(w1*((io (Ax x2)*s2+Le a b l m*w2)*(io (Ax x3)*s3+Le a b l m*w3))+io (Ax x1)*s1*(w2*(io (Ax x3)*s3+Le a b l m*w3)+io (Ax x2)*s2*w3)))*k,Qgp L _ ik,?_⟩
 have e1:(io (Ax x1)*s1+Le a b l m*w1)*((io (Ax x2)*s2+Le a b l m*w2)*((io (Ax x3)*s3+Le a b l m*w3)*k))=(io (Ax x1)*io (Ax x2)*io (Ax x3)*(s1*s2*s3)+Le a b l m*(w1*((io (Ax x2)*s2+Le a b l m*w2)*(io (Ax x3)*s3+Le a b l m*w3))+io (Ax x1)*s1*(w2*(io (Ax x3)*s3+Le a b l m*w3)+io (Ax x2)*s2*w3)))*k :=
  PE.same (rho [io (Ax x1),io (Ax x2),io (Ax x3),s1,s2,s3,w1,w2,w3,Le a b l m,k]) ((PE.v 0*PE.v 3+PE.v 9*PE.v 6)*((PE.v 1*PE.v 4+PE.v 9*PE.v 7)*((PE.v 2*PE.v 5+PE.v 9*PE.v 8)*PE.v 10))) ((PE.v 0*PE.v 1*PE.v 2*(PE.v 3*PE.v 4*PE.v 5)+PE.v 9*(PE.v 6*((PE.v 1*PE.v 4+PE.v 9*PE.v 7)*(PE.v 2*PE.v 5+PE.v 9*PE.v 8))+PE.v 0*PE.v 3*(PE.v 7*(PE.v 2*PE.v 5+PE.v 9*PE.v 8)+PE.v 1*PE.v 4*PE.v 8)))*PE.v 10) rfl
 rw[e1,e];generalize w1*((io (Ax x2)*s2+Le a b l m*w2)*(io (Ax x3)*s3+Le a b l m*w3))+io (Ax x1)*s1*(w2*(io (Ax x3)*s3+Le a b l m*w3)+io (Ax x2)*s2*w3)=Z;exact PE.same (rho [Le a b l m,Le a b (-l) (-m),s1*s2*s3,Z,k]) ((PE.v 0*PE.v 1*PE.v 2+PE.v 0*PE.v 3)*PE.v 4) (PE.v 0*((PE.v 1*PE.v 2+PE.v 3)*PE.v 4)) rfl
theorem Zkc(l x m:F):-(l*x+m)=-l*x + -m:=PE.same (rho [l,x,m]) (-(PE.v 0*PE.v 1+PE.v 2)) (-PE.v 0*PE.v 1 + -PE.v 2) rfl
theorem Zok(ns:NS a b){l m x1 x2 x3:F}(h:Ln a b l m x1 x2 x3)(o1:(Pn.P x1 (l*x1+m)).on a b)(o2:(Pn.P x2 (l*x2+m)).on a b)(o3:(Pn.P x3 (l*x3+m)).on a b){L:List (Pn F)}{k:Cu F a b}(hk:W1 L k) :
  W1 (.P x1 (l*x1+m) :: .P x2 (l*x2+m) :: .P x3 (l*x3+m)::L) (Le a b l m*k):=by
 have i3:=Qe6 ns o3 hk;have i2:=Qe6 ns o2 i3;have i1:=Qe6 ns o1 i2;generalize hP:Pn.P x1 (l*x1+m)=P at *
 generalize hQ:Pn.P x2 (l*x2+m)=Q at *
 generalize hR:Pn.P x3 (l*x3+m)=R at *
 have hP':Pn.P x1 (-(l*x1+m))=Pn.P x1 (-l*x1 + -m):=by rw[Zkc]
 have hQ':Pn.P x2 (-(l*x2+m))=Pn.P x2 (-l*x2 + -m):=by rw[Zkc]
 have hR':Pn.P x3 (-(l*x3+m))=Pn.P x3 (-l*x3 + -m):=by rw[Zkc]
 rw[hP',hQ',hR']at i1;have hp:(P::Pn.P x1 (-l*x1 + -m)::Q::Pn.P x2 (-l*x2 + -m)::R::Pn.P x3 (-l*x3 + -m)::L).Perm (P::Q::R::Pn.P x1 (-l*x1 + -m)::Pn.P x2 (-l*x2 + -m)::Pn.P x3 (-l*x3 + -m)::L):=by
  refine .cons _ ((List.Perm.swap _ _ _).trans (.cons _ ?_));exact((List.Perm.swap _ _ _).cons _).trans (List.Perm.swap _ _ _)
 have i4:=Qlb hp i1;have key:∀ {w:Cu F a b},W1 (P::Q::R::Pn.P x1 (-l*x1 + -m)::Pn.P x2 (-l*x2 + -m)::Pn.P x3 (-l*x3 + -m)::L) w->∃j,W1 (P::Q::R::L) j/\w=Le a b (-l) (-m)*j:=fun {w} hw=>by
  refine Yb (C:=fun w=>∃j,W1 (P::Q::R::L) j/\w=Le a b (-l) (-m)*j) (Bb _) (fun _ _=>U7) (fun h1 k1 v1 i1=>?_) hw;refine Yb (C:=fun k1=>∃j,W1 (P::Q::R::L) j/\h1*k1=Le a b (-l) (-m)*j) (by rw[rmz];exact Bb _) (fun _ _ i j=>by rw[rma];exact U7 i j) (fun h2 k2 v2 i2=>?_) i1;refine Yb (C:=fun k2=>∃j,W1 (P::Q::R::L) j/\h1*(h2*k2)=Le a b (-l) (-m)*j) (by rw[rmz,rmz];exact Bb _) (fun _ _ i j=>by rw[rma,rma];exact U7 i j) (fun h3 k3 v3 i3=>?_) i2;obtain⟨j,hj,rfl⟩:=Qzi h.sw i3;refine⟨h1*(h2*(h3*j)),.mul v1 (.mul v2 (.mul v3 hj)),?_⟩;exact PE.same (rho [h1,h2,h3,Le a b (-l) (-m),j]) (PE.v 0*(PE.v 1*(PE.v 2*(PE.v 3*PE.v 4)))) (PE.v 3*(PE.v 0*(PE.v 1*(PE.v 2*PE.v 4)))) rfl
 obtain⟨j,hj,e⟩:=key i4;have e2:io (Ax x1)*(io (Ax x2)*(io (Ax x3)*k))=Le a b (-l) (-m)*(Le a b l m*k):=by
  have e3:io (Ax x1)*(io (Ax x2)*(io (Ax x3)*k))=io (Ax x1)*io (Ax x2)*io (Ax x3)*k :=
   PE.same (rho [io (Ax x1),io (Ax x2),io (Ax x3),k]) (PE.v 0*(PE.v 1*(PE.v 2*PE.v 3))) (PE.v 0*PE.v 1*PE.v 2*PE.v 3) rfl
  rw[e3,Zpl h];exact PE.same (rho [Le a b l m,Le a b (-l) (-m),k]) (PE.v 0*PE.v 1*PE.v 2) (PE.v 1*(PE.v 0*PE.v 2)) rfl
 rw[e2]at e;rw[Qes (Zpf _ _) e];exact hj
def Cl(a b:F)(A B:List (Pn F)):Prop:=∃f g:Cu F a b,(f≠0/\g≠0)/\(∀h,W1 A h->∃k,W1 B k/\f*h=g*k)/\(∀k,W1 B k->∃h,W1 A h/\f*h=g*k)
theorem Qbp:(1:Cu F a b)≠0:=fun h=>Fd.one_ne (α:=F) (by
 have:(1:Cu F a b).u.1 0=(0:Cu F a b).u.1 0:=by rw[h]
 exact this)
theorem Uw{A B:List (Pn F)}(h:A.Perm B):Cl a b A B:=⟨1,1,⟨Qbp,Qbp⟩,fun w hw=>⟨w,Qlb h hw,rfl⟩,fun w hw=>⟨w,Qlb h.symm hw,rfl⟩⟩
theorem Qxm(A:List (Pn F)):Cl a b A A:=Uw (.refl A)
theorem Vq{A B:List (Pn F)}(h:Cl a b A B):Cl a b B A:=by
 obtain⟨f,g,⟨hf,hg⟩,h1,h2⟩:=h;refine⟨g,f,⟨hg,hf⟩,fun k hk=>?_,fun w hw=>?_⟩
 ·obtain⟨w,hw,e⟩:=h2 k hk;exact⟨w,hw,e.symm⟩
 ·obtain⟨k,hk,e⟩:=h1 w hw;exact⟨k,hk,e.symm⟩
theorem Zn{A B C:List (Pn F)}(h:Cl a b A B)(h':Cl a b B C):Cl a b A C:=by
 obtain⟨f,g,⟨hf,hg⟩,h1,h2⟩:=h;obtain⟨f',g',⟨hf',hg'⟩,h1',h2'⟩:=h';have e:∀ {w k l:Cu F a b},f*w=g*k->f'*k=g'*l->f*f'*w=g*g'*l:=fun {w k l} e e'=>by
  have e1:f*f'*w=f'*(f*w):=PE.same (rho [f,f',w]) (PE.v 0*PE.v 1*PE.v 2) (PE.v 1*(PE.v 0*PE.v 2)) rfl;rw[e1,e,rml,e'];exact(rms _ _ _).symm
 refine⟨f*f',g*g',⟨Qae hf hf',Qae hg hg'⟩,fun w hw=>?_,fun l hl=>?_⟩
 ·obtain⟨k,hk,e1⟩:=h1 w hw;obtain⟨l,hl,e2⟩:=h1' k hk;exact⟨l,hl,e e1 e2⟩
 ·obtain⟨k,hk,e2⟩:=h2' l hl;obtain⟨w,hw,e1⟩:=h2 k hk;exact⟨w,hw,e e1 e2⟩
theorem Qnx{A B:List (Pn F)}(P:Pn F)(h:Cl a b A B):Cl a b (P::A) (P::B):=by
 obtain⟨f,g,hfg,h1,h2⟩:=h;refine⟨f,g,hfg,fun w hw=>?_,fun w hw=>?_⟩
 ·refine Yb (C:=fun w=>∃k,W1 (P::B) k/\f*w=g*k) ⟨0,.zero _ _,by rw[rmz,rmz]⟩ (fun w w' i j=>?_) (fun h k hv hk=>?_) hw
  ·obtain⟨k,hk,e⟩:=i;obtain⟨l,hl,e'⟩:=j;exact⟨k+l,.add hk hl,by rw[rma,rma,e,e']⟩
  ·obtain⟨l,hl,e⟩:=h1 k hk;exact⟨h*l,.mul hv hl,by rw[rml,e,rml]⟩
 ·refine Yb (C:=fun w=>∃k,W1 (P::A) k/\f*k=g*w) ⟨0,.zero _ _,by rw[rmz,rmz]⟩ (fun w w' i j=>?_) (fun h k hv hk=>?_) hw
  ·obtain⟨k,hk,e⟩:=i;obtain⟨l,hl,e'⟩:=j;exact⟨k+l,.add hk hl,by rw[rma,rma,e,e']⟩
  ·obtain⟨l,hl,e⟩:=h2 k hk;exact⟨h*l,.mul hv hl,by rw[rml,e,rml]⟩
theorem Qgw:∀(L:List (Pn F)) {A B:List (Pn F)},Cl a b A B->Cl a b (L++A) (L++B)
 |[],_,_,h=>h
 |P::L,_,_,h=>Qnx P (Qgw L h)
theorem Qpp(A:List (Pn F)):Cl a b (Pn.O::A) A:=⟨1,1,⟨Qbp,Qbp⟩,fun w hw=>⟨w,Zql.1 hw,rfl⟩,fun w hw=>⟨w,Zql.2 hw,rfl⟩⟩
inductive Sm (a b:F):Pn F->Pn F->Pn F->Prop
 |zl (Q:Pn F):Sm a b .O Q Q
 |zr (P:Pn F):Sm a b P .O P
 |opp (x y:F):Sm a b (.P x y) (.P x (-y)) .O
 |ln {l m x1 x2 x3:F} (h:Ln a b l m x1 x2 x3):Sm a b (.P x1 (l*x1+m)) (.P x2 (l*x2+m)) (.P x3 (-(l*x3+m)))
theorem Qgi(ns:NS a b){P Q S:Pn F}(h:Sm a b P Q S)(hP:P.on a b)(hQ:Q.on a b)(hS:S.on a b):Cl a b [P,Q] [S]:=by
 cases h with
 |zl=>exact Qpp [Q]
 |zr=>exact Zn (Uw (List.Perm.swap _ _ _)) (Qpp [P])
 |opp x y =>
  refine Zn (B:=[]) ?_ (Vq (Qpp []));refine⟨1,io (Ax x),⟨Qbp,Qrm (Qj5 x)⟩,fun w hw=>?_,fun k hk=>⟨io (Ax x)*k,Qe6 ns hP hk,?_⟩⟩
  ·obtain⟨k,hk,e⟩:=Qyp hP hw;exact⟨k,hk,by rw[e,show(1:Cu F a b)*(io (Ax x)*k)=io (Ax x)*k from by rw[rmc];exact mul_one _]⟩
  ·rw[rmc];exact mul_one _
 |@ln l m x1 x2 x3 h =>
  have o3:(Pn.P x3 (l*x3+m)).on a b:=by
   have:=Pn.Xby hS;rw[Pn.ng,show - -(l*x3+m)=l*x3+m from neg_neg _]at this;exact this
  refine⟨io (Ax x3),Le a b l m,⟨Qrm (Qj5 x3),Zpf _ _⟩,fun w hw=>?_,fun k hk=>?_⟩
  ·have i:=Qe6 ns o3 hw
   have hp:(Pn.P x3 (l*x3+m)::Pn.P x3 (-(l*x3+m))::Pn.P x1 (l*x1+m)::Pn.P x2 (l*x2+m)::([]:List (Pn F))).Perm (Pn.P x1 (l*x1+m)::Pn.P x2 (l*x2+m)::Pn.P x3 (l*x3+m)::[Pn.P x3 (-(l*x3+m))]) :=
    List.perm_append_comm (l₁:=[_,_]) (l₂:=[_,_])
   obtain⟨k,hk,e⟩:=Qzi h (Qlb hp i);exact⟨k,hk,e⟩
  ·have i:=Zok ns h hP hQ o3 hk
   have hp:(Pn.P x1 (l*x1+m)::Pn.P x2 (l*x2+m)::Pn.P x3 (l*x3+m)::[Pn.P x3 (-(l*x3+m))]).Perm (Pn.P x3 (l*x3+m)::Pn.P x3 (-(l*x3+m))::Pn.P x1 (l*x1+m)::Pn.P x2 (l*x2+m)::([]:List (Pn F))) :=
    List.perm_append_comm (l₁:=[_,_]) (l₂:=[_,_])
   obtain⟨w,hw,e⟩:=Qyp o3 (Qlb hp i);exact⟨w,hw,e.symm⟩
theorem Qx5{P:Pn F}(hP:P.on a b){w:Cu F a b}(hw:W1 [P] w):van P w:=by
 cases P with
 |O=>trivial
 |P x y =>
  refine Yb (C:=van (.P x y)) ?_ (fun h k hh hk=>?_) (fun h k hv _=>?_) hw
  ·show rev x y 0=0;show Xj x 0+y*Xj x 0=0;rw[Qg3,show y*0=(0:F)from mul_zero y];exact add_zero _
  ·show rev x y (h+k)=0;rw[Qrl,show rev x y h=0 from hh,show rev x y k=0 from hk];exact add_zero _
  ·rw[rmc];exact Zmd hP k hv
theorem Qn1{P:Pn F}{w:Cu F a b}(hv:van P w):W1 [P] w:=by
 have:=W1.mul hv (W1.nil (1:Cu F a b));rwa[show w*1=w from mul_one w]at this
theorem Zgz(x:F):nd 2 (io (Ax x):Cu F a b):=by
 have h1:dg 1 (Ax x):=⟨fun i hi=>by
  show add ((Xx:Po F).1 i) (neg ((Cc x).1 i))=zero
  match i,hi with
  |i+2,_=>show add zero (neg zero)=zero;rw[Z0,add_zero],by
  show add one (neg zero)≠zero;rw[Z0,add_zero];exact Fd.one_ne⟩
 have h2:=Y7 h1 h1;unfold nd;have e:Qoo (io (Ax x):Cu F a b)=Ax x*Ax x:=PE.same (rho [Ax x,Bl a b]) (PE.v 0*PE.v 0 + -(PE.v 1*(PE.p0*PE.p0))) (PE.v 0*PE.v 0) rfl;rw[e];exact h2
theorem Qj4{P:Pn F}{x y:F}(hP:P=.P x y){w:Cu F a b}{n:Nat}(hn:nd n w)(hv:van P w):2<=n:=by
 refine Classical.byContradiction fun hc=>?_
 obtain⟨e,hne,_⟩:=Zr0 hn (by omega);rw[hP]at hv;have h0:rev x y w=0:=hv;rw[e]at h0;have h1:rev x y (⟨Cc (w.u.1 0),0⟩:Cu F a b)=w.u.1 0:=(Quk x y _).trans (Wp _ _);exact hne (h1.symm.trans h0)
theorem Zxq{x y:F}{w:Cu F a b}(hn:nd 2 w)(hv:van (.P x y) w):∃c,c≠0/\w=io (Cc c*Ax x):=by
 have e:=Zry hn (Nat.le_refl _);have h0:rev x y w=0:=hv;have h1:Xj x w.u=0:=by
  have:rev x y w=Xj x w.u:=by
   have hv:w.v=0:=congrArg Rc.v e;show Xj x w.u+y*Xj x w.v=_;rw[hv,Qg3,show y*0=(0:F)from mul_zero y];exact add_zero _
  exact this.symm.trans h0
 have hu:w.u=Cc (w.u.1 0)+Cc (w.u.1 1)*Xx:=congrArg Rc.u e;have h2:w.u.1 0+w.u.1 1*x=0:=by
  rw[<- h1];have:Xj x w.u=Xj x (Cc (w.u.1 0)+Cc (w.u.1 1)*Xx):=congrArg _ hu;rw[this,Z5,Zq,Wp,Wp,Qb0]
 have h3:w.u.1 0=-(w.u.1 1*x):=Yd (by rw[add_comm];exact h2);have hw:w=io (Cc (w.u.1 1)*Ax x):=by
  refine Yt ?_ (show w.v=0 from congrArg Rc.v e);refine hu.trans ?_;rw[show Cc (w.u.1 0)=-(Cc (w.u.1 1)*Cc x)from by rw[<- X6,<- Qbo,h3]];exact PE.same (rho [Cc (w.u.1 1),Cc x,Xx]) (-(PE.v 0*PE.v 1)+PE.v 0*PE.v 2) (PE.v 0*(PE.v 2 + -PE.v 1)) rfl
 refine⟨w.u.1 1,fun h0=>Zrh hn ?_,hw⟩;rw[hw,h0,Qqj,show(0:Po F)*Ax x=0 from by rw[show(0:Po F)*Ax x=Ax x*0 from mul_comm _ _];exact mul_zero _];rfl
theorem Zps{x y:F}(h:Cl a b [Pn.O] [Pn.P x y])(hB:(Pn.P x y).on a b):False:=by
 obtain⟨f,g,⟨hf,hg⟩,h1,h2⟩:=h;obtain⟨b0,hb0,e0⟩:=h1 1 (Qn1 trivial);have e0:f=g*b0:=by rw[<- e0];exact(mul_one f).symm
 obtain⟨r,_,e1⟩:=h2 _ (Qn1 (Qjk x y));have hb0v:=Qx5 hB hb0;have hb:b0≠0:=fun hc=>hf (by rw[e0,hc,rmz])
 have e2:b0*r=io (Ax x):=Qes hg (by rw[<- e1,e0,rms]);have hr:r≠0:=fun hc=>Qrm (Qj5 x) (e2.symm.trans (by rw[hc,rmz]))
 obtain⟨m,hm⟩:=Qxy hb;obtain⟨n,hn⟩:=Qxy hr;have hmn:=Qw6 hm hn;rw[e2]at hmn;have hs:=Qqh hmn (Zgz x);have hm2:=Qj4 rfl hm hb0v;have hm2:m=2:=by omega
 subst hm2;obtain⟨c,hc,eb⟩:=Zxq hm hb0v;obtain⟨s,_,e3⟩:=h2 _ (Qn1 (Qx6 x y));have e4:b0*s=Yy + -io (Cc y):=Qes hg (by rw[<- e3,e0,rms]);have e5:(b0*s).v=(Yy + -io (Cc y):Cu F a b).v:=congrArg Rc.v e4;rw[eb]at e5;have e6:Cc c*Ax x*s.v+0*s.u=(1:Po F) + -0:=e5;have e7:Xj x (Cc c*Ax x*s.v+0*s.u)=Xj x ((1:Po F) + -0):=by rw[e6]
 rw[Z5,Zq,Zq,Zq,Qvy,Qg3,Z5,Qr7,Ud,Qg3]at e7;refine Fd.one_ne (α:=F) ?_;have e8:Xj x (Cc c)*0*Xj x s.v+0*Xj x s.u=(0:F):=PE.same (rho [Xj x (Cc c),Xj x s.v,Xj x s.u]) (PE.v 0*PE.p0*PE.v 1+PE.p0*PE.v 2) PE.p0 rfl;have e9:(1:F) + -0=1:=PE.same (rho []) (PE.p1 + -PE.p0) PE.p1 rfl;rw[e8,e9]at e7;exact e7.symm
theorem Zya{x y x' y':F}(h:Cl a b [Pn.P x y] [Pn.P x' y'])(hA:(Pn.P x y).on a b)(hB:(Pn.P x' y').on a b):x=x'/\y=y':=by
 obtain⟨f,g,⟨hf,hg⟩,h1,h2⟩:=h;obtain⟨k1,hk1,e1⟩:=h1 _ (Qn1 (Qjk x y));obtain⟨a1,ha1,e2⟩:=h2 _ (Qn1 (Qjk x' y'));have vk:=Qx5 hB hk1;have va:=Qx5 hA ha1;have hk1n:k1≠0:=fun hc=>Qae hf (Qrm (a:=a) (b:=b) (Qj5 x)) (by rw[e1,hc,rmz])
 have ha1n:a1≠0:=fun hc=>Qae hg (Qrm (a:=a) (b:=b) (Qj5 x')) (by rw[<- e2,hc,rmz])
 have e3:k1*a1=io (Ax x)*io (Ax x'):=by
  refine Qes (Qae hf hg) ?_;have e4:f*g*(k1*a1)=(g*k1)*(f*a1):=PE.same (rho [f,g,k1,a1]) (PE.v 0*PE.v 1*(PE.v 2*PE.v 3)) (PE.v 1*PE.v 2*(PE.v 0*PE.v 3)) rfl;rw[e4,<- e1,e2];exact PE.same (rho [f,g,io (Ax x),io (Ax x')]) (PE.v 0*PE.v 2*(PE.v 1*PE.v 3)) (PE.v 0*PE.v 1*(PE.v 2*PE.v 3)) rfl
 obtain⟨m,hm⟩:=Qxy hk1n;obtain⟨n,hn⟩:=Qxy ha1n;have hmn:=Qw6 hm hn;rw[e3]at hmn;have hs:=Qqh hmn (Qw6 (Zgz x) (Zgz x'));have m2:=Qj4 rfl hm vk;have n2:=Qj4 rfl hn va;have hm2:m=2:=by omega
 subst hm2;obtain⟨c,hc,ek⟩:=Zxq hm vk;obtain⟨k2,hk2,e5⟩:=h1 _ (Qn1 (Qx6 x y));have vk2:=Qx5 hB hk2;have e6:io (Ax x)*k2=k1*(Yy + -io (Cc y)):=by
  refine Qes (Qae hf hg) ?_;have e7:f*g*(io (Ax x)*k2)=(f*io (Ax x))*(g*k2):=PE.same (rho [f,g,io (Ax x),k2]) (PE.v 0*PE.v 1*(PE.v 2*PE.v 3)) (PE.v 0*PE.v 2*(PE.v 1*PE.v 3)) rfl;rw[e7,e1,<- e5];exact PE.same (rho [f,g,k1,Yy + -io (Cc y)]) (PE.v 1*PE.v 2*(PE.v 0*PE.v 3)) (PE.v 0*PE.v 1*(PE.v 2*PE.v 3)) rfl
 rw[ek]at e6;have ev:(io (Ax x)*k2).v=(io (Cc c*Ax x')*(Yy + -io (Cc y)):Cu F a b).v:=congrArg Rc.v e6;have eu:(io (Ax x)*k2).u=(io (Cc c*Ax x')*(Yy + -io (Cc y)):Cu F a b).u:=congrArg Rc.u e6;have ev1:Ax x*k2.v=Cc c*Ax x':=by
  have l:(io (Ax x)*k2).v=Ax x*k2.v:=PE.same (rho [Ax x,k2.v,k2.u]) (PE.v 0*PE.v 1+PE.p0*PE.v 2) (PE.v 0*PE.v 1) rfl;have r:(io (Cc c*Ax x')*(Yy + -io (Cc y)):Cu F a b).v=Cc c*Ax x':=PE.same (rho [Cc c*Ax x',Cc y]) (PE.v 0*(PE.p1 + -PE.p0)+PE.p0*(PE.p0 + -PE.v 1)) (PE.v 0) rfl;rw[<- l,ev,r]
 have eu1:Ax x*k2.u=-(Cc c*Cc y*Ax x'):=by
  have l:(io (Ax x)*k2).u=Ax x*k2.u:=PE.same (rho [Ax x,k2.v,k2.u,Bl a b]) (PE.v 0*PE.v 2+PE.v 3*(PE.p0*PE.v 1)) (PE.v 0*PE.v 2) rfl;have r:(io (Cc c*Ax x')*(Yy + -io (Cc y)):Cu F a b).u=-(Cc c*Cc y*Ax x'):=PE.same (rho [Cc c,Ax x',Cc y,Bl a b]) (PE.v 0*PE.v 1*(PE.p0 + -PE.v 2)+PE.v 3*(PE.p0*(PE.p1 + -PE.p0))) (-(PE.v 0*PE.v 2*PE.v 1)) rfl;rw[<- l,eu,r]
 have hx:x=x':=by
  have h3:Xj x (Ax x*k2.v)=Xj x (Cc c*Ax x'):=by rw[ev1]
  rw[Zq,Zq,Qvy,Wp]at h3;have h4:c*Xj x (Ax x')=0:=by
   rw[<- h3,show(0:F)*Xj x k2.v=Xj x k2.v*0 from mul_comm _ _];exact mul_zero _
  rcases W3 h4 with h5|h5
  ·exact absurd h5 hc
  ·unfold Ax at h5;rw[Z5,Ud,Qb0,Wp]at h5;have:=Yd (a:=neg x') (b:=x) (by rw[add_comm];exact h5);rw[this];exact neg_neg _
 subst hx;refine⟨rfl,?_⟩;have hv2:k2.v=Cc c:=Qz8 (Qj5 x) (ev1.trans (mul_comm _ _));have hu2:k2.u=-(Cc c*Cc y):=Qz8 (Qj5 x) (eu1.trans (PE.same (rho [Cc c,Cc y,Ax x]) (-(PE.v 0*PE.v 1*PE.v 2)) (PE.v 2 * -(PE.v 0*PE.v 1)) rfl));have h6:Xj x k2.u+y'*Xj x k2.v=0:=vk2;rw[hu2,hv2,Ud,Zq,Wp,Wp]at h6;have h7:c*(y' + -y)=0:=by
  rw[<- h6];exact PE.same (rho [c,y,y']) (PE.v 0*(PE.v 2 + -PE.v 1)) (-(PE.v 0*PE.v 1)+PE.v 2*PE.v 0) rfl
 rcases W3 h7 with h8|h8
 ·exact absurd h8 hc
 ·have:=Yd (a:=neg y) (b:=y') (by rw[add_comm];exact h8);rw[this];exact(neg_neg _).symm
theorem Qf6{A B:Pn F}(h:Cl a b [A] [B])(hA:A.on a b)(hB:B.on a b):A=B:=by
 cases A with
 |O=>cases B with
  |O=>rfl
  |P x y=>exact(Zps h hB).elim
 |P x y=>cases B with
  |O=>exact(Zps (Vq h) hA).elim
  |P x' y'=>obtain⟨rfl,rfl⟩:=Zya h hA hB;rfl
end
end Go.Sx
