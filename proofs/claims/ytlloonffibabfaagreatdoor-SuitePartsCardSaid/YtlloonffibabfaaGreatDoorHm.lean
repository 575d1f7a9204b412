/- Part Hm of the proof. -/
import Derived.Test.YtlloonffibabfaaGreatDoorHl
import Derived.Test.YtlloonffibabfaaGreatDoorHk
import Derived.Test.YtlloonffibabfaaGreatDoorHj
set_option linter.unusedVariables false
set_option linter.unusedSimpArgs false
namespace Go.Sx
open Go Go.RowKit
set_option maxRecDepth 100000
theorem Zh2{P:Nat->Prop}(h:∃n,P n):∃n,P n/\∀m,m<n->¬P m:=by
 obtain⟨n,hn⟩:=h
 induction n using Nat.strongRecOn with
 |ind n ih =>
  by_cases hm:∃m,m<n/\P m
  ·obtain⟨m,h1,h2⟩:=hm;exact ih m h1 h2
  ·exact⟨n,hn,fun m h1 h2=>hm ⟨m,h1,h2⟩⟩
open Classical in
noncomputable def Qf1(P:Nat->Prop):Nat:=if h:∃n,P n/\∀m,m<n->¬P m then h.choose else 0
theorem Qb7{P:Nat->Prop}(h:∃n,P n):P (Qf1 P)/\∀m,m<Qf1 P->¬P m:=by
 have h:=Zh2 h;unfold Qf1;rw[dif_pos h];exact h.choose_spec
theorem Qmq{P:Nat->Prop}{n:Nat}(h1:P n)(h2:∀m,m<n->¬P m):Qf1 P=n:=by
 obtain⟨k1,k2⟩:=Qb7 ⟨n,h1⟩;rcases Nat.lt_trichotomy (Qf1 P) n with h|h|h
 ·exact absurd k1 (h2 _ h)
 ·exact h
 ·exact absurd h1 (k2 _ h)
noncomputable def Y4(h:Int->Prop)(p x:Int):Nat:=Qf1 fun n=>h ((x+n)%p)
theorem Qkb{h:Int->Prop}{p x:Int}(hx:0<=x/\x<p)(hex:∃n:Nat,h ((x+n)%p))(hno:¬h x):Y4 h p x=Y4 h p ((x+1)%p)+1/\∃n:Nat,h (((x+1)%p+n)%p):=by
 obtain⟨h1,h2⟩:=Qb7 hex;have e0:∀m:Nat,((x+1)%p+m)%p=(x+((m+1:Nat):Int))%p:=fun m=>by
  rw[Hj];congr 1;omega
 have hn:Y4 h p x≠0:=fun h0=>by
  have h3:h ((x+((Y4 h p x:Nat):Int))%p):=h1;rw[h0]at h3;apply hno;rwa[show x+((0:Nat):Int)=x by simp,Oy hx.1 hx.2]at h3
 obtain⟨m,hm⟩:∃m,Y4 h p x=m+1:=⟨Y4 h p x-1,by omega⟩
 have h3:h ((x+((m+1:Nat):Int))%p):=by rw[<- hm];exact h1
 have h4:Y4 h p ((x+1)%p)=m:=Qmq (by rw[e0];exact h3) fun k hk=>by rw[e0];exact h2 _ (by show k+1<Y4 h p x;omega)
 exact⟨by rw[hm,h4],m,by rw[e0];exact h3⟩
theorem Qk3{h:Int->Prop}{p x:Int}(hx:0<=x/\x<p)(hh:h x):Y4 h p x=0:=Qmq (by simpa[Oy hx.1 hx.2]using hh) fun m hm=>absurd hm (Nat.not_lt_zero _)
theorem Qzv{k:Int}{j:Nat}(h:k=wr .i64 j):wr .i64 (k+1)=wr .i64 ((j+1:Nat):Int):=by
 rw[h];simp only[wr];omega
def Ws(p x:Int):Int:=pwM p (W8 p x) ((p+1)/4)
def Ql3(p x:Int):Prop:=Ws p x*Ws p x%p=W8 p x
instance  (p x:Int):Decidable (Ql3 p x):=inferInstanceAs (Decidable (_=_))
noncomputable def X9(p x:Int):Nat:=Y4 (Ql3 p) p x
def Qll(p y:Int):Int:=if(-y)%p<y then(-y)%p else y
noncomputable def Qtv(p x:Int):List Int:=[(x+X9 p x)%p,Qll p (Ws p ((x+X9 p x)%p)),0]
theorem Ze4{p:Int}(hp:prP p)(x:Int):∃n:Nat,Ql3 p ((x+n)%p):=by
 have hpp:3<p:=by unfold prP at hp;omega
 refine⟨((-x)%p).toNat,?_⟩;have h1:0<=(-x)%p:=Mw _ (by omega);have h2:(x+(((-x)%p).toNat:Int))%p=0:=by
  rw[Kg h1,Int.add_emod,Int.emod_emod,<- Int.add_emod,Int.add_right_neg,Int.zero_emod]
 rw[h2];have h3:W8 p 0=0:=by simp[W8]
 unfold Ql3 Ws;rw[h3];have h4:pwM p 0 ((p+1)/4)=0:=by
  unfold pwM;rw[show(0:Int).toNat=0 from rfl,Nat.zero_pow (by omega),Nat.zero_mod];rfl
 rw[h4];simp
theorem Qzk{p:Int}(hp:prP p)(x:Int):Ql3 p ((x+X9 p x)%p)/\∀m:Nat,m<X9 p x->¬Ql3 p ((x+m)%p):=Qb7 (Ze4 hp x)
noncomputable def Qkc(f:FuncId):K:={fn:=f,ext:=false,ins:=[iI,iU],outs:=[.agg [.int .u64,.int .u64,.bool],oI,oI],pre:=fun|[s,_]=>B5 s|_=>False,sem:=fun|[s,x]=>Qtv (pL s) x++[wr .i64 (X9 (pL s) x),0]|_=>[] }
theorem Qpw{s:Int}(h:B5 s):prP (pL s):=by
 rcases h with h|h <;> rw[h] <;> unfold prP pL <;> simp
theorem Zrt{s:Int}(h:B5 s):(cvL s).getD 0 0=pL s:=by rcases h with h|h <;> rw[h] <;> rfl
theorem Qqr{p:Int}(hp:prP p)(x:Int):0<=Ws p x/\Ws p x<p:=by
 have hpp:0<p:=by unfold prP at hp;omega
 unfold Ws pwM;have:=Oau ((W8 p x).toNat^((p+1)/4).toNat) (show 0<p.toNat by omega);omega
theorem Zdc{p:Int}(hp:prP p)(x:Int):0<=W8 p x/\W8 p x<p:=by
 have hpp:0<p:=by unfold prP at hp;omega
 exact⟨Mw _ (by omega),Mv _ hpp⟩
theorem Qyt{p:Int}(hp:prP p)(x:Int):onL p ⟨(x+X9 p x)%p,Qll p (Ws p ((x+X9 p x)%p)),0⟩:=by
 have hpp:0<p:=by unfold prP at hp;omega
 obtain⟨h1,_⟩:=Qzk hp x;have h2:=Qqr hp ((x+X9 p x)%p);have h3:0<=(x+X9 p x)%p/\(x+X9 p x)%p<p:=⟨Mw _ (by omega),Mv _ hpp⟩
 unfold Ql3 at h1;generalize (x+(X9 p x:Int))%p=z at *
 have h4:0<=(-Ws p z)%p/\(-Ws p z)%p<p:=⟨Mw _ (by omega),Mv _ hpp⟩
 have h5:0<=Qll p (Ws p z)/\Qll p (Ws p z)<p/\Qll p (Ws p z)*Qll p (Ws p z)%p=W8 p z:=by
  unfold Qll;split
  ·refine⟨h4.1,h4.2,?_⟩;rw[<- h1,<- Int.mul_emod,Hv]
  ·exact⟨h2.1,h2.2,h1⟩
 refine⟨?_,⟨h3.1,h5.1⟩,.inl rfl⟩;unfold onP;rw[if_pos rfl];exact⟨h3.2,h5.2.1,h5.2.2⟩
def Zjm:Qq:=(xw 0 [.v 0] 2 qja
(.l 9 .bit (.not (.v 8))
(.split 9
(.ret [.n 0,.n 0,.n 0,.n 0,.n 2])
(.l 10 kU (.b .rem .u64 (.v 1) (.v 2))
(.nz (.v 2)
(.loop [.v 10,.n 0] [kU,kI] 11
(xw 2 [.v 2,.v 3,.v 4,.v 5,.v 6,.v 7,.v 11] 157 qia
(.l 301 kU (.b .add .u64 (.v 2) (.n 1))
(.l 349 kU (.b .quo .u64 (.v 301) (.n 4))
(xw 1 [.v 2,.v 3,.v 4,.v 5,.v 6,.v 7,.v 157,.v 349] 397 qia
(xw 3 [.v 2,.v 3,.v 4,.v 5,.v 6,.v 7,.v 397,.v 397] 637 qia
(xw 2 [.v 2,.v 3,.v 4,.v 5,.v 6,.v 7,.v 11] 781 qia
(.l 829 .bit (.c .eql (.v 637) (.v 781))
(.split 829
(xw 5 [.v 2,.v 3,.v 4,.v 5,.v 6,.v 7,.n 0,.v 397] 877 qia
(.l 878 .bit (.c .lss (.v 877) (.v 397))
(.l 879 kU (.put (.v 878) 1 (.v 877) (.v 397))
(.ret [.v 11,.v 879,.n 0,.v 12,.n 0]))))
(xw 4 [.v 2,.v 3,.v 4,.v 5,.v 6,.v 7,.v 11,.n 1] 877 qia
(.l 878 kI (.b .add .i64 (.v 12) (.n 1))
(.back 0 [.v 877,.v 878])))))))))))))))))
theorem Zck(f0 f1 f2 f3 f4 f5 f:FuncId)(e:Nat->Int)(hk:Q0 [.int .i64,.int .u64] [e 0,e 1])(hp:(Qkc f).pre [e 0,e 1]):Zjm.Xat [Zbj f0,Qjr f1,Qaa f2,Uu f3,Qd3 f4,Qez f5] ⟨fun ys=>ys=(Qkc f).sem [e 0,e 1],[]⟩ e:=by
 have hl:B5 (e 0):=hp;have hx:0<=e 1:=hk.2.1.1;show Zjm.Xat _ ⟨fun ys=>ys=Qtv (pL (e 0)) (e 1)++[wr .i64 (X9 (pL (e 0)) (e 1)),0],[]⟩ e;clear hk;have hpr:=Qpw hl;have hok:=Zak (e 0);refine⟨trivial,fun a2 _ a3 _ a4 _ a5 _ a6 _ a7 _ a8 _ a9 _=>?_⟩;have v2:e 2=pL (e 0):=(show e 2=(cvL (e 0)).getD 0 0 from a2).trans (Zrt hl);have v8:e 8=1:=by
  have h:e 8=(cvL (e 0)).getD 6 0:=a8;rcases hl with hs|hs <;> rw[h,hs] <;> rfl
 have b9:=Ju a9;simp only[Ql]at b9;refine⟨fun h=>by omega,fun h=>?_⟩;have hp0:0<e 2:=by rw[v2];have:=hok.1;omega
 intro a10 _;have v10:e 10=e 1%e 2:=by
  rw[show e 10=(e 1).tmod (e 2)from a10,Mt hx]
 have m10:e 10=(e 1+((0:Nat):Int))%e 2:=by rw[v10];simp
 obtain⟨n,hn⟩:∃n,n=X9 (pL (e 0)) (e 1):=⟨_,rfl⟩
 obtain⟨hit,miss⟩:=Qzk hpr (e 1);have hV:Qtv (pL (e 0)) (e 1)++[wr .i64 (X9 (pL (e 0)) (e 1)),0]=[(e 1+n)%e 2,Qll (e 2) (Ws (e 2) ((e 1+n)%e 2)),0,wr .i64 n,0]:=by
  rw[hn,v2];rfl
 rw[<- hn,<- v2]at hit miss;rw[hV];rw[<- v2]at hok hpr;have hn2:n=X9 (e 2) (e 1):=by rw[hn,v2]
 clear hV v8 b9 h a3 a4 a5 a6 a7 a8 a9 hl a2 a10 hn v2;refine⟨by show e 2≠0;omega,fun|[x,k]=>(0<=x/\x<e 2)/\∃j:Nat,x=(e 1+j)%e 2/\k=wr .i64 j/\j+X9 (e 2) x=n|_=>False,fun|[x,k]=>X9 (e 2) x|_=>0,?_,fun e' he hkk hI=>?_⟩
 ·show(0<=e 10/\e 10<e 2)/\∃j:Nat,e 10=(e 1+j)%e 2/\(0:Int)=wr .i64 j/\j+X9 (e 2) (e 10)=n;refine⟨⟨by rw[v10];exact Mw _ (by omega),by rw[v10];exact Mv _ hp0⟩,0,m10,rfl,?_⟩;rw[M5,hn2,v10];unfold X9 Y4;congr 1
  funext m
  rw[Hj]
 obtain⟨⟨x0,x1⟩,j,q1,q2,q3⟩:(0<=e' 11/\e' 11<e 2)/\∃j:Nat,e' 11=(e 1+j)%e 2/\e' 12=wr .i64 j/\j+X9 (e 2) (e' 11)=n:=hI;rw[<- he 2 (by decide)]at x1 q1 q3 hit miss hp0 hok hpr ⊢;rw[<- he 1 (by decide)]at q1 hit miss ⊢;clear he hkk m10 v10 hn2 hx;have hr:=Zdc hpr (e' 11);have hy:=Qqr hpr (e' 11);have hquo:∀v,v=Qm .add .u64 (e' 2) 1->v=e' 2+1:=fun v h=>by
  rw[h];simp only[Qm,wr];have:=hok.2;omega
 refine⟨⟨hok,x1⟩,fun a157 _ a301 _ a349 _=>⟨hok,fun a397 _=>⟨hok,fun a637 _=>⟨⟨hok,x1⟩,fun a781 _ a829 _=>?_⟩⟩⟩⟩;have v157:e' 157=W8 (e' 2) (e' 11):=a157;have v301:=hquo _ a301;have v349:e' 349=(e' 2+1)/4:=by
  rw[show e' 349=wr .u64 ((e' 301).tdiv 4)from a349,v301,Kw (by omega)];simp only[wr];have:=hok.2;omega
 have v397:e' 397=Ws (e' 2) (e' 11):=by rw[show e' 397=pwM (e' 2) (e' 157) (e' 349)from a397,v157,v349];rfl
 have v637:e' 637=Ws (e' 2) (e' 11)*Ws (e' 2) (e' 11)%e' 2:=by rw[show e' 637=e' 397*e' 397%e' 2 from a637,v397]
 have v781:e' 781=W8 (e' 2) (e' 11):=a781;have b829:=Zy a829;simp only[Ql]at b829;rw[v637,v781]at b829;refine⟨fun h=>?_,fun h=>?_⟩
 ·have hh:Ql3 (e' 2) (e' 11):=Xn b829 h;have hz:X9 (e' 2) (e' 11)=0:=Qk3 ⟨x0,x1⟩ hh;have hj:j=n:=by omega
  refine⟨⟨hok,by show 0<e' 2;exact hp0,by show e' 397<e' 2;rw[v397];exact hy.2⟩,fun a877 _ a878 _ a879 _=>?_⟩;have v877:e' 877=(-Ws (e' 2) (e' 11))%e' 2:=by rw[show e' 877=(0-e' 397)%e' 2 from a877,v397,Int.zero_sub]
  have b878:=Zj a878;simp only[Ql]at b878;have v879:e' 879=Qll (e' 2) (Ws (e' 2) (e' 11)):=by
   have h:e' 879=if e' 878=((1:Nat):Int)then e' 877 else e' 397:=a879
   rw[h];unfold Qll;rw[v877,v397]at b878;rcases b878 with⟨h1,h2⟩|⟨h1,h2⟩
   ·rw[if_pos (by rw[h1];rfl),if_pos h2,v877]
   ·rw[if_neg (by rw[h1];decide),if_neg h2,v397]
  show[e' 11,e' 879,0,e' 12,0]=_;rw[v879,q2,<- hj,<- q1]
 ·have hh:¬Ql3 (e' 2) (e' 11):=Wc b829 h;obtain⟨hs,_⟩:=Qkb (h:=Ql3 (e' 2)) ⟨x0,x1⟩ (Ze4 hpr _) hh;refine⟨⟨hok,x1,by show(1:Int)<e' 2;have:=hok.1;omega⟩,fun a877 _ a878 _=>?_⟩;have v877:e' 877=(e' 11+1)%e' 2:=a877;show((0<=e' 877/\e' 877<e' 2)/\∃j:Nat,e' 877=(e' 1+j)%e' 2/\e' 878=wr .i64 j/\j+X9 (e' 2) (e' 877)=n)/\X9 (e' 2) (e' 877)<X9 (e' 2) (e' 11);have hs:X9 (e' 2) (e' 11)=X9 (e' 2) (e' 877)+1:=by rw[v877];exact hs
  refine⟨⟨⟨by rw[v877];exact Mw _ (by omega),by rw[v877];exact Mv _ hp0⟩,j+1,?_,?_,by omega⟩,by omega⟩
  ·rw[v877,q1,Hj];congr 1;omega
  ·exact(show e' 878=wr .i64 (e' 12+1)from a878).trans (Qzv q2)
def cL(s:Int):Int:=if s=1 then 12 else 16
theorem Zxd{s:Int}(h:B5 s):(cvL s).getD 2 0=cL s:=by rcases h with h|h <;> rw[h] <;> rfl
noncomputable def Qel(f:FuncId):K:={fn:=f,ext:=false,ins:=[iI,iPt],outs:=[.agg [.int .u64,.int .u64,.bool],oI],pre:=fun|[s,x,y,z]=>B5 s/\onP (pL s) x y z|_=>False,sem:=fun|[s,x,y,z]=>(Xa (pL s) ⟨x,y,z⟩ 64 (cL s).toNat).l++[0]|_=>[] }
def Zap:Qq:=(xw 0 [.v 0] 4 qja
(.l 11 .bit (.not (.v 10))
(.split 11
(.ret [.n 0,.n 0,.n 0,.n 2])
(xw 1 [.v 4,.v 5,.v 6,.v 7,.v 8,.v 9,.v 1,.v 2,.v 3] 12 qga
(.l 13 .bit (.not (.v 12))
(.split 13
(.ret [.n 0,.n 0,.n 0,.n 5])
(xw 2 [.v 4,.v 5,.v 6,.v 7,.v 8,.v 9,.v 1,.v 2,.v 3,.v 6] 14 qma
(.ret [.v 14,.v 15,.v 16,.n 0]))))))))
theorem Qvp(f1 f2 f3 f:FuncId)(e:Nat->Int)(hp:(Qel f).pre [e 0,e 1,e 2,e 3]):Zap.Xat [Zbj f1,Qvg f2,Qar f3] ⟨fun ys=>ys=(Qel f).sem [e 0,e 1,e 2,e 3],[]⟩ e:=by
 obtain⟨hl,ho⟩:B5 (e 0)/\onP (pL (e 0)) (e 1) (e 2) (e 3):=hp;have hok:=Zak (e 0);show Zap.Xat _ ⟨fun ys=>ys=(Xa (pL (e 0)) ⟨e 1,e 2,e 3⟩ 64 (cL (e 0)).toNat).l++[0],[]⟩ e;refine⟨trivial,fun a4 _ a5 _ a6 _ a7 _ a8 _ a9 _ a10 _ a11 _=>?_⟩;have v4:e 4=pL (e 0):=(show e 4=(cvL (e 0)).getD 0 0 from a4).trans (Zrt hl);have v6:e 6=cL (e 0):=(show e 6=(cvL (e 0)).getD 2 0 from a6).trans (Zxd hl);have v10:e 10=1:=by rw[show e 10=(cvL (e 0)).getD 6 0 from a10,Qyl hl];rfl
 have b11:=Ju a11;simp only[Ql]at b11;refine⟨fun h=>by omega,fun _=>⟨(by show pOk (e 4);rw[v4];exact hok),fun a12 _ a13 _=>?_⟩⟩;have v12:e 12=bi (onP (e 4) (e 1) (e 2) (e 3)):=a12;rw[v4,Zrd,Ql9 ho]at v12;have b13:=Ju a13;simp only[Ql]at b13;have hlt:=Zxx (show 0<pL (e 0) by have:=hok.1;omega) ho;refine⟨fun h=>by omega,fun _=>⟨(by show pOk (e 4)/\e 1<e 4/\e 2<e 4;rw[v4];exact⟨hok,hlt.1,hlt.2⟩),fun a14 _ a15 _ a16 _=>?_⟩⟩;have hs:[e 14,e 15,e 16]=(Xa (e 4) ⟨e 1,e 2,e 3⟩ 64 (e 6).toNat).l:=by
  rw[show e 14=_ from a14,show e 15=_ from a15,show e 16=_ from a16];rfl
 rw[v4,v6]at hs;show[e 14,e 15,e 16,0]=_;rw[<- hs];rfl
noncomputable def Zpn(p x:Int):Pt:=⟨(x+X9 p x)%p,Qll p (Ws p ((x+X9 p x)%p)),0⟩
noncomputable def Qcx(s tag:Int)(t:List Int):Pt:=Xa (pL s) (Zpn (pL s) (Y8 (pL s) tag t)) 64 (cL s).toNat
noncomputable def Qtg(Q:Int->List Int->Prop)(f:FuncId):K:={fn:=f,ext:=false,ins:=[iI,.one (.int .u8),.lst (.int .u8)],outs:=[.agg [.int .u64,.int .u64,.bool]],pre:=fun|[s,g,t]=>B5 s/\(dec t).length<=65536/\Q g (dec t)|_=>False,sem:=fun|[s,tag,t]=>(Qcx s tag (dec t)).l|_=>[] }
theorem Zl4{s:Int}(h:B5 s):pL s%2=1/\3<=pL s/\pL s<2^382:=by
 have h2:(1152921504606846223:Int)<2^382:=by decide +kernel
 have h1:(786251:Int)<2^382:=by decide +kernel
 rcases h with h|h <;> rw[h]
 ·exact⟨by decide,by decide,h1⟩
 ·exact⟨by decide,by decide,h2⟩
theorem Zk2{s:Int}(h:B5 s):Bc s=pL s:=by rcases h with h|h <;> rw[h] <;> rfl
def Zk7:Qq:=(xw 0 [.v 0] 3 Z7
(xw 1 [.v 3,.v 1,.v 2] 4 Z7
(xw 2 [.v 0,.m 4 0] 5 [kU,kU,.bit,kI,kI]
(xw 3 [.v 0,.v 5,.v 6,.v 7] 10 [kU,kU,.bit,kI]
(.ret [.v 10,.v 11,.v 12])))))
theorem Zki(Q:Int->List Int->Prop)(f0 f1 f2 f3 f:FuncId)(e:Nat->Int)(hp:(Qtg Q f).pre [e 0,e 1,e 2]):Zk7.Xat [Qfe f0,Qe9 Q f1,Qkc f2,Qel f3] ⟨fun ys=>ys=(Qtg Q f).sem [e 0,e 1,e 2],[]⟩ e:=by
 obtain⟨hl,ht,hq⟩:B5 (e 0)/\(dec (e 2)).length<=65536/\Q (e 1) (dec (e 2)):=hp;show Zk7.Xat _ ⟨fun ys=>ys=(Qcx (e 0) (e 1) (dec (e 2))).l,[]⟩ e;refine⟨by show Vf (e 0);unfold B5 at hl;unfold Vf;omega,fun a3 _=>?_⟩;have v3:e 3=pL (e 0):=(show e 3=Bc (e 0)from a3).trans (Zk2 hl);refine⟨⟨by show e 3%2=1/\3<=e 3/\e 3<2^382;rw[v3];exact Zl4 hl,ht,hq⟩,fun a4 _=>?_⟩;have v4:e 4=Y8 (pL (e 0)) (e 1) (dec (e 2)):=by rw[show e 4=Y8 (e 3) (e 1) (dec (e 2))from a4,v3]
 have hok:=Zak (e 0);have r4:0<=e 4/\e 4<4611686018427387904:=by
  rw[v4];have h1:=Mw (Xr ((Qxh (e 1) (dec (e 2))).drop 16)+Xr ((Qxh (e 1) (dec (e 2))).take 16)*Qw) (show pL (e 0)≠0 by have:=hok.1;omega);have h2:=Mv (Xr ((Qxh (e 1) (dec (e 2))).drop 16)+Xr ((Qxh (e 1) (dec (e 2))).take 16)*Qw) (show 0<pL (e 0) by have:=hok.1;omega);exact⟨h1,by have:=hok.2;unfold Y8;omega⟩
 have l4:A.ev e (.m 4 0)=e 4:=by
  show e 4/p64 0%18446744073709551616=e 4;rw[show p64 0=1 from rfl,Oan];omega
 refine⟨hl,fun a5 _ a6 _ a7 _ a8 _ a9 _=>?_⟩;have v5:e 5=(Qtv (pL (e 0)) (A.ev e (.m 4 0))).getD 0 0:=a5;have v6:e 6=(Qtv (pL (e 0)) (A.ev e (.m 4 0))).getD 1 0:=a6;have v7:e 7=0:=a7;rw[l4,v4]at v5 v6;have hon:=Qyt (Qpw hl) (Y8 (pL (e 0)) (e 1) (dec (e 2)));refine⟨⟨hl,by show onP (pL (e 0)) (e 5) (e 6) (e 7);rw[v5,v6,v7];exact hon.1⟩,fun a10 _ a11 _ a12 _ a13 _=>?_⟩;have hs:[e 10,e 11,e 12]=(Xa (pL (e 0)) ⟨e 5,e 6,e 7⟩ 64 (cL (e 0)).toNat).l:=by
  rw[show e 10=_ from a10,show e 11=_ from a11,show e 12=_ from a12];rfl
 show[e 10,e 11,e 12]=_;rw[hs,v5,v6,v7];rfl
def S2(A B:E2):Prop:=A.1%bP=B.1%bP/\A.2%bP=B.2%bP
theorem Bz{x y:Int}:R2.isz (x,y)=true↔x%bP=0/\y%bP=0:=by
 show(x%bP==0&&y%bP==0)=true↔_;rw[Oo,beq_iff_eq,beq_iff_eq]
theorem Zor{y z:E2}(h:R2.isz y=true):R2.isz (R2.mul y z)=true:=by
 obtain⟨h1,h2⟩:=Bz.1 h;exact Bz.2 ⟨Zo0 (X4 _ h1) (X4 _ h2),Qif (X4 _ h1) (X4 _ h2)⟩
def Zk(A:E2):E2:=(A.1*nrm A.1 A.2,-(A.2*nrm A.1 A.2))
def Ba(P:J E2):List Int:=if P.z.1%bP=0/\P.z.2%bP=0 then[0,0,0,0,1]else
 let i:=Zk P.z
 let s:=R2.mul i i
 let x:=R2.mul P.x s
 let y:=R2.mul P.y (R2.mul s i)
 [x.1%bP,x.2%bP,y.1%bP,y.2%bP,0]
def EQ(x y:Int)(Y:E2):Prop:=x=Qr Y.1/\y=Qr Y.2
theorem EQ.l1{x y:Int}{Y:E2}(h:EQ x y Y):x<bP:=Q6 h.1
theorem EQ.l2{x y:Int}{Y:E2}(h:EQ x y Y):y<bP:=Q6 h.2
theorem Yz{x y:Int}(h0:0<=x)(h1:x<bP)(k0:0<=y)(k1:y<bP):EQ x y (Qo x,Qo y):=⟨Vl h0 h1,Vl k0 k1⟩
theorem Ux{x y a b c d:Int}{A C:E2}(h:x=Qr (Qo a+Qo c))(k:y=Qr (Qo b+Qo d))(ha:EQ a b A)(hc:EQ c d C):EQ x y (R2.add A C):=⟨Qfo h ha.1 hc.1,Qfo k ha.2 hc.2⟩
theorem Qat{x y a b c d:Int}{A C:E2}(h:x=Qr (Qo a-Qo c))(k:y=Qr (Qo b-Qo d))(ha:EQ a b A)(hc:EQ c d C):EQ x y (R2.sub A C):=⟨Qwj h ha.1 hc.1,Qwj k ha.2 hc.2⟩
theorem Zr{x y a b c d:Int}{A C:E2}(h:x=Qr (Qo a*Qo c-Qo b*Qo d))(k:y=Qr (Qo a*Qo d+Qo b*Qo c))(ha:EQ a b A)(hc:EQ c d C):EQ x y (R2.mul A C) :=
 ⟨h.trans (Z3 (Wh (Q4 (Xl ha.1) (Xl hc.1)) (Q4 (Xl ha.2) (Xl hc.2)))),k.trans (Z3 (Xz (Q4 (Xl ha.1) (Xl hc.2)) (Q4 (Xl ha.2) (Xl hc.1))))⟩
def Qdp(f:FuncId):K:={fn:=f,ext:=false,ins:=[iE2,iE2],outs:=[oE2],pre:=fun|[a,b,c,d]=>a<bP/\b<bP/\c<bP/\d<bP|_=>False,sem:=fun|[a,b,c,d]=>[Qr (Qo a+Qo c),Qr (Qo b+Qo d)]|_=>[] }
def Qi5(f:FuncId):K:={fn:=f,ext:=false,ins:=[iE2,iE2],outs:=[oE2],pre:=fun|[a,b,c,d]=>a<bP/\b<bP/\c<bP/\d<bP|_=>False,sem:=fun|[a,b,c,d]=>[Qr (Qo a-Qo c),Qr (Qo b-Qo d)]|_=>[] }
def Qbe(f:FuncId):K:={fn:=f,ext:=false,ins:=[iE2,iE2],outs:=[oE2],pre:=fun|[a,b,c,d]=>a<bP/\b<bP/\c<bP/\d<bP|_=>False,sem:=fun|[a,b,c,d]=>[Qr (Qo a*Qo c-Qo b*Qo d),Qr (Qo a*Qo d+Qo b*Qo c)]|_=>[] }
def B9(f:FuncId):K:={fn:=f,ext:=false,ins:=[iE2],outs:=[oN],pre:=fun|[a,b]=>a<bP/\b<bP|_=>False,sem:=fun|[a,b]=>[Qr (Qo a*Qo a+Qo b*Qo b)]|_=>[] }
def Qd6(f:FuncId):K:={fn:=f,ext:=false,ins:=[iE2,iN],outs:=[oE2],pre:=fun|[a,b,n]=>a<bP/\b<bP/\n<bP|_=>False,sem:=fun|[a,b,n]=>[Qr (Qo a*Qo n),Qr (Qo b*Qo n)]|_=>[] }
def Zfh:Qq:=(xw 0 [.v 0,.v 2] 196 Z7
(xw 0 [.v 1,.v 3] 436 Z7
(.ret [.v 196,.v 436])))
theorem Zd4(f1 f:FuncId)(e:Nat->Int)(hk:Q0 [.num,.num,.num,.num] [e 0,e 1,e 2,e 3])(hp:(Qdp f).pre [e 0,e 1,e 2,e 3]):Zfh.Xat [Qb1 f1] ⟨fun ys=>ys=(Qdp f).sem [e 0,e 1,e 2,e 3],[]⟩ e:=by
 obtain⟨u0,u1,u2,u3⟩:e 0<bP/\e 1<bP/\e 2<bP/\e 3<bP:=hp;obtain⟨h0,h1,h2,h3,_⟩:=hk;have q0:=Vl h0.1 u0;have q1:=Vl h1.1 u1;have q2:=Vl h2.1 u2;have q3:=Vl h3.1 u3;clear u0 h0 u1 h1 u2 h2 u3 h3;show Zfh.Xat _ ⟨fun ys=>ys=[Qr (Qo (e 0)+Qo (e 2)),Qr (Qo (e 1)+Qo (e 3))],[]⟩ e;refine⟨⟨Q6 q0,Q6 q2⟩,?_⟩;intro a196 k196;have q196:=Qfo (show e 196=Qr (Qo (e 0)+Qo (e 2))from a196) q0 q2;clear a196 k196;refine⟨⟨Q6 q1,Q6 q3⟩,?_⟩;intro a436 k436;have q436:=Qfo (show e 436=Qr (Qo (e 1)+Qo (e 3))from a436) q1 q3;clear a436 k436;show[e 196,e 436]=_;rw[q196,q436];all_goals rfl
def Zh4:Qq:=(xw 0 [.v 0,.v 2] 196 Z7
(xw 0 [.v 1,.v 3] 436 Z7
(.ret [.v 196,.v 436])))
theorem Zdz(f1 f:FuncId)(e:Nat->Int)(hk:Q0 [.num,.num,.num,.num] [e 0,e 1,e 2,e 3])(hp:(Qi5 f).pre [e 0,e 1,e 2,e 3]):Zh4.Xat [Qjd f1] ⟨fun ys=>ys=(Qi5 f).sem [e 0,e 1,e 2,e 3],[]⟩ e:=by
 obtain⟨u0,u1,u2,u3⟩:e 0<bP/\e 1<bP/\e 2<bP/\e 3<bP:=hp;obtain⟨h0,h1,h2,h3,_⟩:=hk;have q0:=Vl h0.1 u0;have q1:=Vl h1.1 u1;have q2:=Vl h2.1 u2;have q3:=Vl h3.1 u3;clear u0 h0 u1 h1 u2 h2 u3 h3;show Zh4.Xat _ ⟨fun ys=>ys=[Qr (Qo (e 0)-Qo (e 2)),Qr (Qo (e 1)-Qo (e 3))],[]⟩ e;refine⟨⟨Q6 q0,Q6 q2⟩,?_⟩;intro a196 k196;have q196:=Qwj (show e 196=Qr (Qo (e 0)-Qo (e 2))from a196) q0 q2;clear a196 k196;refine⟨⟨Q6 q1,Q6 q3⟩,?_⟩;intro a436 k436;have q436:=Qwj (show e 436=Qr (Qo (e 1)-Qo (e 3))from a436) q1 q3;clear a436 k436;show[e 196,e 436]=_;rw[q196,q436];all_goals rfl
theorem Zu0(a b c d:Int):(a+b)*(c+d)-a*c-b*d=a*d+b*c:=by grind
def Zhj:Qq:=(xw 0 [.v 0,.v 2] 196 Z7
(xw 0 [.v 1,.v 3] 436 Z7
(xw 1 [.v 0,.v 1] 868 Z7
(xw 1 [.v 2,.v 3] 1108 Z7
(xw 0 [.v 868,.v 1108] 1156 Z7
(xw 2 [.v 196,.v 436] 1396 Z7
(xw 2 [.v 1156,.v 196] 1540 Z7
(xw 2 [.v 1540,.v 436] 1636 Z7
(.ret [.v 1396,.v 1636])))))))))
theorem Zcl(f1 f2 f3 f:FuncId)(e:Nat->Int)(hk:Q0 [.num,.num,.num,.num] [e 0,e 1,e 2,e 3])(hp:(Qbe f).pre [e 0,e 1,e 2,e 3]):Zhj.Xat [Qay f1,Qb1 f2,Qjd f3] ⟨fun ys=>ys=(Qbe f).sem [e 0,e 1,e 2,e 3],[]⟩ e:=by
 obtain⟨u0,u1,u2,u3⟩:e 0<bP/\e 1<bP/\e 2<bP/\e 3<bP:=hp;obtain⟨h0,h1,h2,h3,_⟩:=hk;have q0:=Vl h0.1 u0;have q1:=Vl h1.1 u1;have q2:=Vl h2.1 u2;have q3:=Vl h3.1 u3;clear u0 h0 u1 h1 u2 h2 u3 h3;show Zhj.Xat _ ⟨fun ys=>ys=[Qr (Qo (e 0)*Qo (e 2)-Qo (e 1)*Qo (e 3)),Qr (Qo (e 0)*Qo (e 3)+Qo (e 1)*Qo (e 2))],[]⟩ e;refine⟨⟨Q6 q0,Q6 q2⟩,?_⟩;intro a196 k196;have q196:=Qdh (show e 196=Qr (Qo (e 0)*Qo (e 2))from a196) q0 q2;clear a196 k196;refine⟨⟨Q6 q1,Q6 q3⟩,?_⟩;intro a436 k436;have q436:=Qdh (show e 436=Qr (Qo (e 1)*Qo (e 3))from a436) q1 q3;clear a436 k436;refine⟨⟨Q6 q0,Q6 q1⟩,?_⟩;intro a868 k868;have q868:=Qfo (show e 868=Qr (Qo (e 0)+Qo (e 1))from a868) q0 q1;clear a868 k868;refine⟨⟨Q6 q2,Q6 q3⟩,?_⟩;intro a1108 k1108;have q1108:=Qfo (show e 1108=Qr (Qo (e 2)+Qo (e 3))from a1108) q2 q3;clear a1108 k1108;refine⟨⟨Q6 q868,Q6 q1108⟩,?_⟩;intro a1156 k1156;have q1156:=Qdh (show e 1156=Qr (Qo (e 868)*Qo (e 1108))from a1156) q868 q1108;clear a1156 k1156;refine⟨⟨Q6 q196,Q6 q436⟩,?_⟩;intro a1396 k1396;have q1396:=Qwj (show e 1396=Qr (Qo (e 196)-Qo (e 436))from a1396) q196 q436;clear a1396 k1396;refine⟨⟨Q6 q1156,Q6 q196⟩,?_⟩;intro a1540 k1540;have q1540:=Qwj (show e 1540=Qr (Qo (e 1156)-Qo (e 196))from a1540) q1156 q196;clear a1540 k1540;refine⟨⟨Q6 q1540,Q6 q436⟩,?_⟩;intro a1636 k1636;have q1636:=Qwj (show e 1636=Qr (Qo (e 1540)-Qo (e 436))from a1636) q1540 q436;clear a1636 k1636;show[e 1396,e 1636]=_;rw[q1396,q1636];rw[Zu0]
def Qzh:Qq:=(xw 0 [.v 0,.v 0] 194 Z7
(xw 0 [.v 1,.v 1] 434 Z7
(xw 1 [.v 194,.v 434] 482 Z7
(.ret [.v 482]))))
theorem Quu(f1 f2 f:FuncId)(e:Nat->Int)(hk:Q0 [.num,.num] [e 0,e 1])(hp:(B9 f).pre [e 0,e 1]):Qzh.Xat [Qay f1,Qb1 f2] ⟨fun ys=>ys=(B9 f).sem [e 0,e 1],[]⟩ e:=by
 obtain⟨u0,u1⟩:e 0<bP/\e 1<bP:=hp;obtain⟨h0,h1,_⟩:=hk;have q0:=Vl h0.1 u0;have q1:=Vl h1.1 u1;clear u0 h0 u1 h1;show Qzh.Xat _ ⟨fun ys=>ys=[Qr (Qo (e 0)*Qo (e 0)+Qo (e 1)*Qo (e 1))],[]⟩ e;refine⟨⟨Q6 q0,Q6 q0⟩,?_⟩;intro a194 k194;have q194:=Qdh (show e 194=Qr (Qo (e 0)*Qo (e 0))from a194) q0 q0;clear a194 k194;refine⟨⟨Q6 q1,Q6 q1⟩,?_⟩;intro a434 k434;have q434:=Qdh (show e 434=Qr (Qo (e 1)*Qo (e 1))from a434) q1 q1;clear a434 k434;refine⟨⟨Q6 q194,Q6 q434⟩,?_⟩;intro a482 k482;have q482:=Qfo (show e 482=Qr (Qo (e 194)+Qo (e 434))from a482) q194 q434;clear a482 k482;show[e 482]=_;rw[q482];all_goals rfl
def Qqw:Qq:=(xw 0 [.v 0,.v 2] 147 Z7
(xw 0 [.v 1,.v 2] 339 Z7
(.ret [.v 147,.v 339])))
theorem Qtt(f1 f:FuncId)(e:Nat->Int)(hk:Q0 [.num,.num,.num] [e 0,e 1,e 2])(hp:(Qd6 f).pre [e 0,e 1,e 2]):Qqw.Xat [Qay f1] ⟨fun ys=>ys=(Qd6 f).sem [e 0,e 1,e 2],[]⟩ e:=by
 obtain⟨u0,u1,u2⟩:e 0<bP/\e 1<bP/\e 2<bP:=hp;obtain⟨h0,h1,h2,_⟩:=hk;have q0:=Vl h0.1 u0;have q1:=Vl h1.1 u1;have q2:=Vl h2.1 u2;clear u0 h0 u1 h1 u2 h2;show Qqw.Xat _ ⟨fun ys=>ys=[Qr (Qo (e 0)*Qo (e 2)),Qr (Qo (e 1)*Qo (e 2))],[]⟩ e;refine⟨⟨Q6 q0,Q6 q2⟩,?_⟩;intro a147 k147;have q147:=Qdh (show e 147=Qr (Qo (e 0)*Qo (e 2))from a147) q0 q2;clear a147 k147;refine⟨⟨Q6 q1,Q6 q2⟩,?_⟩;intro a339 k339;have q339:=Qdh (show e 339=Qr (Qo (e 1)*Qo (e 2))from a339) q1 q2;clear a339 k339;show[e 147,e 339]=_;rw[q147,q339];all_goals rfl
def Fo.ls2(o:Fo):List L:=[.cst (.fn o.add []),.cst (.fn o.sub []),.cst (.fn o.mul []),.cst (.fn o.inv []),.num,.num,.num,.num]
abbrev ls6:List L:=[.num,.num,.num,.num,.num,.num]
abbrev Qby:List L:=[.num,.num,.num,.num,.bool]
def Yf(a b c d x y:Int):J E2:=⟨(Qo a,Qo b),(Qo c,Qo d),(Qo x,Qo y)⟩
def J.e2(P:J E2):List Int:=[Qr P.x.1,Qr P.x.2,Qr P.y.1,Qr P.y.2,Qr P.z.1,Qr P.z.2]
def Qh1(o:Fo)(f:FuncId):K:={fn:=f,ext:=false,ins:=[.agg o.ls2,.agg Qby],outs:=[.agg ls6],pre:=fun _=>True,sem:=fun|[u,v,_,_,a,b,c,d,z]=>if z=0 then[a,b,c,d,u,v]else[u,v,u,v,0,0]|_=>[] }
def Qd1(o:Fo)(f:FuncId):K:={fn:=f,ext:=false,ins:=[.agg o.ls2,.agg ls6],outs:=[.agg ls6],pre:=fun|[_,_,_,_,a,b,c,d,x,y]=>(a<bP/\b<bP)/\(c<bP/\d<bP)/\(x<bP/\y<bP)|_=>False,sem:=fun|[_,_,_,_,a,b,c,d,x,y]=>(Yj R2 (Yf a b c d x y)).e2|_=>[] }
def Qjv(o:Fo)(f:FuncId):K:={fn:=f,ext:=false,ins:=[.agg o.ls2,.agg ls6,.agg ls6],outs:=[.agg ls6],pre:=fun|[u,v,_,_,a,b,c,d,x,y,a',b',c',d',x',y']=>(u=Qr 1/\v=0)/\((a<bP/\b<bP)/\(c<bP/\d<bP)/\(x<bP/\y<bP))/\((a'<bP/\b'<bP)/\(c'<bP/\d'<bP)/\(x'<bP/\y'<bP))|_=>False,sem:=fun|[_,_,_,_,a,b,c,d,x,y,a',b',c',d',x',y']=>(Wo R2 (Yf a b c d x y) (Yf a' b' c' d' x' y')).e2|_=>[] }
def Zna:Qq:=(.split 8
(.ret [.v 0,.v 1,.v 0,.v 1,.n 0,.n 0])
(.ret [.v 4,.v 5,.v 6,.v 7,.v 0,.v 1]))
theorem Qwh(o:Fo)(f:FuncId)(e:Nat->Int):Zna.Xat [] ⟨fun ys=>ys=(Qh1 o f).sem [e 0,e 1,e 2,e 3,e 4,e 5,e 6,e 7,e 8],[]⟩ e:=by
 refine⟨fun h=>?_,fun h=>?_⟩
 ·show[e 0,e 1,e 0,e 1,0,0]=if e 8=0 then[e 4,e 5,e 6,e 7,e 0,e 1]else[e 0,e 1,e 0,e 1,0,0]
  rw[if_neg h]
 ·show[e 4,e 5,e 6,e 7,e 0,e 1]=if e 8=0 then[e 4,e 5,e 6,e 7,e 0,e 1]else[e 0,e 1,e 0,e 1,0,0]
  rw[if_pos h]
def Zat:Qq:=(xw 2 [.v 6,.v 7,.v 6,.v 7] 10 Yo
(xw 2 [.v 4,.v 5,.v 10,.v 11] 12 Yo
(xw 0 [.v 12,.v 13,.v 12,.v 13] 14 Yo
(xw 0 [.v 14,.v 15,.v 14,.v 15] 16 Yo
(xw 2 [.v 4,.v 5,.v 4,.v 5] 18 Yo
(xw 0 [.v 18,.v 19,.v 18,.v 19] 308 Yo
(xw 0 [.v 308,.v 309,.v 18,.v 19] 404 Yo
(xw 2 [.v 404,.v 405,.v 404,.v 405] 788 Yo
(xw 0 [.v 16,.v 17,.v 16,.v 17] 1028 Yo
(xw 1 [.v 788,.v 789,.v 1028,.v 1029] 1076 Yo
(xw 2 [.v 10,.v 11,.v 10,.v 11] 1220 Yo
(xw 0 [.v 1220,.v 1221,.v 1220,.v 1221] 1222 Yo
(xw 0 [.v 1222,.v 1223,.v 1222,.v 1223] 1224 Yo
(xw 0 [.v 1224,.v 1225,.v 1224,.v 1225] 1226 Yo
(xw 2 [.v 6,.v 7,.v 8,.v 9] 1228 Yo
(xw 1 [.v 16,.v 17,.v 1076,.v 1077] 1710 Yo
(xw 2 [.v 404,.v 405,.v 1710,.v 1711] 1758 Yo
(xw 1 [.v 1758,.v 1759,.v 1226,.v 1227] 1854 Yo
(xw 0 [.v 1228,.v 1229,.v 1228,.v 1229] 2094 Yo
(.ret [.v 1076,.v 1077,.v 1854,.v 1855,.v 2094,.v 2095]))))))))))))))))))))
theorem Qug(o:Fo)(f1 f2 f3 f:FuncId)(e:Nat->Int)(hk:Q0 [.num,.num,.num,.num,.num,.num,.num,.num,.num,.num] [e 0,e 1,e 2,e 3,e 4,e 5,e 6,e 7,e 8,e 9])(hp:(Qd1 o f).pre [e 0,e 1,e 2,e 3,e 4,e 5,e 6,e 7,e 8,e 9]):Zat.Xat [Qdp f1,Qi5 f2,Qbe f3] ⟨fun ys=>ys=(Qd1 o f).sem [e 0,e 1,e 2,e 3,e 4,e 5,e 6,e 7,e 8,e 9],[]⟩ e:=by
 obtain⟨⟨u4,u5⟩,⟨u6,u7⟩,u8,u9⟩:(e 4<bP/\e 5<bP)/\(e 6<bP/\e 7<bP)/\(e 8<bP/\e 9<bP):=hp;obtain⟨_,_,_,_,h4,h5,h6,h7,h8,h9,_⟩:=hk;have q5:=Yz h4.1 u4 h5.1 u5;have q7:=Yz h6.1 u6 h7.1 u7;have q9:=Yz h8.1 u8 h9.1 u9;clear u4 u5 u6 u7 u8 u9 h4 h5 h6 h7 h8 h9;show Zat.Xat _ ⟨fun ys=>ys=(Yj R2 (Yf (e 4) (e 5) (e 6) (e 7) (e 8) (e 9))).e2,[]⟩ e;refine⟨⟨EQ.l1 q7,EQ.l2 q7,EQ.l1 q7,EQ.l2 q7⟩,?_⟩;intro a10 k10;have q10:=(show e 10=Qr (Qo (e 6)*Qo (e 6)-Qo (e 7)*Qo (e 7))from a10)
 clear a10 k10;intro a11 k11;have q11:=Zr q10 (show e 11=Qr (Qo (e 6)*Qo (e 7)+Qo (e 7)*Qo (e 6))from a11) q7 q7;clear a11 k11;refine⟨⟨EQ.l1 q5,EQ.l2 q5,EQ.l1 q11,EQ.l2 q11⟩,?_⟩;intro a12 k12;have q12:=(show e 12=Qr (Qo (e 4)*Qo (e 10)-Qo (e 5)*Qo (e 11))from a12)
 clear a12 k12;intro a13 k13;have q13:=Zr q12 (show e 13=Qr (Qo (e 4)*Qo (e 11)+Qo (e 5)*Qo (e 10))from a13) q5 q11;clear a13 k13;refine⟨⟨EQ.l1 q13,EQ.l2 q13,EQ.l1 q13,EQ.l2 q13⟩,?_⟩;intro a14 k14;have q14:=(show e 14=Qr (Qo (e 12)+Qo (e 12))from a14)
 clear a14 k14;intro a15 k15;have q15:=Ux q14 (show e 15=Qr (Qo (e 13)+Qo (e 13))from a15) q13 q13;clear a15 k15;refine⟨⟨EQ.l1 q15,EQ.l2 q15,EQ.l1 q15,EQ.l2 q15⟩,?_⟩;intro a16 k16;have q16:=(show e 16=Qr (Qo (e 14)+Qo (e 14))from a16)
 clear a16 k16;intro a17 k17;have q17:=Ux q16 (show e 17=Qr (Qo (e 15)+Qo (e 15))from a17) q15 q15;clear a17 k17;refine⟨⟨EQ.l1 q5,EQ.l2 q5,EQ.l1 q5,EQ.l2 q5⟩,?_⟩;intro a18 k18;have q18:=(show e 18=Qr (Qo (e 4)*Qo (e 4)-Qo (e 5)*Qo (e 5))from a18)
 clear a18 k18;intro a19 k19;have q19:=Zr q18 (show e 19=Qr (Qo (e 4)*Qo (e 5)+Qo (e 5)*Qo (e 4))from a19) q5 q5;clear a19 k19;refine⟨⟨EQ.l1 q19,EQ.l2 q19,EQ.l1 q19,EQ.l2 q19⟩,?_⟩;intro a308 k308;have q308:=(show e 308=Qr (Qo (e 18)+Qo (e 18))from a308)
 clear a308 k308;intro a309 k309;have q309:=Ux q308 (show e 309=Qr (Qo (e 19)+Qo (e 19))from a309) q19 q19;clear a309 k309;refine⟨⟨EQ.l1 q309,EQ.l2 q309,EQ.l1 q19,EQ.l2 q19⟩,?_⟩;intro a404 k404;have q404:=(show e 404=Qr (Qo (e 308)+Qo (e 18))from a404)
 clear a404 k404;intro a405 k405;have q405:=Ux q404 (show e 405=Qr (Qo (e 309)+Qo (e 19))from a405) q309 q19;clear a405 k405;refine⟨⟨EQ.l1 q405,EQ.l2 q405,EQ.l1 q405,EQ.l2 q405⟩,?_⟩;intro a788 k788;have q788:=(show e 788=Qr (Qo (e 404)*Qo (e 404)-Qo (e 405)*Qo (e 405))from a788)
 clear a788 k788;intro a789 k789;have q789:=Zr q788 (show e 789=Qr (Qo (e 404)*Qo (e 405)+Qo (e 405)*Qo (e 404))from a789) q405 q405;clear a789 k789;refine⟨⟨EQ.l1 q17,EQ.l2 q17,EQ.l1 q17,EQ.l2 q17⟩,?_⟩;intro a1028 k1028;have q1028:=(show e 1028=Qr (Qo (e 16)+Qo (e 16))from a1028)
 clear a1028 k1028;intro a1029 k1029;have q1029:=Ux q1028 (show e 1029=Qr (Qo (e 17)+Qo (e 17))from a1029) q17 q17;clear a1029 k1029;refine⟨⟨EQ.l1 q789,EQ.l2 q789,EQ.l1 q1029,EQ.l2 q1029⟩,?_⟩;intro a1076 k1076;have q1076:=(show e 1076=Qr (Qo (e 788)-Qo (e 1028))from a1076)
 clear a1076 k1076;intro a1077 k1077;have q1077:=Qat q1076 (show e 1077=Qr (Qo (e 789)-Qo (e 1029))from a1077) q789 q1029;clear a1077 k1077;refine⟨⟨EQ.l1 q11,EQ.l2 q11,EQ.l1 q11,EQ.l2 q11⟩,?_⟩;intro a1220 k1220;have q1220:=(show e 1220=Qr (Qo (e 10)*Qo (e 10)-Qo (e 11)*Qo (e 11))from a1220)
 clear a1220 k1220;intro a1221 k1221;have q1221:=Zr q1220 (show e 1221=Qr (Qo (e 10)*Qo (e 11)+Qo (e 11)*Qo (e 10))from a1221) q11 q11;clear a1221 k1221;refine⟨⟨EQ.l1 q1221,EQ.l2 q1221,EQ.l1 q1221,EQ.l2 q1221⟩,?_⟩;intro a1222 k1222;have q1222:=(show e 1222=Qr (Qo (e 1220)+Qo (e 1220))from a1222)
 clear a1222 k1222;intro a1223 k1223;have q1223:=Ux q1222 (show e 1223=Qr (Qo (e 1221)+Qo (e 1221))from a1223) q1221 q1221;clear a1223 k1223;refine⟨⟨EQ.l1 q1223,EQ.l2 q1223,EQ.l1 q1223,EQ.l2 q1223⟩,?_⟩;intro a1224 k1224;have q1224:=(show e 1224=Qr (Qo (e 1222)+Qo (e 1222))from a1224)
 clear a1224 k1224;intro a1225 k1225;have q1225:=Ux q1224 (show e 1225=Qr (Qo (e 1223)+Qo (e 1223))from a1225) q1223 q1223;clear a1225 k1225;refine⟨⟨EQ.l1 q1225,EQ.l2 q1225,EQ.l1 q1225,EQ.l2 q1225⟩,?_⟩;intro a1226 k1226;have q1226:=(show e 1226=Qr (Qo (e 1224)+Qo (e 1224))from a1226)
 clear a1226 k1226;intro a1227 k1227;have q1227:=Ux q1226 (show e 1227=Qr (Qo (e 1225)+Qo (e 1225))from a1227) q1225 q1225;clear a1227 k1227;refine⟨⟨EQ.l1 q7,EQ.l2 q7,EQ.l1 q9,EQ.l2 q9⟩,?_⟩;intro a1228 k1228;have q1228:=(show e 1228=Qr (Qo (e 6)*Qo (e 8)-Qo (e 7)*Qo (e 9))from a1228)
 clear a1228 k1228;intro a1229 k1229;have q1229:=Zr q1228 (show e 1229=Qr (Qo (e 6)*Qo (e 9)+Qo (e 7)*Qo (e 8))from a1229) q7 q9;clear a1229 k1229;refine⟨⟨EQ.l1 q17,EQ.l2 q17,EQ.l1 q1077,EQ.l2 q1077⟩,?_⟩;intro a1710 k1710;have q1710:=(show e 1710=Qr (Qo (e 16)-Qo (e 1076))from a1710)
 clear a1710 k1710;intro a1711 k1711;have q1711:=Qat q1710 (show e 1711=Qr (Qo (e 17)-Qo (e 1077))from a1711) q17 q1077;clear a1711 k1711;refine⟨⟨EQ.l1 q405,EQ.l2 q405,EQ.l1 q1711,EQ.l2 q1711⟩,?_⟩;intro a1758 k1758;have q1758:=(show e 1758=Qr (Qo (e 404)*Qo (e 1710)-Qo (e 405)*Qo (e 1711))from a1758)
 clear a1758 k1758;intro a1759 k1759;have q1759:=Zr q1758 (show e 1759=Qr (Qo (e 404)*Qo (e 1711)+Qo (e 405)*Qo (e 1710))from a1759) q405 q1711;clear a1759 k1759;refine⟨⟨EQ.l1 q1759,EQ.l2 q1759,EQ.l1 q1227,EQ.l2 q1227⟩,?_⟩;intro a1854 k1854;have q1854:=(show e 1854=Qr (Qo (e 1758)-Qo (e 1226))from a1854)
 clear a1854 k1854;intro a1855 k1855;have q1855:=Qat q1854 (show e 1855=Qr (Qo (e 1759)-Qo (e 1227))from a1855) q1759 q1227;clear a1855 k1855;refine⟨⟨EQ.l1 q1229,EQ.l2 q1229,EQ.l1 q1229,EQ.l2 q1229⟩,?_⟩;intro a2094 k2094;have q2094:=(show e 2094=Qr (Qo (e 1228)+Qo (e 1228))from a2094)
 clear a2094 k2094;intro a2095 k2095;have q2095:=Ux q2094 (show e 2095=Qr (Qo (e 1229)+Qo (e 1229))from a2095) q1229 q1229;clear a2095 k2095;show[e 1076,e 1077,e 1854,e 1855,e 2094,e 2095]=_;rw[q1077.1,q1077.2,q1855.1,q1855.2,q2095.1,q2095.2];rfl
theorem Q_z{x y:Int}{Y:E2}(h:EQ x y Y)(k:x=0/\y=0):R2.isz Y=true:=Bz.2 ⟨z_E h.1 k.1,z_E h.2 k.2⟩
theorem Zf7{x y:Int}{Y:E2}(h:EQ x y Y)(k:¬(x=0/\y=0)):¬R2.isz Y=true:=fun hc=>k ⟨h.1.trans (Qbd.2 (Bz.1 hc).1),h.2.trans (Qbd.2 (Bz.1 hc).2)⟩
theorem Zag{a b c d x y:Int}{A C X:E2}(h:EQ a b A)(k:EQ c d C)(l:EQ x y X):(⟨A,C,X⟩:J E2).e2=[a,b,c,d,x,y]:=by
 show[Qr A.1,Qr A.2,Qr C.1,Qr C.2,Qr X.1,Qr X.2]=_;rw[<- h.1,<- h.2,<- k.1,<- k.2,<- l.1,<- l.2]
def Zo8:Qq:=(.l 16 .bit (.eqs [((.m 8 0),(.n 0)),((.m 8 1),(.n 0)),((.m 8 2),(.n 0)),((.m 8 3),(.n 0)),((.m 8 4),(.n 0)),((.m 8 5),(.n 0)),((.m 9 0),(.n 0)),((.m 9 1),(.n 0)),((.m 9 2),(.n 0)),((.m 9 3),(.n 0)),((.m 9 4),(.n 0)),((.m 9 5),(.n 0))])
(.split 16
(.ret [.v 10,.v 11,.v 12,.v 13,.v 14,.v 15])
(.l 17 .bit (.eqs [((.m 14 0),(.n 0)),((.m 14 1),(.n 0)),((.m 14 2),(.n 0)),((.m 14 3),(.n 0)),((.m 14 4),(.n 0)),((.m 14 5),(.n 0)),((.m 15 0),(.n 0)),((.m 15 1),(.n 0)),((.m 15 2),(.n 0)),((.m 15 3),(.n 0)),((.m 15 4),(.n 0)),((.m 15 5),(.n 0))])
(.split 17
(.ret [.v 4,.v 5,.v 6,.v 7,.v 8,.v 9])
(xw 2 [.v 8,.v 9,.v 8,.v 9] 306 Yo
(xw 2 [.v 14,.v 15,.v 14,.v 15] 642 Yo
(xw 2 [.v 4,.v 5,.v 642,.v 643] 1122 Yo
(xw 2 [.v 10,.v 11,.v 306,.v 307] 1410 Yo
(xw 2 [.v 642,.v 643,.v 14,.v 15] 2082 Yo
(xw 2 [.v 6,.v 7,.v 2082,.v 2083] 2130 Yo
(xw 2 [.v 306,.v 307,.v 8,.v 9] 2610 Yo
(xw 2 [.v 12,.v 13,.v 2610,.v 2611] 2658 Yo
(xw 1 [.v 1410,.v 1411,.v 1122,.v 1123] 3090 Yo
(xw 1 [.v 2658,.v 2659,.v 2130,.v 2131] 3330 Yo
(.l 3570 .bit (.eqs [((.m 3090 0),(.n 0)),((.m 3090 1),(.n 0)),((.m 3090 2),(.n 0)),((.m 3090 3),(.n 0)),((.m 3090 4),(.n 0)),((.m 3090 5),(.n 0)),((.m 3091 0),(.n 0)),((.m 3091 1),(.n 0)),((.m 3091 2),(.n 0)),((.m 3091 3),(.n 0)),((.m 3091 4),(.n 0)),((.m 3091 5),(.n 0))])
(.split 3570
(.l 3571 .bit (.eqs [((.m 3330 0),(.n 0)),((.m 3330 1),(.n 0)),((.m 3330 2),(.n 0)),((.m 3330 3),(.n 0)),((.m 3330 4),(.n 0)),((.m 3330 5),(.n 0)),((.m 3331 0),(.n 0)),((.m 3331 1),(.n 0)),((.m 3331 2),(.n 0)),((.m 3331 3),(.n 0)),((.m 3331 4),(.n 0)),((.m 3331 5),(.n 0))])
(.split 3571
(xw 3 [.v 0,.v 1,.v 2,.v 3,.v 4,.v 5,.v 6,.v 7,.v 8,.v 9] 3572 qda
(.ret [.v 3572,.v 3573,.v 3574,.v 3575,.v 3576,.v 3577]))
(.ret [.v 0,.v 1,.v 0,.v 1,.n 0,.n 0])))
(xw 2 [.v 3090,.v 3091,.v 3090,.v 3091] 3571 Yo
(xw 2 [.v 3571,.v 3572,.v 3090,.v 3091] 3573 Yo
(xw 2 [.v 1122,.v 1123,.v 3571,.v 3572] 3575 Yo
(xw 2 [.v 3330,.v 3331,.v 3330,.v 3331] 3961 Yo
(xw 1 [.v 3961,.v 3962,.v 3573,.v 3574] 4057 Yo
(xw 0 [.v 3575,.v 3576,.v 3575,.v 3576] 4297 Yo
(xw 1 [.v 4057,.v 4058,.v 4297,.v 4298] 4345 Yo
(xw 1 [.v 3575,.v 3576,.v 4345,.v 4346] 4969 Yo
(xw 2 [.v 3330,.v 3331,.v 4969,.v 4970] 5017 Yo
(xw 2 [.v 2130,.v 2131,.v 3573,.v 3574] 5257 Yo
(xw 1 [.v 5017,.v 5018,.v 5257,.v 5258] 5305 Yo
(xw 2 [.v 8,.v 9,.v 14,.v 15] 5785 Yo
(xw 2 [.v 3090,.v 3091,.v 5785,.v 5786] 5833 Yo
(.ret [.v 4345,.v 4346,.v 5305,.v 5306,.v 5833,.v 5834]))))))))))))))))))))))))))))))
theorem Zfj(o:Fo)(f1 f2 f3 f4 f:FuncId)(e:Nat->Int)(hk:Q0 [.num,.num,.num,.num,.num,.num,.num,.num,.num,.num,.num,.num,.num,.num,.num,.num] [e 0,e 1,e 2,e 3,e 4,e 5,e 6,e 7,e 8,e 9,e 10,e 11,e 12,e 13,e 14,e 15])(hp:(Qjv o f).pre [e 0,e 1,e 2,e 3,e 4,e 5,e 6,e 7,e 8,e 9,e 10,e 11,e 12,e 13,e 14,e 15]):Zo8.Xat [Qdp f1,Qi5 f2,Qbe f3,Qd1 o f4] ⟨fun ys=>ys=(Qjv o f).sem [e 0,e 1,e 2,e 3,e 4,e 5,e 6,e 7,e 8,e 9,e 10,e 11,e 12,e 13,e 14,e 15],[]⟩ e:=by
 obtain⟨⟨q0,q1⟩,⟨⟨u4,u5⟩,⟨u6,u7⟩,u8,u9⟩,⟨u10,u11⟩,⟨u12,u13⟩,u14,u15⟩:(e 0=Qr 1/\e 1=0)/\((e 4<bP/\e 5<bP)/\(e 6<bP/\e 7<bP)/\(e 8<bP/\e 9<bP))/\((e 10<bP/\e 11<bP)/\(e 12<bP/\e 13<bP)/\(e 14<bP/\e 15<bP)):=hp;obtain⟨_,_,_,_,h4,h5,h6,h7,h8,h9,h10,h11,h12,h13,h14,h15,_⟩:=hk;have k8:=h8;have k9:=h9;have k14:=h14;have k15:=h15;have hd:(Yj R2 (Yf (e 4) (e 5) (e 6) (e 7) (e 8) (e 9))).e2=(Yj R2 ⟨(Qo (e 4),Qo (e 5)),(Qo (e 6),Qo (e 7)),(Qo (e 8),Qo (e 9))⟩).e2:=rfl;have q5:=Yz h4.1 u4 h5.1 u5;have q7:=Yz h6.1 u6 h7.1 u7;have q9:=Yz h8.1 u8 h9.1 u9;have q11:=Yz h10.1 u10 h11.1 u11;have q13:=Yz h12.1 u12 h13.1 u13;have q15:=Yz h14.1 u14 h15.1 u15;clear h4 h5 h6 h7 h8 h9 h10 h11 h12 h13 h14 h15;show Zo8.Xat _ ⟨fun ys=>ys=(Wo R2 ⟨(Qo (e 4),Qo (e 5)),(Qo (e 6),Qo (e 7)),(Qo (e 8),Qo (e 9))⟩ ⟨(Qo (e 10),Qo (e 11)),(Qo (e 12),Qo (e 13)),(Qo (e 14),Qo (e 15))⟩).e2,[]⟩ e;generalize (Qo (e 4),Qo (e 5))=X at *
 generalize (Qo (e 6),Qo (e 7))=Y at *
 generalize (Qo (e 8),Qo (e 9))=Z at *
 generalize (Qo (e 10),Qo (e 11))=X' at *
 generalize (Qo (e 12),Qo (e 13))=Y' at *
 generalize (Qo (e 14),Qo (e 15))=Z' at *
 intro a16 k16;have b16:=Qaq a16 k8 k9;clear a16 k16;refine⟨fun h=>?_,fun h=>?_⟩
 ·have c16:=h;have z1:=Q_z q9 (Xn b16 c16);show[e 10,e 11,e 12,e 13,e 14,e 15]=_;rw[Zav z1,Zag q11 q13 q15]
 ·have c16:=h;have z1:=Zf7 q9 (Wc b16 c16);intro a17 k17;have b17:=Qaq a17 k14 k15;clear a17 k17;refine⟨fun h=>?_,fun h=>?_⟩
  ·have c17:=h;have z2:=Q_z q15 (Xn b17 c17);show[e 4,e 5,e 6,e 7,e 8,e 9]=_;rw[Zas z1 z2,Zag q5 q7 q9]
  ·have c17:=h;have z2:=Zf7 q15 (Wc b17 c17);refine⟨⟨EQ.l1 q9,EQ.l2 q9,EQ.l1 q9,EQ.l2 q9⟩,?_⟩;intro a306 k306;have q306:=(show e 306=Qr (Qo (e 8)*Qo (e 8)-Qo (e 9)*Qo (e 9))from a306)
   clear a306 k306;intro a307 k307;have q307:=Zr q306 (show e 307=Qr (Qo (e 8)*Qo (e 9)+Qo (e 9)*Qo (e 8))from a307) q9 q9;clear a307 k307;refine⟨⟨EQ.l1 q15,EQ.l2 q15,EQ.l1 q15,EQ.l2 q15⟩,?_⟩;intro a642 k642;have q642:=(show e 642=Qr (Qo (e 14)*Qo (e 14)-Qo (e 15)*Qo (e 15))from a642)
   clear a642 k642;intro a643 k643;have q643:=Zr q642 (show e 643=Qr (Qo (e 14)*Qo (e 15)+Qo (e 15)*Qo (e 14))from a643) q15 q15;clear a643 k643;refine⟨⟨EQ.l1 q5,EQ.l2 q5,EQ.l1 q643,EQ.l2 q643⟩,?_⟩;intro a1122 k1122;have q1122:=(show e 1122=Qr (Qo (e 4)*Qo (e 642)-Qo (e 5)*Qo (e 643))from a1122)
   clear a1122 k1122;intro a1123 k1123;have q1123:=Zr q1122 (show e 1123=Qr (Qo (e 4)*Qo (e 643)+Qo (e 5)*Qo (e 642))from a1123) q5 q643;clear a1123 k1123;refine⟨⟨EQ.l1 q11,EQ.l2 q11,EQ.l1 q307,EQ.l2 q307⟩,?_⟩;intro a1410 k1410;have q1410:=(show e 1410=Qr (Qo (e 10)*Qo (e 306)-Qo (e 11)*Qo (e 307))from a1410)
   clear a1410 k1410;intro a1411 k1411;have q1411:=Zr q1410 (show e 1411=Qr (Qo (e 10)*Qo (e 307)+Qo (e 11)*Qo (e 306))from a1411) q11 q307;clear a1411 k1411;refine⟨⟨EQ.l1 q643,EQ.l2 q643,EQ.l1 q15,EQ.l2 q15⟩,?_⟩;intro a2082 k2082;have q2082:=(show e 2082=Qr (Qo (e 642)*Qo (e 14)-Qo (e 643)*Qo (e 15))from a2082)
   clear a2082 k2082;intro a2083 k2083;have q2083:=Zr q2082 (show e 2083=Qr (Qo (e 642)*Qo (e 15)+Qo (e 643)*Qo (e 14))from a2083) q643 q15;clear a2083 k2083;refine⟨⟨EQ.l1 q7,EQ.l2 q7,EQ.l1 q2083,EQ.l2 q2083⟩,?_⟩;intro a2130 k2130;have q2130:=(show e 2130=Qr (Qo (e 6)*Qo (e 2082)-Qo (e 7)*Qo (e 2083))from a2130)
   clear a2130 k2130;intro a2131 k2131;have q2131:=Zr q2130 (show e 2131=Qr (Qo (e 6)*Qo (e 2083)+Qo (e 7)*Qo (e 2082))from a2131) q7 q2083;clear a2131 k2131;refine⟨⟨EQ.l1 q307,EQ.l2 q307,EQ.l1 q9,EQ.l2 q9⟩,?_⟩;intro a2610 k2610;have q2610:=(show e 2610=Qr (Qo (e 306)*Qo (e 8)-Qo (e 307)*Qo (e 9))from a2610)
   clear a2610 k2610;intro a2611 k2611;have q2611:=Zr q2610 (show e 2611=Qr (Qo (e 306)*Qo (e 9)+Qo (e 307)*Qo (e 8))from a2611) q307 q9;clear a2611 k2611;refine⟨⟨EQ.l1 q13,EQ.l2 q13,EQ.l1 q2611,EQ.l2 q2611⟩,?_⟩;intro a2658 k2658;have q2658:=(show e 2658=Qr (Qo (e 12)*Qo (e 2610)-Qo (e 13)*Qo (e 2611))from a2658)
   clear a2658 k2658;intro a2659 k2659;have q2659:=Zr q2658 (show e 2659=Qr (Qo (e 12)*Qo (e 2611)+Qo (e 13)*Qo (e 2610))from a2659) q13 q2611;clear a2659 k2659;refine⟨⟨EQ.l1 q1411,EQ.l2 q1411,EQ.l1 q1123,EQ.l2 q1123⟩,?_⟩;intro a3090 k3090;have q3090:=(show e 3090=Qr (Qo (e 1410)-Qo (e 1122))from a3090)
   clear a3090;intro a3091 k3091;have q3091:=Qat q3090 (show e 3091=Qr (Qo (e 1411)-Qo (e 1123))from a3091) q1411 q1123;clear a3091;refine⟨⟨EQ.l1 q2659,EQ.l2 q2659,EQ.l1 q2131,EQ.l2 q2131⟩,?_⟩;intro a3330 k3330;have q3330:=(show e 3330=Qr (Qo (e 2658)-Qo (e 2130))from a3330)
   clear a3330;intro a3331 k3331;have q3331:=Qat q3330 (show e 3331=Qr (Qo (e 2659)-Qo (e 2131))from a3331) q2659 q2131;clear a3331;intro a3570 k3570;have b3570:=Qaq a3570 k3090 k3091;clear a3570 k3570;refine⟨fun h=>?_,fun h=>?_⟩
   ·have c3570:=h;have z3:=Q_z q3091 (Xn b3570 c3570);intro a3571 k3571;have b3571:=Qaq a3571 k3330 k3331;clear a3571 k3571;refine⟨fun h=>?_,fun h=>?_⟩
    ·have c3571:=h;have z4:=Q_z q3331 (Xn b3571 c3571);refine⟨⟨⟨u4,u5⟩,⟨u6,u7⟩,u8,u9⟩,?_⟩;intro a3572 k3572;have q3572:=(show e 3572=((Yj R2 (Yf (e 4) (e 5) (e 6) (e 7) (e 8) (e 9))).e2).getD 0 0 from a3572)
     clear a3572 k3572;intro a3573 k3573;have q3573:=(show e 3573=((Yj R2 (Yf (e 4) (e 5) (e 6) (e 7) (e 8) (e 9))).e2).getD 1 0 from a3573)
     clear a3573 k3573;intro a3574 k3574;have q3574:=(show e 3574=((Yj R2 (Yf (e 4) (e 5) (e 6) (e 7) (e 8) (e 9))).e2).getD 2 0 from a3574)
     clear a3574 k3574;intro a3575 k3575;have q3575:=(show e 3575=((Yj R2 (Yf (e 4) (e 5) (e 6) (e 7) (e 8) (e 9))).e2).getD 3 0 from a3575)
     clear a3575 k3575;intro a3576 k3576;have q3576:=(show e 3576=((Yj R2 (Yf (e 4) (e 5) (e 6) (e 7) (e 8) (e 9))).e2).getD 4 0 from a3576)
     clear a3576 k3576;intro a3577 k3577;have q3577:=(show e 3577=((Yj R2 (Yf (e 4) (e 5) (e 6) (e 7) (e 8) (e 9))).e2).getD 5 0 from a3577)
     clear a3577 k3577;show[e 3572,e 3573,e 3574,e 3575,e 3576,e 3577]=_;rw[Qth z1 z2 z3 z4,<- hd,q3572,q3573,q3574,q3575,q3576,q3577];rfl
    ·have c3571:=h;have z4:=Zf7 q3331 (Wc b3571 c3571);show[e 0,e 1,e 0,e 1,0,0]=_;rw[Qsa z1 z2 z3 z4,q0,q1];show _=[Qr 1,Qr 0,Qr 1,Qr 0,Qr 0,Qr 0]
     rw[Qmo]
   ·have c3570:=h;have z3:=Zf7 q3091 (Wc b3570 c3570);refine⟨⟨EQ.l1 q3091,EQ.l2 q3091,EQ.l1 q3091,EQ.l2 q3091⟩,?_⟩;intro a3571 k3571;have q3571:=(show e 3571=Qr (Qo (e 3090)*Qo (e 3090)-Qo (e 3091)*Qo (e 3091))from a3571)
    clear a3571 k3571;intro a3572 k3572;have q3572:=Zr q3571 (show e 3572=Qr (Qo (e 3090)*Qo (e 3091)+Qo (e 3091)*Qo (e 3090))from a3572) q3091 q3091;clear a3572 k3572;refine⟨⟨EQ.l1 q3572,EQ.l2 q3572,EQ.l1 q3091,EQ.l2 q3091⟩,?_⟩;intro a3573 k3573;have q3573:=(show e 3573=Qr (Qo (e 3571)*Qo (e 3090)-Qo (e 3572)*Qo (e 3091))from a3573)
    clear a3573 k3573;intro a3574 k3574;have q3574:=Zr q3573 (show e 3574=Qr (Qo (e 3571)*Qo (e 3091)+Qo (e 3572)*Qo (e 3090))from a3574) q3572 q3091;clear a3574 k3574;refine⟨⟨EQ.l1 q1123,EQ.l2 q1123,EQ.l1 q3572,EQ.l2 q3572⟩,?_⟩;intro a3575 k3575;have q3575:=(show e 3575=Qr (Qo (e 1122)*Qo (e 3571)-Qo (e 1123)*Qo (e 3572))from a3575)
    clear a3575 k3575;intro a3576 k3576;have q3576:=Zr q3575 (show e 3576=Qr (Qo (e 1122)*Qo (e 3572)+Qo (e 1123)*Qo (e 3571))from a3576) q1123 q3572;clear a3576 k3576;refine⟨⟨EQ.l1 q3331,EQ.l2 q3331,EQ.l1 q3331,EQ.l2 q3331⟩,?_⟩;intro a3961 k3961;have q3961:=(show e 3961=Qr (Qo (e 3330)*Qo (e 3330)-Qo (e 3331)*Qo (e 3331))from a3961)
    clear a3961 k3961;intro a3962 k3962;have q3962:=Zr q3961 (show e 3962=Qr (Qo (e 3330)*Qo (e 3331)+Qo (e 3331)*Qo (e 3330))from a3962) q3331 q3331;clear a3962 k3962;refine⟨⟨EQ.l1 q3962,EQ.l2 q3962,EQ.l1 q3574,EQ.l2 q3574⟩,?_⟩;intro a4057 k4057;have q4057:=(show e 4057=Qr (Qo (e 3961)-Qo (e 3573))from a4057)
    clear a4057 k4057;intro a4058 k4058;have q4058:=Qat q4057 (show e 4058=Qr (Qo (e 3962)-Qo (e 3574))from a4058) q3962 q3574;clear a4058 k4058;refine⟨⟨EQ.l1 q3576,EQ.l2 q3576,EQ.l1 q3576,EQ.l2 q3576⟩,?_⟩;intro a4297 k4297;have q4297:=(show e 4297=Qr (Qo (e 3575)+Qo (e 3575))from a4297)
    clear a4297 k4297;intro a4298 k4298;have q4298:=Ux q4297 (show e 4298=Qr (Qo (e 3576)+Qo (e 3576))from a4298) q3576 q3576;clear a4298 k4298;refine⟨⟨EQ.l1 q4058,EQ.l2 q4058,EQ.l1 q4298,EQ.l2 q4298⟩,?_⟩;intro a4345 k4345;have q4345:=(show e 4345=Qr (Qo (e 4057)-Qo (e 4297))from a4345)
    clear a4345 k4345;intro a4346 k4346;have q4346:=Qat q4345 (show e 4346=Qr (Qo (e 4058)-Qo (e 4298))from a4346) q4058 q4298;clear a4346 k4346;refine⟨⟨EQ.l1 q3576,EQ.l2 q3576,EQ.l1 q4346,EQ.l2 q4346⟩,?_⟩;intro a4969 k4969;have q4969:=(show e 4969=Qr (Qo (e 3575)-Qo (e 4345))from a4969)
    clear a4969 k4969;intro a4970 k4970;have q4970:=Qat q4969 (show e 4970=Qr (Qo (e 3576)-Qo (e 4346))from a4970) q3576 q4346;clear a4970 k4970;refine⟨⟨EQ.l1 q3331,EQ.l2 q3331,EQ.l1 q4970,EQ.l2 q4970⟩,?_⟩;intro a5017 k5017;have q5017:=(show e 5017=Qr (Qo (e 3330)*Qo (e 4969)-Qo (e 3331)*Qo (e 4970))from a5017)
    clear a5017 k5017;intro a5018 k5018;have q5018:=Zr q5017 (show e 5018=Qr (Qo (e 3330)*Qo (e 4970)+Qo (e 3331)*Qo (e 4969))from a5018) q3331 q4970;clear a5018 k5018;refine⟨⟨EQ.l1 q2131,EQ.l2 q2131,EQ.l1 q3574,EQ.l2 q3574⟩,?_⟩;intro a5257 k5257;have q5257:=(show e 5257=Qr (Qo (e 2130)*Qo (e 3573)-Qo (e 2131)*Qo (e 3574))from a5257)
    clear a5257 k5257;intro a5258 k5258;have q5258:=Zr q5257 (show e 5258=Qr (Qo (e 2130)*Qo (e 3574)+Qo (e 2131)*Qo (e 3573))from a5258) q2131 q3574;clear a5258 k5258;refine⟨⟨EQ.l1 q5018,EQ.l2 q5018,EQ.l1 q5258,EQ.l2 q5258⟩,?_⟩;intro a5305 k5305;have q5305:=(show e 5305=Qr (Qo (e 5017)-Qo (e 5257))from a5305)
    clear a5305 k5305;intro a5306 k5306;have q5306:=Qat q5305 (show e 5306=Qr (Qo (e 5018)-Qo (e 5258))from a5306) q5018 q5258;clear a5306 k5306;refine⟨⟨EQ.l1 q9,EQ.l2 q9,EQ.l1 q15,EQ.l2 q15⟩,?_⟩;intro a5785 k5785;have q5785:=(show e 5785=Qr (Qo (e 8)*Qo (e 14)-Qo (e 9)*Qo (e 15))from a5785)
    clear a5785 k5785;intro a5786 k5786;have q5786:=Zr q5785 (show e 5786=Qr (Qo (e 8)*Qo (e 15)+Qo (e 9)*Qo (e 14))from a5786) q9 q15;clear a5786 k5786;refine⟨⟨EQ.l1 q3091,EQ.l2 q3091,EQ.l1 q5786,EQ.l2 q5786⟩,?_⟩;intro a5833 k5833;have q5833:=(show e 5833=Qr (Qo (e 3090)*Qo (e 5785)-Qo (e 3091)*Qo (e 5786))from a5833)
    clear a5833 k5833;intro a5834 k5834;have q5834:=Zr q5833 (show e 5834=Qr (Qo (e 3090)*Qo (e 5786)+Qo (e 3091)*Qo (e 5785))from a5834) q3091 q5786;clear a5834 k5834;show[e 4345,e 4346,e 5305,e 5306,e 5833,e 5834]=_;rw[Qqv z1 z2 z3,q4346.1,q4346.2,q5306.1,q5306.2,q5834.1,q5834.2];rfl
def Qib(f:FuncId):K:={fn:=f,ext:=false,ins:=[iE2],outs:=[oE2],pre:=fun|[_,b]=>b<bP|_=>False,sem:=fun|[a,b]=>[a,Qr (-Qo b)]|_=>[] }
def Qo0(f:FuncId):K:={fn:=f,ext:=false,ins:=[iE2],outs:=[oE2],pre:=fun|[a,b]=>a<bP/\b<bP|_=>False,sem:=fun|[a,b]=>[Qr (Zk (Qo a,Qo b)).1,Qr (Zk (Qo a,Qo b)).2]|_=>[] }
theorem Zsx{v a A:Int}(h:v=Qr (-Qo a))(ha:a=Qr A):v=Qr (-A):=h.trans (Z3 (Ua (Xl ha)))
def Qye:Qq:=(xw 0 [.v 1] 194 Z7
(.ret [.v 0,.v 194]))
theorem Qvv(f1 f:FuncId)(e:Nat->Int)(hk:Q0 [.num,.num] [e 0,e 1])(hp:(Qib f).pre [e 0,e 1]):Qye.Xat [Qgy f1] ⟨fun ys=>ys=(Qib f).sem [e 0,e 1],[]⟩ e:=by
 have u1:e 1<bP:=hp;show Qye.Xat _ ⟨fun ys=>ys=[e 0,Qr (-Qo (e 1))],[]⟩ e;refine⟨u1,?_⟩;intro a194 k194;have q194:=(show e 194=Qr (-Qo (e 1))from a194)
 clear a194 k194;show[e 0,e 194]=_;rw[q194]
def Zkz:Qq:=(xw 1 [.v 0,.v 1] 50 Yo
(xw 3 [.v 0,.v 1] 146 Z7
(xw 2 [.v 146] 194 Z7
(xw 0 [.v 50,.v 51,.v 194] 242 Yo
(.ret [.v 242,.v 243])))))
theorem Zcr(f1 f2 f3 f4 f:FuncId)(e:Nat->Int)(hk:Q0 [.num,.num] [e 0,e 1])(hp:(Qo0 f).pre [e 0,e 1]):Zkz.Xat [Qd6 f1,Qib f2,Qg8 f3,B9 f4] ⟨fun ys=>ys=(Qo0 f).sem [e 0,e 1],[]⟩ e:=by
 obtain⟨u0,u1⟩:e 0<bP/\e 1<bP:=hp;obtain⟨h0,h1,_⟩:=hk;have q0:=Vl h0.1 u0;have q1:=Vl h1.1 u1;have hnm:∀x y n:Int,-y*n=-(y*n):=fun x y n=>Int.neg_mul y n
 show Zkz.Xat _ ⟨fun ys=>ys=[Qr (Zk (Qo (e 0),Qo (e 1))).1,Qr (Zk (Qo (e 0),Qo (e 1))).2],[]⟩ e;refine⟨u1,?_⟩;intro a50 k50;have q50:=(show e 50=Qr (Qo (e 0))from(show e 50=e 0 from a50).trans q0)
 clear a50 k50;intro a51 k51;have q51:=Zsx (show e 51=Qr (-Qo (e 1))from a51) q1;clear a51 k51;refine⟨⟨u0,u1⟩,?_⟩;intro a146 k146;have q146:=(show e 146=Qr (Qo (e 0)*Qo (e 0)+Qo (e 1)*Qo (e 1))from a146)
 clear a146 k146;refine⟨Q6 q146,?_⟩;intro a194 k194;have q194:=Zvc (show e 194=Qr (Qo (e 146)^(bP-2).toNat)from a194) q146;clear a194 k194;refine⟨⟨Q6 q50,Q6 q51,Q6 q194⟩,?_⟩;intro a242 k242;have q242:=Qdh (show e 242=Qr (Qo (e 50)*Qo (e 194))from a242) q50 q194;clear a242 k242;intro a243 k243;have q243:=Qdh (show e 243=Qr (Qo (e 51)*Qo (e 194))from a243) q51 q194;clear a243 k243;show[e 242,e 243]=_;rw[q242,q243,Int.neg_mul];rfl
theorem Zsf{x y a b:Int}{A:E2}(h:x=Qr (Zk (Qo a,Qo b)).1)(k:y=Qr (Zk (Qo a,Qo b)).2)(ha:EQ a b A):EQ x y (Zk A):=by
 have hn:nrm (Qo a) (Qo b)%bP=nrm A.1 A.2%bP:=U8 (Xz (Q4 (Xl ha.1) (Xl ha.1)) (Q4 (Xl ha.2) (Xl ha.2))) _;exact⟨h.trans (Z3 (Q4 (Xl ha.1) hn)),k.trans (Z3 (Ua (Q4 (Xl ha.2) hn)))⟩
def Yi(P:J E2):List Int:=if P.z.1%bP=0/\P.z.2%bP=0 then[0,0,0,0,1]else
 let i:=Zk P.z
 let s:=R2.mul i i
 let x:=R2.mul P.x s
 let y:=R2.mul P.y (R2.mul s i)
 [Qr x.1,Qr x.2,Qr y.1,Qr y.2,0]
theorem Zni{P:J E2}(h:R2.isz P.z=true):Yi P=[0,0,0,0,1]:=if_pos (Bz.1 h)
theorem Zmw{P:J E2}(h:¬R2.isz P.z=true):Yi P=[Qr (R2.mul P.x (R2.mul (Zk P.z) (Zk P.z))).1,Qr (R2.mul P.x (R2.mul (Zk P.z) (Zk P.z))).2,Qr (R2.mul P.y (R2.mul (R2.mul (Zk P.z) (Zk P.z)) (Zk P.z))).1,Qr (R2.mul P.y (R2.mul (R2.mul (Zk P.z) (Zk P.z)) (Zk P.z))).2,0]:=if_neg (fun hc=>h (Bz.2 hc))
def Qew(o:Fo)(f:FuncId):K:={fn:=f,ext:=false,ins:=[.agg o.ls2,.agg ls6],outs:=[.agg Qby],pre:=fun|[_,_,_,_,a,b,c,d,x,y]=>(a<bP/\b<bP)/\(c<bP/\d<bP)/\(x<bP/\y<bP)|_=>False,sem:=fun|[_,_,_,_,a,b,c,d,x,y]=>Yi (Yf a b c d x y)|_=>[] }
def Qy6:Qq:=(.l 10 .bit (.eqs [((.m 8 0),(.n 0)),((.m 8 1),(.n 0)),((.m 8 2),(.n 0)),((.m 8 3),(.n 0)),((.m 8 4),(.n 0)),((.m 8 5),(.n 0)),((.m 9 0),(.n 0)),((.m 9 1),(.n 0)),((.m 9 2),(.n 0)),((.m 9 3),(.n 0)),((.m 9 4),(.n 0)),((.m 9 5),(.n 0))])
(.split 10
(.ret [.n 0,.n 0,.n 0,.n 0,.n 1])
(xw 1 [.v 8,.v 9] 11 Yo
(xw 0 [.v 11,.v 12,.v 11,.v 12] 13 Yo
(xw 0 [.v 4,.v 5,.v 13,.v 14] 255 Yo
(xw 0 [.v 13,.v 14,.v 11,.v 12] 687 Yo
(xw 0 [.v 6,.v 7,.v 687,.v 688] 735 Yo
(.ret [.v 255,.v 256,.v 735,.v 736,.n 0]))))))))
theorem Qwx(o:Fo)(f1 f2 f:FuncId)(e:Nat->Int)(hk:Q0 [.num,.num,.num,.num,.num,.num,.num,.num,.num,.num] [e 0,e 1,e 2,e 3,e 4,e 5,e 6,e 7,e 8,e 9])(hp:(Qew o f).pre [e 0,e 1,e 2,e 3,e 4,e 5,e 6,e 7,e 8,e 9]):Qy6.Xat [Qbe f1,Qo0 f2] ⟨fun ys=>ys=(Qew o f).sem [e 0,e 1,e 2,e 3,e 4,e 5,e 6,e 7,e 8,e 9],[]⟩ e:=by
 obtain⟨⟨u4,u5⟩,⟨u6,u7⟩,u8,u9⟩:(e 4<bP/\e 5<bP)/\(e 6<bP/\e 7<bP)/\(e 8<bP/\e 9<bP):=hp;obtain⟨_,_,_,_,h4,h5,h6,h7,h8,h9,_⟩:=hk;have k8:=h8;have k9:=h9;have q5:=Yz h4.1 u4 h5.1 u5;have q7:=Yz h6.1 u6 h7.1 u7;have q9:=Yz h8.1 u8 h9.1 u9;clear u4 u5 u6 u7 u8 u9 h4 h5 h6 h7 h8 h9;show Qy6.Xat _ ⟨fun ys=>ys=Yi (Yf (e 4) (e 5) (e 6) (e 7) (e 8) (e 9)),[]⟩ e;intro a10 k10;have b10:=Qaq a10 k8 k9;clear a10 k10;refine⟨fun h=>?_,fun h=>?_⟩
 ·have c10:=h;have z1:=Q_z q9 (Xn b10 c10);show[0,0,0,0,1]=_;rw[Zni z1]
 ·have c10:=h;have z1:=Zf7 q9 (Wc b10 c10);refine⟨⟨EQ.l1 q9,EQ.l2 q9⟩,?_⟩;intro a11 k11;have q11:=(show e 11=Qr (Zk (Qo (e 8),Qo (e 9))).1 from a11)
  clear a11 k11;intro a12 k12;have q12:=Zsf q11 (show e 12=Qr (Zk (Qo (e 8),Qo (e 9))).2 from a12) q9;clear a12 k12;refine⟨⟨EQ.l1 q12,EQ.l2 q12,EQ.l1 q12,EQ.l2 q12⟩,?_⟩;intro a13 k13;have q13:=(show e 13=Qr (Qo (e 11)*Qo (e 11)-Qo (e 12)*Qo (e 12))from a13)
  clear a13 k13;intro a14 k14;have q14:=Zr q13 (show e 14=Qr (Qo (e 11)*Qo (e 12)+Qo (e 12)*Qo (e 11))from a14) q12 q12;clear a14 k14;refine⟨⟨EQ.l1 q5,EQ.l2 q5,EQ.l1 q14,EQ.l2 q14⟩,?_⟩;intro a255 k255;have q255:=(show e 255=Qr (Qo (e 4)*Qo (e 13)-Qo (e 5)*Qo (e 14))from a255)
  clear a255 k255;intro a256 k256;have q256:=Zr q255 (show e 256=Qr (Qo (e 4)*Qo (e 14)+Qo (e 5)*Qo (e 13))from a256) q5 q14;clear a256 k256;refine⟨⟨EQ.l1 q14,EQ.l2 q14,EQ.l1 q12,EQ.l2 q12⟩,?_⟩;intro a687 k687;have q687:=(show e 687=Qr (Qo (e 13)*Qo (e 11)-Qo (e 14)*Qo (e 12))from a687)
  clear a687 k687;intro a688 k688;have q688:=Zr q687 (show e 688=Qr (Qo (e 13)*Qo (e 12)+Qo (e 14)*Qo (e 11))from a688) q14 q12;clear a688 k688;refine⟨⟨EQ.l1 q7,EQ.l2 q7,EQ.l1 q688,EQ.l2 q688⟩,?_⟩;intro a735 k735;have q735:=(show e 735=Qr (Qo (e 6)*Qo (e 687)-Qo (e 7)*Qo (e 688))from a735)
  clear a735 k735;intro a736 k736;have q736:=Zr q735 (show e 736=Qr (Qo (e 6)*Qo (e 688)+Qo (e 7)*Qo (e 687))from a736) q7 q688;clear a736 k736;show[e 255,e 256,e 735,e 736,0]=_;rw[Zmw z1,q256.1,q256.2,q736.1,q736.2];rfl
theorem Q3{a b c d:E2}(h:S2 a b)(k:S2 c d):S2 (R2.mul a c) (R2.mul b d):=⟨Wh (Q4 h.1 k.1) (Q4 h.2 k.2),Xz (Q4 h.1 k.2) (Q4 h.2 k.1)⟩
theorem Wu{a b c d:E2}(h:S2 a b)(k:S2 c d):S2 (R2.add a c) (R2.add b d):=⟨Xz h.1 k.1,Xz h.2 k.2⟩
theorem Jk{a b c d:E2}(h:S2 a b)(k:S2 c d):S2 (R2.sub a c) (R2.sub b d):=⟨Wh h.1 k.1,Wh h.2 k.2⟩
theorem Ww(a:E2):S2 a a:=⟨rfl,rfl⟩
theorem Qda{a b:E2}(h:S2 a b):R2.isz a=R2.isz b:=by
 rw[Bool.eq_iff_iff];exact Bz.trans ((by rw[h.1,h.2]:(a.1%bP=0/\a.2%bP=0)↔(b.1%bP=0/\b.2%bP=0)).trans Bz.symm)
def JS(P Q:J E2):Prop:=S2 P.x Q.x/\S2 P.y Q.y/\S2 P.z Q.z
theorem JS.refl(P:J E2):JS P P:=⟨Ww _,Ww _,Ww _⟩
theorem JS.symm{P Q:J E2}(h:JS P Q):JS Q P:=⟨⟨h.1.1.symm,h.1.2.symm⟩,⟨h.2.1.1.symm,h.2.1.2.symm⟩,h.2.2.1.symm,h.2.2.2.symm⟩
theorem JS.trans{P Q S:J E2}(h:JS P Q)(k:JS Q S):JS P S:=⟨⟨h.1.1.trans k.1.1,h.1.2.trans k.1.2⟩,⟨h.2.1.1.trans k.2.1.1,h.2.1.2.trans k.2.1.2⟩,h.2.2.1.trans k.2.2.1,h.2.2.2.trans k.2.2.2⟩
theorem JS.e2{P Q:J E2}(h:JS P Q):P.e2=Q.e2:=by
 unfold J.e2;rw[Z3 h.1.1,Z3 h.1.2,Z3 h.2.1.1,Z3 h.2.1.2,Z3 h.2.2.1,Z3 h.2.2.2]
theorem Qmk(P:J E2):JS (J.md R2 P) P:=⟨⟨Za _,Za _⟩,⟨Za _,Za _⟩,Za _,Za _⟩
theorem Qwi{P Q:J E2}(h:JS P Q):JS (Yj R2 P) (Yj R2 Q):=by
 obtain⟨hx,hy,hz⟩:=h;have yy:=Q3 hy hy;have s:=Q3 hx yy;have s:=Wu s s;have s:=Wu s s;have m:=Q3 hx hx;have m:=Wu (Wu m m) m;have x:=Jk (Q3 m m) (Wu s s);have e:=Q3 yy yy;have e:=Wu e e;have e:=Wu e e;have e:=Wu e e;have z:=Q3 hy hz;exact⟨x,Jk (Q3 m (Jk s x)) e,Wu z z⟩
theorem Zrq{P Q U V:J E2}(h:JS P Q)(k:JS U V):S2 (hJ R2 P U) (hJ R2 Q V):=Jk (Q3 k.1 (Q3 h.2.2 h.2.2)) (Q3 h.1 (Q3 k.2.2 k.2.2))
theorem Zqp{P Q U V:J E2}(h:JS P Q)(k:JS U V):S2 (rJ R2 P U) (rJ R2 Q V):=Jk (Q3 k.2.1 (Q3 (Q3 h.2.2 h.2.2) h.2.2)) (Q3 h.2.1 (Q3 (Q3 k.2.2 k.2.2) k.2.2))
theorem Ztj{P Q U V:J E2}(h:JS P Q)(k:JS U V):JS (Qht R2 P U) (Qht R2 Q V):=by
 have hh:=Zrq h k;have hr:=Zqp h k;have h2:=Q3 hh hh;have h3:=Q3 h2 hh;have u:=Q3 h.1 (Q3 k.2.2 k.2.2);have w:=Q3 u h2;have s:=Q3 h.2.1 (Q3 (Q3 k.2.2 k.2.2) k.2.2);have x:=Jk (Jk (Q3 hr hr) h3) (Wu w w);exact⟨x,Jk (Q3 hr (Jk w x)) (Q3 s h3),Q3 hh (Q3 h.2.2 k.2.2)⟩
theorem Qv9{P Q U V:J E2}(h:JS P Q)(k:JS U V):JS (Wo R2 P U) (Wo R2 Q V):=by
 rw[U4,U4,Qda h.2.2,Qda k.2.2,Qda (Zrq h k),Qda (Zqp h k)];split
 ·exact k
 ·split
  ·exact h
  ·split
   ·split
    ·exact Qwi h
    ·exact JS.refl _
   ·exact Ztj h k
theorem Qg7{a b c d x y:Int}{S:J E2}(h:[a,b,c,d,x,y]=S.e2):JS (Yf a b c d x y) S:=by
 unfold J.e2 at h;injection h with h1 h;injection h with h2 h;injection h with h3 h;injection h with h4 h;injection h with h5 h;injection h with h6 h;exact⟨⟨Xl h1,Xl h2⟩,⟨Xl h3,Xl h4⟩,Xl h5,Xl h6⟩
def Qef(o:Fo)(f:FuncId):K:={fn:=f,ext:=false,ins:=[.agg o.ls2,.agg ls6,iN],outs:=[.agg ls6],pre:=fun|[u,v,_,_,a,b,c,d,x,y,_]=>(u=Qr 1/\v=0)/\((a<bP/\b<bP)/\(c<bP/\d<bP)/\(x<bP/\y<bP))|_=>False,sem:=fun|[_,_,_,_,a,b,c,d,x,y,n]=>(W5 R2 (Yf a b c d x y) 384 n.toNat).e2|_=>[] }
def Qh6(P:J E2)(n:Int):List Int->Prop
 |[i,a,b,c,d,x,y]=>-1<=i/\i<X5 n/\[a,b,c,d,x,y]=(W5 R2 P 384 (n/2^(i+1).toNat).toNat).e2
 |_=>False
theorem Qhe{a b c d x y:Int}{P:J E2}(h:[a,b,c,d,x,y]=P.e2):(a<bP/\b<bP)/\(c<bP/\d<bP)/\(x<bP/\y<bP):=by
 unfold J.e2 at h;injection h with h1 h;injection h with h2 h;injection h with h3 h;injection h with h4 h;injection h with h5 h;injection h with h6 h;exact⟨⟨Q6 h1,Q6 h2⟩,⟨Q6 h3,Q6 h4⟩,Q6 h5,Q6 h6⟩
theorem Zho:(oJ R2).e2=[Qr 1,0,Qr 1,0,0,0]:=by
 show[Qr 1,Qr 0,Qr 1,Qr 0,Qr 0,Qr 0]=_;rw[Qmo]
def Zm4:Qq:=(xw 0 [.v 10] 11 [kI]
(.l 12 kI (.b .sub .i64 (.v 11) (.n 1))
(.loop [.v 12,.v 0,.v 1,.v 0,.v 1,.n 0,.n 0] [kI,.num,.num,.num,.num,.num,.num] 13
(.l 20 .bit (.c .geq (.v 13) (.n 0))
(.split 20
(xw 2 [.v 0,.v 1,.v 2,.v 3,.v 14,.v 15,.v 16,.v 17,.v 18,.v 19] 21 qda
(xw 1 [.v 10,.v 13] 27 [kI]
(.l 28 .bit (.c .eql (.v 27) (.n 1))
(.split 28
(xw 3 [.v 0,.v 1,.v 2,.v 3,.v 21,.v 22,.v 23,.v 24,.v 25,.v 26,.v 4,.v 5,.v 6,.v 7,.v 8,.v 9] 29 qda
(.l 35 kI (.b .sub .i64 (.v 13) (.n 1))
(.back 0 [.v 35,.v 29,.v 30,.v 31,.v 32,.v 33,.v 34])))
(.l 29 kI (.b .sub .i64 (.v 13) (.n 1))
(.back 0 [.v 29,.v 21,.v 22,.v 23,.v 24,.v 25,.v 26]))))))
(.ret [.v 14,.v 15,.v 16,.v 17,.v 18,.v 19]))))))
theorem Qun(o:Fo)(f1 f2 f3 f4 f:FuncId)(e:Nat->Int)(hk:Q0 [.num,.num,.num,.num,.num,.num,.num,.num,.num,.num,.num] [e 0,e 1,e 2,e 3,e 4,e 5,e 6,e 7,e 8,e 9,e 10])(hp:(Qef o f).pre [e 0,e 1,e 2,e 3,e 4,e 5,e 6,e 7,e 8,e 9,e 10]):Zm4.Xat [Qml f1,Zms f2,Qd1 o f3,Qjv o f4] ⟨fun ys=>ys=(Qef o f).sem [e 0,e 1,e 2,e 3,e 4,e 5,e 6,e 7,e 8,e 9,e 10],[]⟩ e:=by
 obtain⟨q0,uP⟩:(e 0=Qr 1/\e 1=0)/\((e 4<bP/\e 5<bP)/\(e 6<bP/\e 7<bP)/\(e 8<bP/\e 9<bP)):=hp;obtain⟨_,_,_,_,_,_,_,_,_,_,h5,_⟩:=hk;have hn:0<=e 10/\e 10<Qw:=h5;obtain⟨P,hP⟩:∃P,P=Yf (e 4) (e 5) (e 6) (e 7) (e 8) (e 9):=⟨_,rfl⟩
 refine⟨trivial,fun a6 _ a7 _=>?_⟩;have v6:e 11=X5 (e 10):=a6;have b0:=Qap (e 10);have b1:=Jh 384 (e 10) hn.1 (by rw[Zy4];exact hn.2);have v7:e 12=X5 (e 10)-1:=by
  have:e 12=Qm .sub .i64 (e 11) 1:=a7;rw[this,v6];simp only[Qm,wr];omega
 refine⟨Qh6 P (e 10),fun|[i,_,_,_,_,_,_]=>(i+1).toNat|_=>0,?_,fun e' he hkk hI=>?_⟩
 ·show -1<=e 12/\e 12<X5 (e 10)/\[e 0,e 1,e 0,e 1,0,0]=(W5 R2 P 384 (e 10/2^(e 12+1).toNat).toNat).e2;rw[v7];refine⟨by omega,by omega,?_⟩;rw[Hq];have h1:e 10/2^(X5 (e 10)).toNat=0:=by
   rcases Int.lt_or_le (e 10) (2^(X5 (e 10)).toNat)with hc|hc
   ·exact Hl hn.1 hc
   ·have:=Qil (X5 (e 10)).toNat (e 10) hc;omega
  rw[h1,q0.1,q0.2];exact Zho.symm
 ·obtain⟨i1,i2,i3⟩:Qh6 P (e 10) [e' 13,e' 14,e' 15,e' 16,e' 17,e' 18,e' 19]:=hI;rw[<- he 0 (by decide),<- he 1 (by decide)]at q0;rw[<- he 4 (by decide),<- he 5 (by decide),<- he 6 (by decide),<- he 7 (by decide),<- he 8 (by decide),<- he 9 (by decide)]at uP hP;rw[<- he 10 (by decide)]at hn i2 i3 b1 ⊢;rw[<- he 0 (by decide),<- he 1 (by decide),<- he 2 (by decide),<- he 3 (by decide),<- he 4 (by decide),<- he 5 (by decide),<- he 6 (by decide),<- he 7 (by decide),<- he 8 (by decide),<- he 9 (by decide)];clear he a6 a7 v6 v7 b0 hkk;intro a12 _;have b12:=Qdf a12;refine⟨fun hs=>?_,fun hs=>?_⟩
  ·have c5:0<=e' 13:=Xn b12 hs;obtain⟨n,hi⟩:=Oz c5;rw[hi,show((n:Int)+1).toNat=n+1 by omega]at i3;rw[hi]at i2;obtain⟨S,hS⟩:∃S,S=W5 R2 P 384 (e' 10/2^(n+1)).toNat:=⟨_,rfl⟩
   rw[<- hS]at i3;refine⟨Qhe i3,fun a21 _ a22 _ a23 _ a24 _ a25 _ a26 _=>?_⟩;have d1:[e' 21,e' 22,e' 23,e' 24,e' 25,e' 26]=(Yj R2 (Yf (e' 14) (e' 15) (e' 16) (e' 17) (e' 18) (e' 19))).e2:=by
    rw[show e' 21=_ from a21,show e' 22=_ from a22,show e' 23=_ from a23,show e' 24=_ from a24,show e' 25=_ from a25,show e' 26=_ from a26];rfl
   have d2:[e' 21,e' 22,e' 23,e' 24,e' 25,e' 26]=(J.md R2 (Yj R2 S)).e2:=d1.trans ((Qwi (Qg7 i3)).trans (Qmk _).symm).e2;clear a21 a22 a23 a24 a25 a26 d1;refine⟨trivial,fun a16 _ a17 _=>?_⟩;have hlen:X5 (e' 10)<=384:=b1;have h16:e' 27=e' 10/2^n%2:=by
    have h:e' 27=if 0<=e' 13/\e' 13<384 then e' 10/2^(e' 13).toNat%2 else 0:=a16
    rw[h,if_pos ⟨c5,by omega⟩,hi,Mi]
   have hh:=Zei (i:=n) hn.1;obtain⟨t1,t2⟩:=Zlv hn i2;have hst:=Zga (R:=R2) (P:=P) (n:=(e' 10/2^n).toNat) (by omega) t2;rw[show(e' 10/2^n).toNat/2=(e' 10/2^(n+1)).toNat by omega,<- hS]at hst;have b17:=Zy a17;refine⟨fun hs2=>?_,fun hs2=>?_⟩
   ·have c17:e' 27=1:=Xn b17 hs2;refine⟨⟨q0,Qhe d2,uP⟩,fun a29 _ a30 _ a31 _ a32 _ a33 _ a34 _ a35 _=>?_⟩;have g1:[e' 29,e' 30,e' 31,e' 32,e' 33,e' 34]=(Wo R2 (Yf (e' 21) (e' 22) (e' 23) (e' 24) (e' 25) (e' 26)) (Yf (e' 4) (e' 5) (e' 6) (e' 7) (e' 8) (e' 9))).e2:=by
     rw[show e' 29=_ from a29,show e' 30=_ from a30,show e' 31=_ from a31,show e' 32=_ from a32,show e' 33=_ from a33,show e' 34=_ from a34];rfl
    rw[<- hP]at g1;have g2:=g1.trans ((Qv9 (Qg7 d2) (JS.refl P)).trans (Qmk _).symm).e2;have h21:e' 35=n-1:=by
     have:e' 35=Qm .sub .i64 (e' 13) 1:=a35;rw[this,hi];simp only[Qm,wr];omega
    show Qh6 P (e' 10) [e' 35,e' 29,e' 30,e' 31,e' 32,e' 33,e' 34]/\(e' 35+1).toNat<(e' 13+1).toNat;rw[h21,hi];refine⟨⟨by omega,by omega,?_⟩,by omega⟩;rw[show((n:Int)-1+1).toNat=n by omega,hst,if_pos (by omega)];exact g2
   ·have c17:¬e' 27=1:=Wc b17 hs2;intro a18 _;have h18:e' 29=n-1:=by
     have:e' 29=Qm .sub .i64 (e' 13) 1:=a18;rw[this,hi];simp only[Qm,wr];omega
    show Qh6 P (e' 10) [e' 29,e' 21,e' 22,e' 23,e' 24,e' 25,e' 26]/\(e' 29+1).toNat<(e' 13+1).toNat;rw[h18,hi];refine⟨⟨by omega,by omega,?_⟩,by omega⟩;rw[show((n:Int)-1+1).toNat=n by omega,hst,if_neg (by omega)];exact d2
  ·have c5:e' 13=-1:=by have:¬e' 13≥0:=Wc b12 hs;omega
   rw[c5]at i3;show[e' 14,e' 15,e' 16,e' 17,e' 18,e' 19]=(W5 R2 (Yf (e' 4) (e' 5) (e' 6) (e' 7) (e' 8) (e' 9)) 384 (e' 10).toNat).e2;rw[i3,<- hP];show(W5 R2 P 384 (e' 10/1).toNat).e2=_;rw[Oan]
def Qub(f:FuncId):K:={fn:=f,ext:=false,ins:=[],outs:=[oE2],pre:=fun _=>True,sem:=fun _=>[Qr 1,0] }
def Qhi(f:FuncId):K:={fn:=f,ext:=false,ins:=[iE2],outs:=[oE2],pre:=fun _=>True,sem:=fun|[a,b]=>[Qr a,Qr b]|_=>[] }
def Qao(f:FuncId):K:={fn:=f,ext:=false,ins:=[iE2],outs:=[oE2],pre:=fun|[a,b]=>a<bP/\b<bP|_=>False,sem:=fun|[a,b]=>[Qo a,Qo b]|_=>[] }
def Qh2(o:Fo)(f:FuncId):K:={fn:=f,ext:=false,ins:=[],outs:=[.agg o.ls2],pre:=fun _=>True,sem:=fun _=>[Qr 1,0,Qr 4,Qr 4] }
def Zo9:Qq:=(xw 0 [.v 0] 98 Z7
(xw 0 [.v 1] 242 Z7
(.ret [.v 98,.v 242])))
theorem Zgi(f1 f:FuncId)(e:Nat->Int):Zo9.Xat [Zn9 f1] ⟨fun ys=>ys=(Qhi f).sem [e 0,e 1],[]⟩ e:=by
 show Zo9.Xat _ ⟨fun ys=>ys=[Qr (e 0),Qr (e 1)],[]⟩ e;refine⟨trivial,?_⟩;intro a98 k98;have q98:=(show e 98=Qr (e 0)from a98)
 clear a98 k98;refine⟨trivial,?_⟩;intro a242 k242;have q242:=(show e 242=Qr (e 1)from a242)
 clear a242 k242;show[e 98,e 242]=_;rw[q98,q242];all_goals rfl
def Qyv:Qq:=(xw 0 [.v 0] 98 Z7
(xw 0 [.v 1] 242 Z7
(.ret [.v 98,.v 242])))
theorem Qxa(f1 f:FuncId)(e:Nat->Int)(hp:(Qao f).pre [e 0,e 1]):Qyv.Xat [Qn7 f1] ⟨fun ys=>ys=(Qao f).sem [e 0,e 1],[]⟩ e:=by
 obtain⟨u0,u1⟩:e 0<bP/\e 1<bP:=hp;have q0:=u0;have q1:=u1;show Qyv.Xat _ ⟨fun ys=>ys=[Qo (e 0),Qo (e 1)],[]⟩ e;refine⟨q0,?_⟩;intro a98 k98;have q98:=(show e 98=Qo (e 0)from a98)
 clear a98 k98;refine⟨q1,?_⟩;intro a242 k242;have q242:=(show e 242=Qo (e 1)from a242)
 clear a242 k242;show[e 98,e 242]=_;rw[q98,q242];all_goals rfl
def Zog:Qq:=(xw 2 [.n 4] 0 Z7
(xw 0 [.v 0] 1 Z7
(xw 1 [] 2 Yo
(.ret [.v 2,.v 3,.v 1,.v 1]))))
theorem Qwo(o:Fo)(f1 f2 f3 f:FuncId)(e:Nat->Int):Zog.Xat [Zn9 f1,Qub f2,kOf f3] ⟨fun ys=>ys=(Qh2 o f).sem [],[]⟩ e:=by
 refine⟨trivial,fun a0 _=>⟨trivial,fun a1 _=>⟨trivial,fun a2 _ a3 _=>?_⟩⟩⟩;show[e 2,e 3,e 1,e 1]=[Qr 1,0,Qr 4,Qr 4]
 rw[show e 2=Qr 1 from a2,show e 3=0 from a3,show e 1=Qr (e 0)from a1,show e 0=4 from a0]
abbrev Zys:List L:=[.num,.num,.num,.num,.bool]
def Ya(X:E2):E2:=R2.add (R2.mul (R2.mul X X) X) (4,4)
def Qhl(a b c d z:Int):Prop:=((a<bP/\b<bP)/\(c<bP/\d<bP))/\if z=0 then R2.md (R2.mul (c,d) (c,d))=R2.md (Ya (a,b))else(a=0/\b=0)/\(c=0/\d=0)
theorem Qdt{a b c d z:Int}(h:z=0):Qhl a b c d z↔((a<bP/\b<bP)/\(c<bP/\d<bP))/\R2.md (R2.mul (c,d) (c,d))=R2.md (Ya (a,b)):=by unfold Qhl;rw[if_pos h]
theorem Qiz{a b c d z:Int}(h:¬z=0):Qhl a b c d z↔((a<bP/\b<bP)/\(c<bP/\d<bP))/\((a=0/\b=0)/\(c=0/\d=0)):=by unfold Qhl;rw[if_neg h]
theorem Zs7{e:Nat->Int}{v:Int}{i j i' j':Nat}(h:v=(D.eqs [(.m i 0,.m j 0),(.m i 1,.m j 1),(.m i 2,.m j 2),(.m i 3,.m j 3),(.m i 4,.m j 4),(.m i 5,.m j 5),(.m i' 0,.m j' 0),(.m i' 1,.m j' 1),(.m i' 2,.m j' 2),(.m i' 3,.m j' 3),(.m i' 4,.m j' 4),(.m i' 5,.m j' 5)]).ev [] e)(hi:0<=e i/\e i<Qw)(hj:0<=e j/\e j<Qw)(hi':0<=e i'/\e i'<Qw)(hj':0<=e j'/\e j'<Qw):(v=1/\(e i=e j/\e i'=e j'))∨(v=0/\¬(e i=e j/\e i'=e j')):=by
 simp only[D.ev,L1,Oaa,Qp,H6,Qfa,Oo,beq_iff_eq]at h;by_cases hc:e i=e j/\e i'=e j'
 ·left;rw[hc.1,hc.2]at h;simp at h;exact⟨h,hc⟩
 ·right
  rw[if_neg (fun hh=>hc ⟨Qpo hi hj ⟨hh.1,hh.2.1,hh.2.2.1,hh.2.2.2.1,hh.2.2.2.2.1,hh.2.2.2.2.2.1⟩,Qpo hi' hj' ⟨hh.2.2.2.2.2.2.1,hh.2.2.2.2.2.2.2.1,hh.2.2.2.2.2.2.2.2.1,hh.2.2.2.2.2.2.2.2.2.1,hh.2.2.2.2.2.2.2.2.2.2.1,hh.2.2.2.2.2.2.2.2.2.2.2⟩⟩)]at h;exact⟨h,hc⟩
def Qdl(a b c d z:Int):Prop:=if z=0 then R2.md (R2.mul (Qo c,Qo d) (Qo c,Qo d))=R2.md (Ya (Qo a,Qo b))else(a=0/\b=0)/\(c=0/\d=0)
theorem Zeh{a b c d z:Int}(h:z=0):Qdl a b c d z↔R2.md (R2.mul (Qo c,Qo d) (Qo c,Qo d))=R2.md (Ya (Qo a,Qo b)):=by unfold Qdl;rw[if_pos h]
theorem Quh{a b c d z:Int}(h:¬z=0):Qdl a b c d z↔((a=0/\b=0)/\(c=0/\d=0)):=by unfold Qdl;rw[if_neg h]
noncomputable def Zen(o:Fo)(f:FuncId):K:={fn:=f,ext:=false,ins:=[.agg o.ls2,.agg Qby],outs:=[oB],pre:=fun|[_,_,s,t,a,b,c,d,_]=>(s=Qr 4/\t=Qr 4)/\(a<bP/\b<bP)/\(c<bP/\d<bP)|_=>False,sem:=fun|[_,_,_,_,a,b,c,d,z]=>[bj (Qdl a b c d z)]|_=>[] }
theorem Zdp(f1 f:FuncId)(e:Nat->Int):(Qq.req 0 [] (.l 0 .num (.app 0 0 []) (.ret [.v 0,.lit 0]))).Xat [Qkv f1] ⟨fun ys=>ys=(Qub f).sem [],[]⟩ e:=by
 refine⟨trivial,fun a0 _=>?_⟩;show[e 0,0]=[Qr 1,0]
 rw[show e 0=Qr 1 from a0]
def Zwm:Qq:=(.split 8
(.l 9 .bit (.eqs [((.m 4 0),(.n 0)),((.m 4 1),(.n 0)),((.m 4 2),(.n 0)),((.m 4 3),(.n 0)),((.m 4 4),(.n 0)),((.m 4 5),(.n 0)),((.m 5 0),(.n 0)),((.m 5 1),(.n 0)),((.m 5 2),(.n 0)),((.m 5 3),(.n 0)),((.m 5 4),(.n 0)),((.m 5 5),(.n 0))])
(.split 9
(.l 10 .bit (.eqs [((.m 6 0),(.n 0)),((.m 6 1),(.n 0)),((.m 6 2),(.n 0)),((.m 6 3),(.n 0)),((.m 6 4),(.n 0)),((.m 6 5),(.n 0)),((.m 7 0),(.n 0)),((.m 7 1),(.n 0)),((.m 7 2),(.n 0)),((.m 7 3),(.n 0)),((.m 7 4),(.n 0)),((.m 7 5),(.n 0))])
(.ret [.v 10]))
(.ret [.n 0])))
(xw 1 [.v 6,.v 7,.v 6,.v 7] 297 Yo
(xw 1 [.v 4,.v 5,.v 4,.v 5] 825 Yo
(xw 1 [.v 825,.v 826,.v 4,.v 5] 969 Yo
(xw 0 [.v 969,.v 970,.v 2,.v 3] 1113 Yo
(.l 1161 .bit (.eqs [((.m 297 0),(.m 1113 0)),((.m 297 1),(.m 1113 1)),((.m 297 2),(.m 1113 2)),((.m 297 3),(.m 1113 3)),((.m 297 4),(.m 1113 4)),((.m 297 5),(.m 1113 5)),((.m 298 0),(.m 1114 0)),((.m 298 1),(.m 1114 1)),((.m 298 2),(.m 1114 2)),((.m 298 3),(.m 1114 3)),((.m 298 4),(.m 1114 4)),((.m 298 5),(.m 1114 5))])
(.ret [.v 1161])))))))
theorem Zow(o:Fo)(f1 f2 f:FuncId)(e:Nat->Int)(hk:Q0 [.num,.num,.num,.num,.num,.num,.num,.num,.bit] [e 0,e 1,e 2,e 3,e 4,e 5,e 6,e 7,e 8])(hp:(Zen o f).pre [e 0,e 1,e 2,e 3,e 4,e 5,e 6,e 7,e 8]):Zwm.Xat [Qdp f1,Qbe f2] ⟨fun ys=>ys=(Zen o f).sem [e 0,e 1,e 2,e 3,e 4,e 5,e 6,e 7,e 8],[]⟩ e:=by
 obtain⟨⟨s0,s1⟩,⟨u4,u5⟩,u6,u7⟩:(e 2=Qr 4/\e 3=Qr 4)/\(e 4<bP/\e 5<bP)/\(e 6<bP/\e 7<bP):=hp;obtain⟨_,_,_,_,h4,h5,h6,h7,_⟩:=hk;have k4:=h4;have k5:=h5;have k6:=h6;have k7:=h7;have q3:EQ (e 2) (e 3) (4,4):=⟨s0,s1⟩
 have q5:=Yz h4.1 u4 h5.1 u5;have q7:=Yz h6.1 u6 h7.1 u7;clear u4 u5 u6 u7 h4 h5 h6 h7 s0 s1;show Zwm.Xat _ ⟨fun ys=>ys=[bj (Qdl (e 4) (e 5) (e 6) (e 7) (e 8))],[]⟩ e;refine⟨fun h=>?_,fun h=>?_⟩
 ·have c8:=h;intro a9 k9;have b9:=Qaq a9 k4 k5;clear a9 k9;refine⟨fun h=>?_,fun h=>?_⟩
  ·have c9:=h;have z1:e 4=0/\e 5=0:=Xn b9 c9;intro a10 k10;have b10:=Qaq a10 k6 k7;clear a10 k10;show[e 10]=_;refine congrArg (fun x=>[x]) ((Qrp b10).trans (Qbw ((Quh c8).trans ?_).symm));exact⟨fun h=>h.2,fun h=>⟨z1,h⟩⟩
  ·have c9:=h;have z1:¬(e 4=0/\e 5=0):=Wc b9 c9;show[(0:Int)]=_;rw[Qcj (fun h=>z1 ((Quh c8).1 h).1)]
 ·have c8:=h;refine⟨⟨EQ.l1 q7,EQ.l2 q7,EQ.l1 q7,EQ.l2 q7⟩,?_⟩;intro a297 k297;have q297:=(show e 297=Qr (Qo (e 6)*Qo (e 6)-Qo (e 7)*Qo (e 7))from a297)
  clear a297;intro a298 k298;have q298:=Zr q297 (show e 298=Qr (Qo (e 6)*Qo (e 7)+Qo (e 7)*Qo (e 6))from a298) q7 q7;clear a298;refine⟨⟨EQ.l1 q5,EQ.l2 q5,EQ.l1 q5,EQ.l2 q5⟩,?_⟩;intro a825 k825;have q825:=(show e 825=Qr (Qo (e 4)*Qo (e 4)-Qo (e 5)*Qo (e 5))from a825)
  clear a825 k825;intro a826 k826;have q826:=Zr q825 (show e 826=Qr (Qo (e 4)*Qo (e 5)+Qo (e 5)*Qo (e 4))from a826) q5 q5;clear a826 k826;refine⟨⟨EQ.l1 q826,EQ.l2 q826,EQ.l1 q5,EQ.l2 q5⟩,?_⟩;intro a969 k969;have q969:=(show e 969=Qr (Qo (e 825)*Qo (e 4)-Qo (e 826)*Qo (e 5))from a969)
  clear a969 k969;intro a970 k970;have q970:=Zr q969 (show e 970=Qr (Qo (e 825)*Qo (e 5)+Qo (e 826)*Qo (e 4))from a970) q826 q5;clear a970 k970;refine⟨⟨EQ.l1 q970,EQ.l2 q970,EQ.l1 q3,EQ.l2 q3⟩,?_⟩;intro a1113 k1113;have q1113:=(show e 1113=Qr (Qo (e 969)+Qo (e 2))from a1113)
  clear a1113;intro a1114 k1114;have q1114:=Ux q1113 (show e 1114=Qr (Qo (e 970)+Qo (e 3))from a1114) q970 q3;clear a1114;intro a1161 k1161;clear k1161;have b1161:=Zs7 a1161 k297 k1113 k298 k1114;clear a1161;show[e 1161]=_;refine congrArg (fun x=>[x]) ((Qrp b1161).trans (Qbw ((Zeh c8).trans ?_).symm));rw[q298.1,q298.2,q1114.1,q1114.2];exact⟨fun h=>⟨Z3 (congrArg Prod.fst h),Z3 (congrArg Prod.snd h)⟩,fun h=>Prod.ext (Qh0 h.1) (Qh0 h.2)⟩
def Qi2(a b c d z:Int):J E2:=if z=0 then⟨(a,b),(c,d),(1,0)⟩else oJ R2
def Zbf(a b c d z:Int):Prop:=Qhl a b c d z/\R2.isz (W5 R2 (Qi2 a b c d z) 384 Xs.toNat).z=true
noncomputable def Zhp(f:FuncId):K:={fn:=f,ext:=false,ins:=[.agg Zys],outs:=[oB],pre:=fun _=>True,sem:=fun|[a,b,c,d,z]=>[bj (Zbf a b c d z)]|_=>[] }
theorem Qz2{P Q:J E2}(h:JS P Q):JS (J.md R2 P) (J.md R2 Q):=(Qmk P).trans (h.trans (Qmk Q).symm)
theorem Zko{P Q:J E2}(h:JS P Q):∀k n,JS (W5 R2 P k n) (W5 R2 Q k n)
 |0,n=>JS.refl _
 |k+1,n=>by
  have ih:=Zko h k (n/2);have e1:∀W:J E2,W5 R2 W (k+1) n=if n=0 then oJ R2 else(if n%2=1 then J.md R2 (Wo R2 (J.md R2 (Yj R2 (W5 R2 W k (n/2)))) W)else J.md R2 (Yj R2 (W5 R2 W k (n/2)))):=fun _=>rfl
  have d:=Qz2 (Qwi ih);rw[e1,e1];by_cases h0:n=0
  ·rw[if_pos h0,if_pos h0];exact JS.refl _
  ·rw[if_neg h0,if_neg h0];by_cases h1:n%2=1
   ·rw[if_pos h1,if_pos h1];exact Qz2 (Qv9 d h)
   ·rw[if_neg h1,if_neg h1];exact d
def Qhj(a b c d z:Int):J E2:=if z=0 then⟨(Qo a,Qo b),(Qo c,Qo d),(1,0)⟩else oJ R2
theorem Qrg{a b c d z:Int}(ha:(0<=a/\a<bP)/\(0<=b/\b<bP))(hc:(0<=c/\c<bP)/\(0<=d/\d<bP)):(if z=0 then[a,b,c,d,Qr 1,0]else[Qr 1,0,Qr 1,0,0,0])=(Qhj a b c d z).e2:=by
 unfold Qhj;by_cases h:z=0
 ·rw[if_pos h,if_pos h];show _=[Qr (Qo a),Qr (Qo b),Qr (Qo c),Qr (Qo d),Qr 1,Qr 0]
  rw[Qe5 ha.1.1 ha.1.2,Qe5 ha.2.1 ha.2.2,Qe5 hc.1.1 hc.1.2,Qe5 hc.2.1 hc.2.2,Qmo]
 ·rw[if_neg h,if_neg h];exact Zho.symm
noncomputable def Qyq(o:Fo)(f:FuncId):K:={fn:=f,ext:=false,ins:=[.agg o.ls2,.agg Qby],outs:=[oB],pre:=fun|[u,v,s,t,a,b,c,d,_]=>(u=Qr 1/\v=0)/\(s=Qr 4/\t=Qr 4)/\(a<bP/\b<bP)/\(c<bP/\d<bP)|_=>False,sem:=fun|[_,_,_,_,a,b,c,d,z]=>[bj (Qdl a b c d z/\R2.isz (W5 R2 (Qhj a b c d z) 384 Xs.toNat).z=true)]|_=>[] }
theorem Znu(P:J E2):(Yi P).getD 4 0=if P.z.1%bP=0/\P.z.2%bP=0 then 1 else 0:=by
 unfold Yi;split <;> rfl
def Zqe:Qq:=(xw 0 [.v 0,.v 1,.v 2,.v 3,.v 4,.v 5,.v 6,.v 7,.v 8] 105 qga
(.split 105
(xw 1 [.v 0,.v 1,.v 2,.v 3,.v 4,.v 5,.v 6,.v 7,.v 8] 393 qda
(xw 2 [] 441 Z7
(xw 3 [.v 0,.v 1,.v 2,.v 3,.v 393,.v 394,.v 395,.v 396,.v 397,.v 398,.v 441] 489 qda
(xw 4 [.v 0,.v 1,.v 2,.v 3,.v 489,.v 490,.v 491,.v 492,.v 493,.v 494] 537 qfa
(.ret [.v 541])))))
(.ret [.n 0])))
theorem Zel(o:Fo)(f1 f2 f3 f4 f5 f:FuncId)(e:Nat->Int)(hk:Q0 [.num,.num,.num,.num,.num,.num,.num,.num,.bit] [e 0,e 1,e 2,e 3,e 4,e 5,e 6,e 7,e 8])(hp:(Qyq o f).pre [e 0,e 1,e 2,e 3,e 4,e 5,e 6,e 7,e 8]):Zqe.Xat [Zen o f1,Qh1 o f2,Qpf f3,Qef o f4,Qew o f5] ⟨fun ys=>ys=(Qyq o f).sem [e 0,e 1,e 2,e 3,e 4,e 5,e 6,e 7,e 8],[]⟩ e:=by
 obtain⟨⟨w0,w1⟩,s,u4,u6⟩:(e 0=Qr 1/\e 1=0)/\(e 2=Qr 4/\e 3=Qr 4)/\(e 4<bP/\e 5<bP)/\(e 6<bP/\e 7<bP):=hp;obtain⟨_,_,_,_,h4,h5,h6,h7,_⟩:=hk;have hra:=Qrg (z:=e 8) ⟨⟨h4.1,u4.1⟩,⟨h5.1,u4.2⟩⟩ ⟨⟨h6.1,u6.1⟩,⟨h7.1,u6.2⟩⟩;show Zqe.Xat _ ⟨fun ys=>ys=[bj (Qdl (e 4) (e 5) (e 6) (e 7) (e 8)/\R2.isz (W5 R2 (Qhj (e 4) (e 5) (e 6) (e 7) (e 8)) 384 Xs.toNat).z=true)],[]⟩ e;refine⟨⟨s,u4,u6⟩,?_⟩;intro a105 k105;have q105:=(show e 105=bj (Qdl (e 4) (e 5) (e 6) (e 7) (e 8))from a105)
 clear a105 k105;refine⟨fun h=>?_,fun h=>?_⟩
 ·have c105:=h;have z1:Qdl (e 4) (e 5) (e 6) (e 7) (e 8):=Qcp q105 c105;refine⟨trivial,?_⟩;intro a393 k393;have q393:=(show e 393=(if(e 8)=0 then[(e 4),(e 5),(e 6),(e 7),(e 0),(e 1)]else[(e 0),(e 1),(e 0),(e 1),0,0]).getD 0 0 from a393)
  clear a393 k393;intro a394 k394;have q394:=(show e 394=(if(e 8)=0 then[(e 4),(e 5),(e 6),(e 7),(e 0),(e 1)]else[(e 0),(e 1),(e 0),(e 1),0,0]).getD 1 0 from a394)
  clear a394 k394;intro a395 k395;have q395:=(show e 395=(if(e 8)=0 then[(e 4),(e 5),(e 6),(e 7),(e 0),(e 1)]else[(e 0),(e 1),(e 0),(e 1),0,0]).getD 2 0 from a395)
  clear a395 k395;intro a396 k396;have q396:=(show e 396=(if(e 8)=0 then[(e 4),(e 5),(e 6),(e 7),(e 0),(e 1)]else[(e 0),(e 1),(e 0),(e 1),0,0]).getD 3 0 from a396)
  clear a396 k396;intro a397 k397;have q397:=(show e 397=(if(e 8)=0 then[(e 4),(e 5),(e 6),(e 7),(e 0),(e 1)]else[(e 0),(e 1),(e 0),(e 1),0,0]).getD 4 0 from a397)
  clear a397 k397;intro a398 k398;have q398:=(show e 398=(if(e 8)=0 then[(e 4),(e 5),(e 6),(e 7),(e 0),(e 1)]else[(e 0),(e 1),(e 0),(e 1),0,0]).getD 5 0 from a398)
  clear a398 k398;have hR:[e 393,e 394,e 395,e 396,e 397,e 398]=(Qhj (e 4) (e 5) (e 6) (e 7) (e 8)).e2:=by
   rw[<- hra,q393,q394,q395,q396,q397,q398,w0,w1];by_cases hz:e 8=0
   ·simp only[if_pos hz];rfl
   ·simp only[if_neg hz];rfl
  clear q393 q394 q395 q396 q397 q398;refine⟨trivial,?_⟩;intro a441 k441;have q441:=(show e 441=Xs from a441)
  clear a441 k441;refine⟨⟨⟨w0,w1⟩,Qhe hR⟩,?_⟩;intro a489 k489;have q489:=(show e 489=((W5 R2 (Yf (e 393) (e 394) (e 395) (e 396) (e 397) (e 398)) 384 (e 441).toNat).e2).getD 0 0 from a489)
  clear a489 k489;intro a490 k490;have q490:=(show e 490=((W5 R2 (Yf (e 393) (e 394) (e 395) (e 396) (e 397) (e 398)) 384 (e 441).toNat).e2).getD 1 0 from a490)
  clear a490 k490;intro a491 k491;have q491:=(show e 491=((W5 R2 (Yf (e 393) (e 394) (e 395) (e 396) (e 397) (e 398)) 384 (e 441).toNat).e2).getD 2 0 from a491)
  clear a491 k491;intro a492 k492;have q492:=(show e 492=((W5 R2 (Yf (e 393) (e 394) (e 395) (e 396) (e 397) (e 398)) 384 (e 441).toNat).e2).getD 3 0 from a492)
  clear a492 k492;intro a493 k493;have q493:=(show e 493=((W5 R2 (Yf (e 393) (e 394) (e 395) (e 396) (e 397) (e 398)) 384 (e 441).toNat).e2).getD 4 0 from a493)
  clear a493 k493;intro a494 k494;have q494:=(show e 494=((W5 R2 (Yf (e 393) (e 394) (e 395) (e 396) (e 397) (e 398)) 384 (e 441).toNat).e2).getD 5 0 from a494)
  clear a494 k494;have hT:[e 489,e 490,e 491,e 492,e 493,e 494]=(W5 R2 (Qhj (e 4) (e 5) (e 6) (e 7) (e 8)) 384 Xs.toNat).e2:=by
   rw[q489,q490,q491,q492,q493,q494,q441];exact(show _=(W5 R2 (Yf (e 393) (e 394) (e 395) (e 396) (e 397) (e 398)) 384 Xs.toNat).e2 from rfl).trans (Zko (Qg7 hR) _ _).e2
  generalize hW:W5 R2 (Qhj (e 4) (e 5) (e 6) (e 7) (e 8)) 384 Xs.toNat=W at hT;clear q489 q490 q491 q492 q493 q494;refine⟨Qhe hT,?_⟩;intro a537 k537;have q537:=(show e 537=(Yi (Yf (e 489) (e 490) (e 491) (e 492) (e 493) (e 494))).getD 0 0 from a537)
  clear a537 k537;intro a538 k538;have q538:=(show e 538=(Yi (Yf (e 489) (e 490) (e 491) (e 492) (e 493) (e 494))).getD 1 0 from a538)
  clear a538 k538;intro a539 k539;have q539:=(show e 539=(Yi (Yf (e 489) (e 490) (e 491) (e 492) (e 493) (e 494))).getD 2 0 from a539)
  clear a539 k539;intro a540 k540;have q540:=(show e 540=(Yi (Yf (e 489) (e 490) (e 491) (e 492) (e 493) (e 494))).getD 3 0 from a540)
  clear a540 k540;intro a541 k541;have q541:=(show e 541=(Yi (Yf (e 489) (e 490) (e 491) (e 492) (e 493) (e 494))).getD 4 0 from a541)
  clear a541 k541;show[e 541]=_;rw[Znu]at q541;have hj:=Qda (Qg7 hT).2.2;refine congrArg (fun x=>[x]) (Qrp ?_);by_cases ht:R2.isz W.z=true
  ·exact Or.inl ⟨q541.trans (if_pos (Bz.1 (hj.trans ht))),z1,ht⟩
  ·exact Or.inr ⟨q541.trans (if_neg (fun h=>ht (hj.symm.trans (Bz.2 h)))),fun h=>ht h.2⟩
 ·have c105:=h;have z1:¬Qdl (e 4) (e 5) (e 6) (e 7) (e 8):=Qly q105 c105;show[(0:Int)]=_;rw[Qcj (fun h=>z1 h.1)]
noncomputable def Qh8(f:FuncId):K:={fn:=f,ext:=false,ins:=[.agg Qby],outs:=[oB],pre:=fun _=>True,sem:=fun|[a,b,c,d,_]=>[bj ((a<bP/\b<bP)/\(c<bP/\d<bP))]|_=>[] }
def Zn6(f:FuncId):K:={fn:=f,ext:=false,ins:=[.agg Qby],outs:=[.agg Qby],pre:=fun _=>True,sem:=fun|[a,b,c,d,z]=>[Qr a,Qr b,Qr c,Qr d,z]|_=>[] }
def Qz9:Qq:=(xw 1 [] 49 Z7
(xw 0 [.v 0,.v 49] 97 [kI]
(.l 145 .bit (.c .lss (.v 97) (.n 0))
(.ret [.v 145]))))
theorem Qu5(f1 f2 f:FuncId)(e:Nat->Int)(hk:Q0 [.num] [e 0]):Qz9.Xat [Vt f1,Qjs f2] ⟨fun ys=>ys=(Qof f).sem [e 0],[]⟩ e:=by
 clear hk;show Qz9.Xat _ ⟨fun ys=>ys=[bj (e 0<bP)],[]⟩ e;refine⟨trivial,?_⟩;intro a49 k49;have q49:=(show e 49=bP from a49)
 clear a49 k49;refine⟨trivial,?_⟩;intro a97 k97;have q97:=(show e 97=if(e 0)<(e 49)then -1 else if(e 0)=(e 49)then 0 else 1 from a97)
 clear a97 k97;intro a k;have b145:=Zj a;simp only[Ql,Qn,Qp]at b145;clear a k;show[e 145]=_;rw[q49]at q97;exact congrArg (fun x=>[x]) (Qrp (p:=e 0<bP) (by
  rcases b145 with⟨h1,h2⟩|⟨h1,h2⟩
  ·left;refine⟨h1,?_⟩;rw[q97]at h2;split at h2
   ·assumption
   ·split at h2 <;> exact absurd h2 (by decide)
  ·right;refine⟨h1,fun hc=>h2 ?_⟩;rw[q97,if_pos hc];decide))
def Qze:Qq:=(xw 0 [.v 0] 5 qga
(.split 5
(xw 0 [.v 1] 6 qga
(.split 6
(xw 0 [.v 2] 7 qga
(.split 7
(xw 0 [.v 3] 8 qga
(.ret [.v 8]))
(.ret [.n 0])))
(.ret [.n 0])))
(.ret [.n 0])))
theorem Qvm(f1 f:FuncId)(e:Nat->Int):Qze.Xat [Qof f1] ⟨fun ys=>ys=(Qh8 f).sem [e 0,e 1,e 2,e 3,e 4],[]⟩ e:=by
 show Qze.Xat _ ⟨fun ys=>ys=[bj ((e 0<bP/\e 1<bP)/\(e 2<bP/\e 3<bP))],[]⟩ e;refine⟨trivial,?_⟩;intro a5 k5;have q5:=(show e 5=bj ((e 0)<bP)from a5)
 clear a5 k5;refine⟨fun h=>?_,fun h=>?_⟩
 ·have c5:=h;have u0:e 0<bP:=Qcp q5 c5;refine⟨trivial,?_⟩;intro a6 k6;have q6:=(show e 6=bj ((e 1)<bP)from a6)
  clear a6 k6;refine⟨fun h=>?_,fun h=>?_⟩
  ·have c6:=h;have u1:e 1<bP:=Qcp q6 c6;refine⟨trivial,?_⟩;intro a7 k7;have q7:=(show e 7=bj ((e 2)<bP)from a7)
   clear a7 k7;refine⟨fun h=>?_,fun h=>?_⟩
   ·have c7:=h;have u2:e 2<bP:=Qcp q7 c7;refine⟨trivial,?_⟩;intro a8 k8;have q8:=(show e 8=bj ((e 3)<bP)from a8)
    clear a8 k8;show[e 8]=_;rw[q8];exact congrArg (fun x=>[x]) (Qbw ⟨fun h=>⟨⟨u0,u1⟩,u2,h⟩,fun h=>h.2.2⟩)
   ·have c7:=h;have u2:¬e 2<bP:=Qly q7 c7;show[(0:Int)]=_;rw[Qcj (fun h=>u2 h.2.1)]
  ·have c6:=h;have u1:¬e 1<bP:=Qly q6 c6;show[(0:Int)]=_;rw[Qcj (fun h=>u1 h.1.2)]
 ·have c5:=h;have u0:¬e 0<bP:=Qly q5 c5;show[(0:Int)]=_;rw[Qcj (fun h=>u0 h.1.1)]
def Zvo:Qq:=(xw 0 [.v 0,.v 1] 101 Yo
(xw 0 [.v 2,.v 3] 245 Yo
(.ret [.v 101,.v 102,.v 245,.v 246,.v 4])))
theorem Zlg(f1 f:FuncId)(e:Nat->Int):Zvo.Xat [Qhi f1] ⟨fun ys=>ys=(Zn6 f).sem [e 0,e 1,e 2,e 3,e 4],[]⟩ e:=by
 show Zvo.Xat _ ⟨fun ys=>ys=[Qr (e 0),Qr (e 1),Qr (e 2),Qr (e 3),e 4],[]⟩ e;refine⟨trivial,?_⟩;intro a101 k101;have q101:=(show e 101=Qr (e 0)from a101)
 clear a101 k101;intro a102 k102;have q102:=(show e 102=Qr (e 1)from a102)
 clear a102 k102;refine⟨trivial,?_⟩;intro a245 k245;have q245:=(show e 245=Qr (e 2)from a245)
 clear a245 k245;intro a246 k246;have q246:=(show e 246=Qr (e 3)from a246)
 clear a246 k246;show[e 101,e 102,e 245,e 246,e 4]=_;rw[q101,q102,q245,q246]
theorem Qok{a:Int}(h0:0<=a)(h1:a<bP):Qr a=0↔a=0:=Qbd.trans (by rw[Oy h0 h1])
theorem Qsd{a:Int}(h0:0<=a)(h1:a<bP):Qo (Qr a)=a:=by rw[Xv];exact Oy h0 h1
theorem Qpy{a b c d z:Int}(ha:0<=a)(hb:0<=b)(hc:0<=c)(hd:0<=d)(h:(a<bP/\b<bP)/\(c<bP/\d<bP)):Qdl (Qr a) (Qr b) (Qr c) (Qr d) z↔Qhl a b c d z:=by
 by_cases hz:z=0
 ·rw[Zeh hz,Qdt hz,Qsd ha h.1.1,Qsd hb h.1.2,Qsd hc h.2.1,Qsd hd h.2.2];exact⟨fun x=>⟨h,x⟩,fun x=>x.2⟩
 ·rw[Quh hz,Qiz hz,Qok ha h.1.1,Qok hb h.1.2,Qok hc h.2.1,Qok hd h.2.2];exact⟨fun x=>⟨h,x⟩,fun x=>x.2⟩
theorem Qzw{a b c d z:Int}(ha:0<=a)(hb:0<=b)(hc:0<=c)(hd:0<=d)(h:(a<bP/\b<bP)/\(c<bP/\d<bP)):Qhj (Qr a) (Qr b) (Qr c) (Qr d) z=Qi2 a b c d z:=by
 unfold Qhj Qi2;rw[Qsd ha h.1.1,Qsd hb h.1.2,Qsd hc h.2.1,Qsd hd h.2.2]
def Zp1:Qq:=(xw 0 [.v 0,.v 1,.v 2,.v 3,.v 4] 53 qga
(.split 53
(xw 1 [] 149 [.num,.num,.num,.num]
(xw 2 [.v 0,.v 1,.v 2,.v 3,.v 4] 245 qfa
(xw 3 [.v 149,.v 150,.v 151,.v 152,.v 245,.v 246,.v 247,.v 248,.v 249] 293 qga
(.ret [.v 293]))))
(.ret [.n 0])))
theorem Zi9(o:Fo)(f1 f2 f3 f4 f:FuncId)(e:Nat->Int)(hk:Q0 [.num,.num,.num,.num,.bit] [e 0,e 1,e 2,e 3,e 4]):Zp1.Xat [Qh8 f1,Qh2 o f2,Zn6 f3,Qyq o f4] ⟨fun ys=>ys=(Zhp f).sem [e 0,e 1,e 2,e 3,e 4],[]⟩ e:=by
 obtain⟨h0,h1,h2,h3,_⟩:=hk;show Zp1.Xat _ ⟨fun ys=>ys=[bj (Zbf (e 0) (e 1) (e 2) (e 3) (e 4))],[]⟩ e;refine⟨trivial,?_⟩;intro a53 k53;have q53:=(show e 53=bj (((e 0)<bP/\(e 1)<bP)/\((e 2)<bP/\(e 3)<bP))from a53)
 clear a53 k53;refine⟨fun h=>?_,fun h=>?_⟩
 ·have c53:=h;have u:(e 0<bP/\e 1<bP)/\(e 2<bP/\e 3<bP):=Qcp q53 c53;refine⟨trivial,?_⟩;intro a149 k149;have q149:=(show e 149=Qr 1 from a149)
  clear a149 k149;intro a150 k150;have q150:=(show e 150=(0:Int)from a150)
  clear a150 k150;intro a151 k151;have q151:=(show e 151=Qr 4 from a151)
  clear a151 k151;intro a152 k152;have q152:=(show e 152=Qr 4 from a152)
  clear a152 k152;refine⟨trivial,?_⟩;intro a245 k245;have q245:=(show e 245=Qr (e 0)from a245)
  clear a245 k245;intro a246 k246;have q246:=(show e 246=Qr (e 1)from a246)
  clear a246 k246;intro a247 k247;have q247:=(show e 247=Qr (e 2)from a247)
  clear a247 k247;intro a248 k248;have q248:=(show e 248=Qr (e 3)from a248)
  clear a248 k248;intro a249 k249;have q249:=(show e 249=(e 4)from a249)
  clear a249 k249;refine⟨⟨⟨q149,q150⟩,⟨q151,q152⟩,⟨Q6 q245,Q6 q246⟩,Q6 q247,Q6 q248⟩,?_⟩;intro a293 k293;have q293:=(show e 293=bj (Qdl (e 245) (e 246) (e 247) (e 248) (e 249)/\R2.isz (W5 R2 (Qhj (e 245) (e 246) (e 247) (e 248) (e 249)) 384 Xs.toNat).z=true)from a293)
  clear a293 k293;show[e 293]=_;rw[q245,q246,q247,q248,q249,Qzw h0.1 h1.1 h2.1 h3.1 u]at q293;rw[q293];exact congrArg (fun x=>[x]) (Qbw ⟨fun h=>⟨(Qpy h0.1 h1.1 h2.1 h3.1 u).1 h.1,h.2⟩,fun h=>⟨(Qpy h0.1 h1.1 h2.1 h3.1 u).2 h.1,h.2⟩⟩)
 ·have c53:=h;have u:¬((e 0<bP/\e 1<bP)/\(e 2<bP/\e 3<bP)):=Qly q53 c53;show[(0:Int)]=_;rw[Qcj (fun h=>u h.1.1)]
def Qyk(f:FuncId):K:={fn:=f,ext:=false,ins:=[.agg Qby],outs:=[.agg Qby],pre:=fun|[a,b,c,d,_]=>(a<bP/\b<bP)/\(c<bP/\d<bP)|_=>False,sem:=fun|[a,b,c,d,z]=>[Qo a,Qo b,Qo c,Qo d,z]|_=>[] }
def Zws:Qq:=(xw 0 [.v 0,.v 1] 101 Yo
(xw 0 [.v 2,.v 3] 245 Yo
(.ret [.v 101,.v 102,.v 245,.v 246,.v 4])))
theorem Zeq(f1 f:FuncId)(e:Nat->Int)(hp:(Qyk f).pre [e 0,e 1,e 2,e 3,e 4]):Zws.Xat [Qao f1] ⟨fun ys=>ys=(Qyk f).sem [e 0,e 1,e 2,e 3,e 4],[]⟩ e:=by
 obtain⟨⟨u0,u1⟩,u2,u3⟩:(e 0<bP/\e 1<bP)/\(e 2<bP/\e 3<bP):=hp;refine⟨⟨u0,u1⟩,fun a1 _ a2 _=>⟨⟨u2,u3⟩,fun a3 _ a4 _=>?_⟩⟩;show[e 101,e 102,e 245,e 246,e 4]=[Qo (e 0),Qo (e 1),Qo (e 2),Qo (e 3),e 4]
 rw[show e 101=Qo (e 0)from a1,show e 102=Qo (e 1)from a2,show e 245=Qo (e 2)from a3,show e 246=Qo (e 3)from a4]
noncomputable def cq(c:Int)(i:Nat):Int:=(dec c).getD i 0
def Qux:LK:=.tup .num [.num,.num,.num,.bit]
noncomputable def rsC(c:Int):J E2:=Qhj (cq c 0) (cq c 1) (cq c 2) (cq c 3) (cq c 4)
noncomputable def V9(l n:List Int)(i:Nat):J E2:=((l.zip n).take i).foldl (fun acc p=>J.md R2 (Wo R2 acc (W5 R2 (rsC p.1) 384 p.2.toNat))) (oJ R2)
theorem Qrd{l n:List Int}{i:Nat}(h:i<l.length)(hl:l.length=n.length):V9 l n (i+1)=J.md R2 (Wo R2 (V9 l n i) (W5 R2 (rsC (l.getD i 0)) 384 (n.getD i 0).toNat)):=by
 have hz:i<(l.zip n).length:=by rw[List.length_zip];omega
 unfold V9;rw[Ki hz,List.foldl_append,List.getElem_zip,getD_lt h,getD_lt (by omega)];rfl
def Qh3(l:List Int):Prop:=∀c∈l,((cq c 0<bP/\cq c 1<bP)/\(cq c 2<bP/\cq c 3<bP))/\Qdl (cq c 0) (cq c 1) (cq c 2) (cq c 3) (cq c 4)
noncomputable def J9(o:Fo)(f:FuncId):K:={fn:=f,ext:=false,ins:=[.agg o.ls2,.lst Qux,.lst .num],outs:=[.agg Qby,oI],pre:=fun|[u,v,s,t,l,n]=>(u=Qr 1/\v=0)/\(s=Qr 4/\t=Qr 4)/\(dec l).length=(dec n).length/\Qh3 (dec l)|_=>False,sem:=fun|[_,_,_,_,l,n]=>Yi (V9 (dec l) (dec n) (dec l).length)++[0]|_=>[] }
theorem Zly{A B:E2}(h:S2 A B):S2 (Zk A) (Zk B):=by
 have hn:nrm A.1 A.2%bP=nrm B.1 B.2%bP:=U8 (Xz (Q4 h.1 h.1) (Q4 h.2 h.2)) _;exact⟨Q4 h.1 hn,Ua (Q4 h.2 hn)⟩
def B3(P:J E2):E2×E2:=if P.z.1%bP=0/\P.z.2%bP=0 then((0,0),(0,0))else(R2.mul P.x (R2.mul (Zk P.z) (Zk P.z)),R2.mul P.y (R2.mul (R2.mul (Zk P.z) (Zk P.z)) (Zk P.z)))
def Qin(P:J E2):Int:=if P.z.1%bP=0/\P.z.2%bP=0 then 1 else 0
theorem B0(P:J E2):Yi P=[Qr (B3 P).1.1,Qr (B3 P).1.2,Qr (B3 P).2.1,Qr (B3 P).2.2,Qin P]:=by
 unfold Yi B3 Qin;by_cases h:P.z.1%bP=0/\P.z.2%bP=0
 ·rw[if_pos h,if_pos h,if_pos h,Qmo]
 ·rw[if_neg h,if_neg h,if_neg h]
theorem By(P:J E2):Ba P=[(B3 P).1.1%bP,(B3 P).1.2%bP,(B3 P).2.1%bP,(B3 P).2.2%bP,Qin P]:=by
 unfold Ba B3 Qin;by_cases h:P.z.1%bP=0/\P.z.2%bP=0
 ·rw[if_pos h,if_pos h,if_pos h];rfl
 ·rw[if_neg h,if_neg h,if_neg h]
theorem Qyd{P Q:J E2}(h:JS P Q):(S2 (B3 P).1 (B3 Q).1/\S2 (B3 P).2 (B3 Q).2)/\Qin P=Qin Q:=by
 unfold B3 Qin;have hz:(P.z.1%bP=0/\P.z.2%bP=0)↔(Q.z.1%bP=0/\Q.z.2%bP=0):=by rw[h.2.2.1,h.2.2.2]
 by_cases hq:Q.z.1%bP=0/\Q.z.2%bP=0
 ·rw[if_pos hq,if_pos (hz.2 hq),if_pos hq,if_pos (hz.2 hq)];exact⟨⟨Ww _,Ww _⟩,rfl⟩
 ·have hp:=fun hc=>hq (hz.1 hc)
  rw[if_neg hq,if_neg hp,if_neg hq,if_neg hp];have i:=Zly h.2.2;have s:=Q3 i i;exact⟨⟨Q3 h.1 s,Q3 h.2.1 (Q3 s i)⟩,rfl⟩
theorem Zfe{P Q:J E2}(h:JS P Q):Yi P=Yi Q:=by
 obtain⟨⟨h1,h2⟩,h3⟩:=Qyd h;rw[B0,B0,Z3 h1.1,Z3 h1.2,Z3 h2.1,Z3 h2.2,h3]
theorem Zew{P Q:J E2}(h:JS P Q):Ba P=Ba Q:=by
 obtain⟨⟨h1,h2⟩,h3⟩:=Qyd h;rw[By,By,h1.1,h1.2,h2.1,h2.2,h3]
def Zr3:Qq:=(.l 6 kI (.llen (.v 4))
(.l 7 kI (.llen (.v 5))
(.l 8 .bit (.c .neq (.v 6) (.v 7))
(.split 8
(.ret [.n 0,.n 0,.n 0,.n 0,.n 0,.n 2])
(.l 9 kI (.llen (.v 4))
(.loop [.n 0] [kI] 10
(.l 11 .bit (.c .lss (.v 10) (.v 9))
(.split 11
(.l 12 kI (.llen (.v 4))
(.l 13 .bit (.c .leq (.n 0) (.v 10))
(.l 14 .bit (.c .lss (.v 10) (.v 12))
(.nz (.v 13)
(.nz (.v 14)
(.l 15 .any (.lget (.v 4) (.v 10))
(.l 16 .num (.lget (.v 15) (.n 0))
(.l 17 .num (.lget (.v 15) (.n 1))
(.l 18 .num (.lget (.v 15) (.n 2))
(.l 19 .num (.lget (.v 15) (.n 3))
(.l 20 .bit (.lget (.v 15) (.n 4))
(xw 0 [.v 0,.v 1,.v 2,.v 3,.v 16,.v 17,.v 18,.v 19,.v 20] 21 qga
(.l 22 .bit (.not (.v 21))
(.split 22
(.ret [.n 0,.n 0,.n 0,.n 0,.n 0,.n 5])
(.l 23 kI (.b .add .i64 (.v 10) (.n 1))
(.back 0 [.v 23]))))))))))))))))
(.l 12 kI (.llen (.v 4))
(.loop [.n 0,.v 0,.v 1,.v 0,.v 1,.n 0,.n 0] [kI,.num,.num,.num,.num,.num,.num] 13
(.l 20 .bit (.c .lss (.v 13) (.v 12))
(.split 20
(.l 21 kI (.llen (.v 4))
(.l 22 .bit (.c .leq (.n 0) (.v 13))
(.l 23 .bit (.c .lss (.v 13) (.v 21))
(.nz (.v 22)
(.nz (.v 23)
(.l 24 .any (.lget (.v 4) (.v 13))
(.l 25 .num (.lget (.v 24) (.n 0))
(.l 26 .num (.lget (.v 24) (.n 1))
(.l 27 .num (.lget (.v 24) (.n 2))
(.l 28 .num (.lget (.v 24) (.n 3))
(.l 29 .bit (.lget (.v 24) (.n 4))
(xw 3 [.v 0,.v 1,.v 2,.v 3,.v 25,.v 26,.v 27,.v 28,.v 29] 270 qda
(.l 414 kI (.llen (.v 5))
(.l 415 .bit (.c .leq (.n 0) (.v 13))
(.l 416 .bit (.c .lss (.v 13) (.v 414))
(.nz (.v 415)
(.nz (.v 416)
(.l 462 .num (.lget (.v 5) (.v 13))
(xw 2 [.v 0,.v 1,.v 2,.v 3,.v 270,.v 271,.v 272,.v 273,.v 274,.v 275,.v 462] 510 qda
(xw 1 [.v 0,.v 1,.v 2,.v 3,.v 14,.v 15,.v 16,.v 17,.v 18,.v 19,.v 510,.v 511,.v 512,.v 513,.v 514,.v 515] 558 qda
(.l 654 kI (.b .add .i64 (.v 13) (.n 1))
(.back 1 [.v 654,.v 558,.v 559,.v 560,.v 561,.v 562,.v 563]))))))))))))))))))))))
(xw 4 [.v 0,.v 1,.v 2,.v 3,.v 14,.v 15,.v 16,.v 17,.v 18,.v 19] 21 qfa
(.ret [.v 21,.v 22,.v 23,.v 24,.v 25,.n 0]))))))))))))))
theorem Zch(o:Fo)(f1 f2 f3 f4 f5 f:FuncId)(e:Nat->Int)(hk:Q0 [.num,.num,.num,.num,.lst Qux,.lst .num] [e 0,e 1,e 2,e 3,e 4,e 5])(hp:(J9 o f).pre [e 0,e 1,e 2,e 3,e 4,e 5]):Zr3.Xat [Zen o f1,Qjv o f2,Qef o f3,Qh1 o f4,Qew o f5] ⟨fun ys=>ys=(J9 o f).sem [e 0,e 1,e 2,e 3,e 4,e 5],[]⟩ e:=by
 obtain⟨q0,q2,hlen,hok⟩:(e 0=Qr 1/\e 1=0)/\(e 2=Qr 4/\e 3=Qr 4)/\(dec (e 4)).length=(dec (e 5)).length/\Qh3 (dec (e 4)):=hp;obtain⟨l,d4⟩:∃l,dec (e 4)=l:=⟨_,rfl⟩
 obtain⟨n,d5⟩:∃n,dec (e 5)=n:=⟨_,rfl⟩
 have hll:l.length<=9223372036854775807:=by rw[<- d4];exact hk.2.2.2.2.1.1
 have hr:(J9 o f).sem [e 0,e 1,e 2,e 3,e 4,e 5]=Yi (V9 l n l.length)++[0]:=by rw[<- d4,<- d5];rfl
 rw[hr];rw[d4,d5]at hlen;rw[d4]at hok;clear hr hk;intro a6 _ a7 _ a8 _;have v6:e 6=(l.length:Int):=by rw[<- d4];exact a6
 have v7:e 7=(n.length:Int):=by rw[<- d5];exact a7
 have b8:=Qfl a8;simp only[Ql]at b8;refine⟨fun h=>by omega,fun _=>?_⟩;intro a9 _;have v9:e 9=(l.length:Int):=by rw[<- d4];exact a9
 clear a6 a7 a8 b8 a9 v6 v7;refine⟨fun|[i]=>0<=i/\i<=l.length|_=>False,fun|[i]=>(l.length-i).toNat|_=>0,⟨Int.le_refl _,(show(0:Int)<=l.length by omega)⟩,fun e' he hkk hI=>?_⟩;obtain⟨i0,i1⟩:0<=e' 10/\e' 10<=l.length:=hI;have v9:=(he 9 (by decide)).trans v9;have q0:e' 0=Qr 1/\e' 1=0:=⟨(he 0 (by decide)).trans q0.1,(he 1 (by decide)).trans q0.2⟩
 have q2:e' 2=Qr 4/\e' 3=Qr 4:=⟨(he 2 (by decide)).trans q2.1,(he 3 (by decide)).trans q2.2⟩
 have d4:=(congrArg dec (he 4 (by decide))).trans d4;have d5:=(congrArg dec (he 5 (by decide))).trans d5;clear he hkk;intro a11 _;have b11:=Zj a11;simp only[Ql]at b11;refine⟨fun hs=>?_,fun hs=>?_⟩
 ·have c11:e' 10<l.length:=by omega
  intro a12 _ a13 _ a14 _;have v12:e' 12=(l.length:Int):=by rw[<- d4];exact a12
  refine⟨Xf a13 i0,Xi a14 (by show e' 10<e' 12;omega),fun a15 _ a16 k16 a17 k17 a18 k18 a19 k19 a20 _=>?_⟩;have v15:e' 15=l.getD (e' 10).toNat 0:=by rw[<- d4];exact a15
  have hm:e' 15∈l:=by rw[v15,getD_lt (by omega)];exact Kk _
  have v16:e' 16=cq (e' 15) 0:=a16;have v17:e' 17=cq (e' 15) 1:=a17;have v18:e' 18=cq (e' 15) 2:=a18;have v19:e' 19=cq (e' 15) 3:=a19;have v20:e' 20=cq (e' 15) 4:=a20;have ho:=hok _ hm;rw[<- v16,<- v17,<- v18,<- v19,<- v20]at ho;refine⟨⟨q2,ho.1.1,ho.1.2⟩,fun a21 _ a22 _=>?_⟩;have v21:e' 21=bj (Qdl (e' 16) (e' 17) (e' 18) (e' 19) (e' 20)):=a21;rw[Ql9 ho.2]at v21;have b22:=Ju a22;simp only[Ql]at b22;refine⟨fun h=>by omega,fun _=>?_⟩;intro a23 _;have v23:e' 23=e' 10+1:=by
   have h:e' 23=Qm .add .i64 (e' 10) 1:=a23;rw[h];simp only[Qm,wr];omega
  show(0<=e' 23/\e' 23<=l.length)/\(l.length-e' 23).toNat<(l.length-e' 10).toNat;omega
 ·intro a12 _;have v12:e' 12=(l.length:Int):=by rw[<- d4];exact a12
  clear a11 b11 a12;refine⟨fun|[i,a,b,c,d,x,y]=>0<=i/\i<=l.length/\[a,b,c,d,x,y]=(V9 l n i.toNat).e2|_=>False,fun|[i,_,_,_,_,_,_]=>(l.length-i).toNat|_=>0,⟨Int.le_refl _,(show(0:Int)<=l.length by omega),?_⟩,fun e'' he hkk hI=>?_⟩
  ·show[e' 0,e' 1,e' 0,e' 1,0,0]=(oJ R2).e2;rw[q0.1,q0.2,Zho]
  ·obtain⟨i0,i1,i2⟩:0<=e'' 13/\e'' 13<=l.length/\[e'' 14,e'' 15,e'' 16,e'' 17,e'' 18,e'' 19]=(V9 l n (e'' 13).toNat).e2:=hI;have v12:=(he 12 (by decide)).trans v12;have q0:e'' 0=Qr 1/\e'' 1=0:=⟨(he 0 (by decide)).trans q0.1,(he 1 (by decide)).trans q0.2⟩
   have d4:=(congrArg dec (he 4 (by decide))).trans d4;have d5:=(congrArg dec (he 5 (by decide))).trans d5;clear he hkk;intro a20 _;have b20:=Zj a20;simp only[Ql]at b20;refine⟨fun hs=>?_,fun hs=>?_⟩
   ·have c20:e'' 13<l.length:=by omega
    intro a21 _ a22 _ a23 _;have v21:e'' 21=(l.length:Int):=by rw[<- d4];exact a21
    refine⟨Xf a22 i0,Xi a23 (by show e'' 13<e'' 21;omega),fun a24 _ a25 k25 a26 k26 a27 k27 a28 k28 a29 _=>?_⟩;have v24:e'' 24=l.getD (e'' 13).toNat 0:=by rw[<- d4];exact a24
    have hm:e'' 24∈l:=by rw[v24,getD_lt (by omega)];exact Kk _
    have v25:e'' 25=cq (e'' 24) 0:=a25;have v26:e'' 26=cq (e'' 24) 1:=a26;have v27:e'' 27=cq (e'' 24) 2:=a27;have v28:e'' 28=cq (e'' 24) 3:=a28;have v29:e'' 29=cq (e'' 24) 4:=a29;have ho:=hok _ hm;rw[<- v25,<- v26,<- v27,<- v28,<- v29]at ho;refine⟨trivial,fun r0 _ r1 _ r2 _ r3 _ r4 _ r5 _ a414 _ a415 _ a416 _=>?_⟩;have hR:[e'' 270,e'' 271,e'' 272,e'' 273,e'' 274,e'' 275]=(rsC (e'' 24)).e2:=by
     have h1:rsC (e'' 24)=Qhj (e'' 25) (e'' 26) (e'' 27) (e'' 28) (e'' 29):=by rw[v25,v26,v27,v28,v29];rfl
     rw[h1,<- Qrg ⟨⟨k25.1,ho.1.1.1⟩,⟨k26.1,ho.1.1.2⟩⟩ ⟨⟨k27.1,ho.1.2.1⟩,⟨k28.1,ho.1.2.2⟩⟩,<- q0.1,<- q0.2];rw[show e'' 270=_ from r0,show e'' 271=_ from r1,show e'' 272=_ from r2,show e'' 273=_ from r3,show e'' 274=_ from r4,show e'' 275=_ from r5];show[(if e'' 29=0 then[e'' 25,e'' 26,e'' 27,e'' 28,e'' 0,e'' 1]else[e'' 0,e'' 1,e'' 0,e'' 1,0,0]).getD 0 0,(if e'' 29=0 then[e'' 25,e'' 26,e'' 27,e'' 28,e'' 0,e'' 1]else[e'' 0,e'' 1,e'' 0,e'' 1,0,0]).getD 1 0,(if e'' 29=0 then[e'' 25,e'' 26,e'' 27,e'' 28,e'' 0,e'' 1]else[e'' 0,e'' 1,e'' 0,e'' 1,0,0]).getD 2 0,(if e'' 29=0 then[e'' 25,e'' 26,e'' 27,e'' 28,e'' 0,e'' 1]else[e'' 0,e'' 1,e'' 0,e'' 1,0,0]).getD 3 0,(if e'' 29=0 then[e'' 25,e'' 26,e'' 27,e'' 28,e'' 0,e'' 1]else[e'' 0,e'' 1,e'' 0,e'' 1,0,0]).getD 4 0,(if e'' 29=0 then[e'' 25,e'' 26,e'' 27,e'' 28,e'' 0,e'' 1]else[e'' 0,e'' 1,e'' 0,e'' 1,0,0]).getD 5 0]=_;by_cases h0:e'' 29=0
     ·simp only[if_pos h0,q0.2];rfl
     ·simp only[if_neg h0,q0.2];rfl
    have v414:e'' 414=(n.length:Int):=by rw[<- d5];exact a414
    refine⟨Xf a415 i0,Xi a416 (by show e'' 13<e'' 414;omega),fun a462 _=>⟨⟨q0,Qhe hR⟩,fun t0 _ t1 _ t2 _ t3 _ t4 _ t5 _=>?_⟩⟩;have v462:e'' 462=n.getD (e'' 13).toNat 0:=by rw[<- d5];exact a462
    have hT:[e'' 510,e'' 511,e'' 512,e'' 513,e'' 514,e'' 515]=(W5 R2 (rsC (e'' 24)) 384 (e'' 462).toNat).e2:=by
     rw[show e'' 510=_ from t0,show e'' 511=_ from t1,show e'' 512=_ from t2,show e'' 513=_ from t3,show e'' 514=_ from t4,show e'' 515=_ from t5];exact(show _=(W5 R2 (Yf (e'' 270) (e'' 271) (e'' 272) (e'' 273) (e'' 274) (e'' 275)) 384 (e'' 462).toNat).e2 from rfl).trans (Zko (Qg7 hR) _ _).e2
    refine⟨⟨q0,Qhe i2,Qhe hT⟩,fun s0 _ s1 _ s2 _ s3 _ s4 _ s5 _ a654 _=>?_⟩;have hS:[e'' 558,e'' 559,e'' 560,e'' 561,e'' 562,e'' 563]=(J.md R2 (Wo R2 (V9 l n (e'' 13).toNat) (W5 R2 (rsC (e'' 24)) 384 (e'' 462).toNat))).e2:=by
     rw[show e'' 558=_ from s0,show e'' 559=_ from s1,show e'' 560=_ from s2,show e'' 561=_ from s3,show e'' 562=_ from s4,show e'' 563=_ from s5];exact(show _=(Wo R2 (Yf (e'' 14) (e'' 15) (e'' 16) (e'' 17) (e'' 18) (e'' 19)) (Yf (e'' 510) (e'' 511) (e'' 512) (e'' 513) (e'' 514) (e'' 515))).e2 from rfl).trans ((Qv9 (Qg7 i2) (Qg7 hT)).trans (Qmk _).symm).e2
    have v654:e'' 654=e'' 13+1:=by
     have h:e'' 654=Qm .add .i64 (e'' 13) 1:=a654;rw[h];simp only[Qm,wr];omega
    show(0<=e'' 654/\e'' 654<=l.length/\[e'' 558,e'' 559,e'' 560,e'' 561,e'' 562,e'' 563]=(V9 l n (e'' 654).toNat).e2)/\(l.length-e'' 654).toNat<(l.length-e'' 13).toNat;refine⟨⟨by omega,by omega,?_⟩,by omega⟩;rw[v654,show(e'' 13+1).toNat=(e'' 13).toNat+1 by omega,Qrd (by omega) hlen,<- v24,<- v462,hS]
   ·refine⟨Qhe i2,fun a21 _ a22 _ a23 _ a24 _ a25 _=>?_⟩;have r1:[e'' 21,e'' 22,e'' 23,e'' 24,e'' 25]=Yi (Yf (e'' 14) (e'' 15) (e'' 16) (e'' 17) (e'' 18) (e'' 19)):=by
     rw[B0];rw[show e'' 21=(Yi (Yf (e'' 14) (e'' 15) (e'' 16) (e'' 17) (e'' 18) (e'' 19))).getD 0 0 from a21,show e'' 22=(Yi (Yf (e'' 14) (e'' 15) (e'' 16) (e'' 17) (e'' 18) (e'' 19))).getD 1 0 from a22,show e'' 23=(Yi (Yf (e'' 14) (e'' 15) (e'' 16) (e'' 17) (e'' 18) (e'' 19))).getD 2 0 from a23,show e'' 24=(Yi (Yf (e'' 14) (e'' 15) (e'' 16) (e'' 17) (e'' 18) (e'' 19))).getD 3 0 from a24,show e'' 25=(Yi (Yf (e'' 14) (e'' 15) (e'' 16) (e'' 17) (e'' 18) (e'' 19))).getD 4 0 from a25,B0];rfl
    rw[Zfe (Qg7 i2),show(e'' 13).toNat=l.length by omega]at r1;show[e'' 21,e'' 22,e'' 23,e'' 24,e'' 25,0]=Yi (V9 l n l.length)++[0]
    rw[<- r1];rfl
end Go.Sx
