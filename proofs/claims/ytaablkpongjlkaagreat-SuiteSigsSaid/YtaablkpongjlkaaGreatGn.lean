/- Part Gn of the proof. -/
import Derived.Test.YtaablkpongjlkaaGreatGm
import Derived.Test.YtaablkpongjlkaaGreatGj
set_option linter.unusedVariables false
set_option linter.unusedSimpArgs false
namespace Go.Sx
open Go Go.RowKit
set_option maxRecDepth 100000
def kE2Conj (f:FuncId):K:={fn:=f,ext:=false,ins:=[iE2],outs:=[oE2],pre:=fun | [_,b]=>b<bP | _=>False,sem:=fun | [a,b]=>[a,toE (-ofE b)] | _=>[] }
def kE2Inv (f:FuncId):K:={fn:=f,ext:=false,ins:=[iE2],outs:=[oE2],pre:=fun | [a,b]=>a<bP/\b<bP | _=>False,sem:=fun | [a,b]=>[toE (inv2 (ofE a,ofE b)).1,toE (inv2 (ofE a,ofE b)).2] | _=>[] }
theorem Eneg {v a A:Int} (h:v=toE (-ofE a)) (ha:a=toE A):v=toE (-A):=h.trans (toE_md (mdE_neg (E_ofm ha)))
def tE2Conj:Tree:=(.req 0 [.var 1]
(.lett 194 .num (.app 0 0 [.var 1])
(.ret [.var 0,.var 194])))
theorem law_e2Conj (f1 f:FuncId) (e:Nat->Int) (hk:kkHas [.num,.num] [e 0,e 1]) (hp:(kE2Conj f).pre [e 0,e 1]):tE2Conj.says [kENeg f1] ⟨fun ys=>ys=(kE2Conj f).sem [e 0,e 1],[]⟩ e:=by
 have u1:e 1<bP:=hp
 show tE2Conj.says _ ⟨fun ys=>ys=[e 0,toE (-ofE (e 1))],[]⟩ e
 refine ⟨u1,?_⟩
 intro a194 k194
 have q194:=(show e 194=toE (-ofE (e 1)) from a194)
 clear a194 k194
 show [e 0,e 194]=_
 rw [q194]
def tE2Inv:Tree:=(.req 1 [.var 0,.var 1]
(.lett 50 .num (.app 1 0 [.var 0,.var 1])
(.lett 51 .num (.app 1 1 [.var 0,.var 1])
(.req 3 [.var 0,.var 1]
(.lett 146 .num (.app 3 0 [.var 0,.var 1])
(.req 2 [.var 146]
(.lett 194 .num (.app 2 0 [.var 146])
(.req 0 [.var 50,.var 51,.var 194]
(.lett 242 .num (.app 0 0 [.var 50,.var 51,.var 194])
(.lett 243 .num (.app 0 1 [.var 50,.var 51,.var 194])
(.ret [.var 242,.var 243])))))))))))
theorem law_e2Inv (f1 f2 f3 f4 f:FuncId) (e:Nat->Int) (hk:kkHas [.num,.num] [e 0,e 1]) (hp:(kE2Inv f).pre [e 0,e 1]):tE2Inv.says [kE2Scale f1,kE2Conj f2,kEInv f3,kE2Norm f4] ⟨fun ys=>ys=(kE2Inv f).sem [e 0,e 1],[]⟩ e:=by
 obtain ⟨u0,u1⟩:e 0<bP/\e 1<bP:=hp
 obtain ⟨h0,h1,_⟩:=hk
 have q0:=E_of h0.1 u0
 have q1:=E_of h1.1 u1
 have hnm:∀ x y n:Int,-y*n=-(y*n):=fun x y n=>Int.neg_mul y n
 show tE2Inv.says _ ⟨fun ys=>ys=[toE (inv2 (ofE (e 0),ofE (e 1))).1,toE (inv2 (ofE (e 0),ofE (e 1))).2],[]⟩ e
 refine ⟨u1,?_⟩
 intro a50 k50
 have q50:=(show e 50=toE (ofE (e 0)) from (show e 50=e 0 from a50).trans q0)
 clear a50 k50
 intro a51 k51
 have q51:=Eneg (show e 51=toE (-ofE (e 1)) from a51) q1
 clear a51 k51
 refine ⟨⟨u0,u1⟩,?_⟩
 intro a146 k146
 have q146:=(show e 146=toE (ofE (e 0)*ofE (e 0)+ofE (e 1)*ofE (e 1)) from a146)
 clear a146 k146
 refine ⟨E_lt q146,?_⟩
 intro a194 k194
 have q194:=Epow (show e 194=toE (ofE (e 146)^(bP-2).toNat) from a194) q146
 clear a194 k194
 refine ⟨⟨E_lt q50,E_lt q51,E_lt q194⟩,?_⟩
 intro a242 k242
 have q242:=Emul (show e 242=toE (ofE (e 50)*ofE (e 194)) from a242) q50 q194
 clear a242 k242
 intro a243 k243
 have q243:=Emul (show e 243=toE (ofE (e 51)*ofE (e 194)) from a243) q51 q194
 clear a243 k243
 show [e 242,e 243]=_
 rw [q242,q243,Int.neg_mul];rfl
theorem EQ_inv {x y a b:Int} {A:E2} (h:x=toE (inv2 (ofE a,ofE b)).1) (k:y=toE (inv2 (ofE a,ofE b)).2) (ha:EQ a b A):EQ x y (inv2 A):=by
 have hn:nrm (ofE a) (ofE b)%bP=nrm A.1 A.2%bP:=mdE_pow (mdE_add (mdE_mul (E_ofm ha.1) (E_ofm ha.1)) (mdE_mul (E_ofm ha.2) (E_ofm ha.2))) _
 exact ⟨h.trans (toE_md (mdE_mul (E_ofm ha.1) hn)),k.trans (toE_md (mdE_neg (mdE_mul (E_ofm ha.2) hn)))⟩
def lowE2 (P:J E2):List Int:=if P.z.1%bP=0/\P.z.2%bP=0 then [0,0,0,0,1] else
 let i:=inv2 P.z
 let s:=R2.mul i i
 let x:=R2.mul P.x s
 let y:=R2.mul P.y (R2.mul s i)
 [toE x.1,toE x.2,toE y.1,toE y.2,0]
theorem lowE2_z {P:J E2} (h:R2.isz P.z=true):lowE2 P=[0,0,0,0,1]:=if_pos (isz3.1 h)
theorem lowE2_n {P:J E2} (h:¬ R2.isz P.z=true):lowE2 P=[toE (R2.mul P.x (R2.mul (inv2 P.z) (inv2 P.z))).1,toE (R2.mul P.x (R2.mul (inv2 P.z) (inv2 P.z))).2,toE (R2.mul P.y (R2.mul (R2.mul (inv2 P.z) (inv2 P.z)) (inv2 P.z))).1,toE (R2.mul P.y (R2.mul (R2.mul (inv2 P.z) (inv2 P.z)) (inv2 P.z))).2,0]:=if_neg (fun hc=>h (isz3.2 hc))
def kLower2 (o:Fo) (f:FuncId):K:={fn:=f,ext:=false,ins:=[.agg o.ls2,.agg ls6],outs:=[.agg lsQ2],pre:=fun | [_,_,_,_,a,b,c,d,x,y]=>(a<bP/\b<bP)/\(c<bP/\d<bP)/\(x<bP/\y<bP) | _=>False,sem:=fun | [_,_,_,_,a,b,c,d,x,y]=>lowE2 (ofJ2 a b c d x y) | _=>[] }
def t2Lower:Tree:=(.lett 10 .bit (.eqs [((.limb 8 0),(.lit 0)),((.limb 8 1),(.lit 0)),((.limb 8 2),(.lit 0)),((.limb 8 3),(.lit 0)),((.limb 8 4),(.lit 0)),((.limb 8 5),(.lit 0)),((.limb 9 0),(.lit 0)),((.limb 9 1),(.lit 0)),((.limb 9 2),(.lit 0)),((.limb 9 3),(.lit 0)),((.limb 9 4),(.lit 0)),((.limb 9 5),(.lit 0))])
(.split 10
(.ret [.lit 0,.lit 0,.lit 0,.lit 0,.lit 1])
(.req 1 [.var 8,.var 9]
(.lett 11 .num (.app 1 0 [.var 8,.var 9])
(.lett 12 .num (.app 1 1 [.var 8,.var 9])
(.req 0 [.var 11,.var 12,.var 11,.var 12]
(.lett 13 .num (.app 0 0 [.var 11,.var 12,.var 11,.var 12])
(.lett 14 .num (.app 0 1 [.var 11,.var 12,.var 11,.var 12])
(.req 0 [.var 4,.var 5,.var 13,.var 14]
(.lett 255 .num (.app 0 0 [.var 4,.var 5,.var 13,.var 14])
(.lett 256 .num (.app 0 1 [.var 4,.var 5,.var 13,.var 14])
(.req 0 [.var 13,.var 14,.var 11,.var 12]
(.lett 687 .num (.app 0 0 [.var 13,.var 14,.var 11,.var 12])
(.lett 688 .num (.app 0 1 [.var 13,.var 14,.var 11,.var 12])
(.req 0 [.var 6,.var 7,.var 687,.var 688]
(.lett 735 .num (.app 0 0 [.var 6,.var 7,.var 687,.var 688])
(.lett 736 .num (.app 0 1 [.var 6,.var 7,.var 687,.var 688])
(.ret [.var 255,.var 256,.var 735,.var 736,.lit 0]))))))))))))))))))
theorem law_lower2 (o:Fo) (f1 f2 f:FuncId) (e:Nat->Int) (hk:kkHas [.num,.num,.num,.num,.num,.num,.num,.num,.num,.num] [e 0,e 1,e 2,e 3,e 4,e 5,e 6,e 7,e 8,e 9]) (hp:(kLower2 o f).pre [e 0,e 1,e 2,e 3,e 4,e 5,e 6,e 7,e 8,e 9]):t2Lower.says [kE2Mul f1,kE2Inv f2] ⟨fun ys=>ys=(kLower2 o f).sem [e 0,e 1,e 2,e 3,e 4,e 5,e 6,e 7,e 8,e 9],[]⟩ e:=by
 obtain ⟨⟨u4,u5⟩,⟨u6,u7⟩,u8,u9⟩:(e 4<bP/\e 5<bP)/\(e 6<bP/\e 7<bP)/\(e 8<bP/\e 9<bP):=hp
 obtain ⟨_,_,_,_,h4,h5,h6,h7,h8,h9,_⟩:=hk
 have k8:=h8
 have k9:=h9
 have q5:=EQ_self h4.1 u4 h5.1 u5
 have q7:=EQ_self h6.1 u6 h7.1 u7
 have q9:=EQ_self h8.1 u8 h9.1 u9
 clear u4 u5 u6 u7 u8 u9 h4 h5 h6 h7 h8 h9
 show t2Lower.says _ ⟨fun ys=>ys=lowE2 (ofJ2 (e 4) (e 5) (e 6) (e 7) (e 8) (e 9)),[]⟩ e
 intro a10 k10
 have b10:=c_num00 a10 k8 k9
 clear a10 k10
 refine ⟨fun h=>?_,fun h=>?_⟩
 ·have c10:=h
  have z1:=Q_z q9 (b_yes b10 c10)
  show [0,0,0,0,1]=_
  rw [lowE2_z z1]
 ·have c10:=h
  have z1:=Q_nz q9 (b_no b10 c10)
  refine ⟨⟨EQ.l1 q9,EQ.l2 q9⟩,?_⟩
  intro a11 k11
  have q11:=(show e 11=toE (inv2 (ofE (e 8),ofE (e 9))).1 from a11)
  clear a11 k11
  intro a12 k12
  have q12:=EQ_inv q11 (show e 12=toE (inv2 (ofE (e 8),ofE (e 9))).2 from a12) q9
  clear a12 k12
  refine ⟨⟨EQ.l1 q12,EQ.l2 q12,EQ.l1 q12,EQ.l2 q12⟩,?_⟩
  intro a13 k13
  have q13:=(show e 13=toE (ofE (e 11)*ofE (e 11)-ofE (e 12)*ofE (e 12)) from a13)
  clear a13 k13
  intro a14 k14
  have q14:=EQ_mul q13 (show e 14=toE (ofE (e 11)*ofE (e 12)+ofE (e 12)*ofE (e 11)) from a14) q12 q12
  clear a14 k14
  refine ⟨⟨EQ.l1 q5,EQ.l2 q5,EQ.l1 q14,EQ.l2 q14⟩,?_⟩
  intro a255 k255
  have q255:=(show e 255=toE (ofE (e 4)*ofE (e 13)-ofE (e 5)*ofE (e 14)) from a255)
  clear a255 k255
  intro a256 k256
  have q256:=EQ_mul q255 (show e 256=toE (ofE (e 4)*ofE (e 14)+ofE (e 5)*ofE (e 13)) from a256) q5 q14
  clear a256 k256
  refine ⟨⟨EQ.l1 q14,EQ.l2 q14,EQ.l1 q12,EQ.l2 q12⟩,?_⟩
  intro a687 k687
  have q687:=(show e 687=toE (ofE (e 13)*ofE (e 11)-ofE (e 14)*ofE (e 12)) from a687)
  clear a687 k687
  intro a688 k688
  have q688:=EQ_mul q687 (show e 688=toE (ofE (e 13)*ofE (e 12)+ofE (e 14)*ofE (e 11)) from a688) q14 q12
  clear a688 k688
  refine ⟨⟨EQ.l1 q7,EQ.l2 q7,EQ.l1 q688,EQ.l2 q688⟩,?_⟩
  intro a735 k735
  have q735:=(show e 735=toE (ofE (e 6)*ofE (e 687)-ofE (e 7)*ofE (e 688)) from a735)
  clear a735 k735
  intro a736 k736
  have q736:=EQ_mul q735 (show e 736=toE (ofE (e 6)*ofE (e 688)+ofE (e 7)*ofE (e 687)) from a736) q7 q688
  clear a736 k736
  show [e 255,e 256,e 735,e 736,0]=_
  rw [lowE2_n z1,q256.1,q256.2,q736.1,q736.2];rfl
theorem S2R_mul {a b c d:E2} (h:S2 a b) (k:S2 c d):S2 (R2.mul a c) (R2.mul b d):=⟨mdE_sub (mdE_mul h.1 k.1) (mdE_mul h.2 k.2),mdE_add (mdE_mul h.1 k.2) (mdE_mul h.2 k.1)⟩
theorem S2R_add {a b c d:E2} (h:S2 a b) (k:S2 c d):S2 (R2.add a c) (R2.add b d):=⟨mdE_add h.1 k.1,mdE_add h.2 k.2⟩
theorem S2R_sub {a b c d:E2} (h:S2 a b) (k:S2 c d):S2 (R2.sub a c) (R2.sub b d):=⟨mdE_sub h.1 k.1,mdE_sub h.2 k.2⟩
theorem S2_refl (a:E2):S2 a a:=⟨rfl,rfl⟩
theorem S2_isz {a b:E2} (h:S2 a b):R2.isz a=R2.isz b:=by
 rw [Bool.eq_iff_iff]
 exact isz3.trans ((by rw [h.1,h.2]:(a.1%bP=0/\a.2%bP=0)↔(b.1%bP=0/\b.2%bP=0)).trans isz3.symm)
def JS (P Q:J E2):Prop:=S2 P.x Q.x/\S2 P.y Q.y/\S2 P.z Q.z
theorem JS.refl (P:J E2):JS P P:=⟨S2_refl _,S2_refl _,S2_refl _⟩
theorem JS.symm {P Q:J E2} (h:JS P Q):JS Q P:=⟨⟨h.1.1.symm,h.1.2.symm⟩,⟨h.2.1.1.symm,h.2.1.2.symm⟩,h.2.2.1.symm,h.2.2.2.symm⟩
theorem JS.trans {P Q S:J E2} (h:JS P Q) (k:JS Q S):JS P S:=⟨⟨h.1.1.trans k.1.1,h.1.2.trans k.1.2⟩,⟨h.2.1.1.trans k.2.1.1,h.2.1.2.trans k.2.1.2⟩,h.2.2.1.trans k.2.2.1,h.2.2.2.trans k.2.2.2⟩
theorem JS.e2 {P Q:J E2} (h:JS P Q):P.e2=Q.e2:=by
 unfold J.e2
 rw [toE_md h.1.1,toE_md h.1.2,toE_md h.2.1.1,toE_md h.2.1.2,toE_md h.2.2.1,toE_md h.2.2.2]
theorem JS_md (P:J E2):JS (J.md R2 P) P:=⟨⟨md_self _,md_self _⟩,⟨md_self _,md_self _⟩,md_self _,md_self _⟩
theorem JS_dbl {P Q:J E2} (h:JS P Q):JS (dblJ R2 P) (dblJ R2 Q):=by
 obtain ⟨hx,hy,hz⟩:=h
 have yy:=S2R_mul hy hy
 have s:=S2R_mul hx yy
 have s:=S2R_add s s
 have s:=S2R_add s s
 have m:=S2R_mul hx hx
 have m:=S2R_add (S2R_add m m) m
 have x:=S2R_sub (S2R_mul m m) (S2R_add s s)
 have e:=S2R_mul yy yy
 have e:=S2R_add e e
 have e:=S2R_add e e
 have e:=S2R_add e e
 have z:=S2R_mul hy hz
 exact ⟨x,S2R_sub (S2R_mul m (S2R_sub s x)) e,S2R_add z z⟩
theorem JS_hJ {P Q U V:J E2} (h:JS P Q) (k:JS U V):S2 (hJ R2 P U) (hJ R2 Q V):=S2R_sub (S2R_mul k.1 (S2R_mul h.2.2 h.2.2)) (S2R_mul h.1 (S2R_mul k.2.2 k.2.2))
theorem JS_rJ {P Q U V:J E2} (h:JS P Q) (k:JS U V):S2 (rJ R2 P U) (rJ R2 Q V):=S2R_sub (S2R_mul k.2.1 (S2R_mul (S2R_mul h.2.2 h.2.2) h.2.2)) (S2R_mul h.2.1 (S2R_mul (S2R_mul k.2.2 k.2.2) k.2.2))
theorem JS_add {P Q U V:J E2} (h:JS P Q) (k:JS U V):JS (addJ R2 P U) (addJ R2 Q V):=by
 have hh:=JS_hJ h k
 have hr:=JS_rJ h k
 have h2:=S2R_mul hh hh
 have h3:=S2R_mul h2 hh
 have u:=S2R_mul h.1 (S2R_mul k.2.2 k.2.2)
 have w:=S2R_mul u h2
 have s:=S2R_mul h.2.1 (S2R_mul (S2R_mul k.2.2 k.2.2) k.2.2)
 have x:=S2R_sub (S2R_sub (S2R_mul hr hr) h3) (S2R_add w w)
 exact ⟨x,S2R_sub (S2R_mul hr (S2R_sub w x)) (S2R_mul s h3),S2R_mul hh (S2R_mul h.2.2 k.2.2)⟩
theorem JS_sum {P Q U V:J E2} (h:JS P Q) (k:JS U V):JS (sumJ R2 P U) (sumJ R2 Q V):=by
 rw [sumJ_eq,sumJ_eq,S2_isz h.2.2,S2_isz k.2.2,S2_isz (JS_hJ h k),S2_isz (JS_rJ h k)]
 split
 ·exact k
 ·split
  ·exact h
  ·split
   ·split
    ·exact JS_dbl h
    ·exact JS.refl _
   ·exact JS_add h k
theorem JS_of {a b c d x y:Int} {S:J E2} (h:[a,b,c,d,x,y]=S.e2):JS (ofJ2 a b c d x y) S:=by
 unfold J.e2 at h
 injection h with h1 h
 injection h with h2 h
 injection h with h3 h
 injection h with h4 h
 injection h with h5 h
 injection h with h6 h
 exact ⟨⟨E_ofm h1,E_ofm h2⟩,⟨E_ofm h3,E_ofm h4⟩,E_ofm h5,E_ofm h6⟩
def kTimes2 (o:Fo) (f:FuncId):K:={fn:=f,ext:=false,ins:=[.agg o.ls2,.agg ls6,iN],outs:=[.agg ls6],pre:=fun | [u,v,_,_,a,b,c,d,x,y,_]=>(u=toE 1/\v=0)/\((a<bP/\b<bP)/\(c<bP/\d<bP)/\(x<bP/\y<bP)) | _=>False,sem:=fun | [_,_,_,_,a,b,c,d,x,y,n]=>(tmJ R2 (ofJ2 a b c d x y) 384 n.toNat).e2 | _=>[] }
def TimesE2 (P:J E2) (n:Int):List Int->Prop
 | [i,a,b,c,d,x,y]=>-1<=i/\i<blen n/\[a,b,c,d,x,y]=(tmJ R2 P 384 (n/2^(i+1).toNat).toNat).e2
 | _=>False
theorem e2_lt {a b c d x y:Int} {P:J E2} (h:[a,b,c,d,x,y]=P.e2):(a<bP/\b<bP)/\(c<bP/\d<bP)/\(x<bP/\y<bP):=by
 unfold J.e2 at h
 injection h with h1 h
 injection h with h2 h
 injection h with h3 h
 injection h with h4 h
 injection h with h5 h
 injection h with h6 h
 exact ⟨⟨E_lt h1,E_lt h2⟩,⟨E_lt h3,E_lt h4⟩,E_lt h5,E_lt h6⟩
theorem oJ_e2:(oJ R2).e2=[toE 1,0,toE 1,0,0,0]:=by
 show [toE 1,toE 0,toE 1,toE 0,toE 0,toE 0]=_
 rw [toE_0]
def t2Times:Tree:=(.req 0 [.var 10]
(.lett 11 (.int .i64) (.app 0 0 [.var 10])
(.lett 12 (.int .i64) (.bin .sub .i64 (.var 11) (.lit 1))
(.loop [.var 12,.var 0,.var 1,.var 0,.var 1,.lit 0,.lit 0] [(.int .i64),.num,.num,.num,.num,.num,.num] 13
(.lett 20 .bit (.cmp .geq (.var 13) (.lit 0))
(.split 20
(.req 2 [.var 0,.var 1,.var 2,.var 3,.var 14,.var 15,.var 16,.var 17,.var 18,.var 19]
(.lett 21 .num (.app 2 0 [.var 0,.var 1,.var 2,.var 3,.var 14,.var 15,.var 16,.var 17,.var 18,.var 19])
(.lett 22 .num (.app 2 1 [.var 0,.var 1,.var 2,.var 3,.var 14,.var 15,.var 16,.var 17,.var 18,.var 19])
(.lett 23 .num (.app 2 2 [.var 0,.var 1,.var 2,.var 3,.var 14,.var 15,.var 16,.var 17,.var 18,.var 19])
(.lett 24 .num (.app 2 3 [.var 0,.var 1,.var 2,.var 3,.var 14,.var 15,.var 16,.var 17,.var 18,.var 19])
(.lett 25 .num (.app 2 4 [.var 0,.var 1,.var 2,.var 3,.var 14,.var 15,.var 16,.var 17,.var 18,.var 19])
(.lett 26 .num (.app 2 5 [.var 0,.var 1,.var 2,.var 3,.var 14,.var 15,.var 16,.var 17,.var 18,.var 19])
(.req 1 [.var 10,.var 13]
(.lett 27 (.int .i64) (.app 1 0 [.var 10,.var 13])
(.lett 28 .bit (.cmp .eql (.var 27) (.lit 1))
(.split 28
 (.req 3 [.var 0,.var 1,.var 2,.var 3,.var 21,.var 22,.var 23,.var 24,.var 25,.var 26,.var 4,.var 5,.var 6,.var 7,.var 8,.var 9]
 (.lett 29 .num (.app 3 0 [.var 0,.var 1,.var 2,.var 3,.var 21,.var 22,.var 23,.var 24,.var 25,.var 26,.var 4,.var 5,.var 6,.var 7,.var 8,.var 9])
 (.lett 30 .num (.app 3 1 [.var 0,.var 1,.var 2,.var 3,.var 21,.var 22,.var 23,.var 24,.var 25,.var 26,.var 4,.var 5,.var 6,.var 7,.var 8,.var 9])
 (.lett 31 .num (.app 3 2 [.var 0,.var 1,.var 2,.var 3,.var 21,.var 22,.var 23,.var 24,.var 25,.var 26,.var 4,.var 5,.var 6,.var 7,.var 8,.var 9])
 (.lett 32 .num (.app 3 3 [.var 0,.var 1,.var 2,.var 3,.var 21,.var 22,.var 23,.var 24,.var 25,.var 26,.var 4,.var 5,.var 6,.var 7,.var 8,.var 9])
 (.lett 33 .num (.app 3 4 [.var 0,.var 1,.var 2,.var 3,.var 21,.var 22,.var 23,.var 24,.var 25,.var 26,.var 4,.var 5,.var 6,.var 7,.var 8,.var 9])
 (.lett 34 .num (.app 3 5 [.var 0,.var 1,.var 2,.var 3,.var 21,.var 22,.var 23,.var 24,.var 25,.var 26,.var 4,.var 5,.var 6,.var 7,.var 8,.var 9])
 (.lett 35 (.int .i64) (.bin .sub .i64 (.var 13) (.lit 1))
 (.back 0 [.var 35,.var 29,.var 30,.var 31,.var 32,.var 33,.var 34])))))))))
 (.lett 29 (.int .i64) (.bin .sub .i64 (.var 13) (.lit 1))
 (.back 0 [.var 29,.var 21,.var 22,.var 23,.var 24,.var 25,.var 26])))))))))))))
(.ret [.var 14,.var 15,.var 16,.var 17,.var 18,.var 19])))))))
theorem law_times2 (o:Fo) (f1 f2 f3 f4 f:FuncId) (e:Nat->Int) (hk:kkHas [.num,.num,.num,.num,.num,.num,.num,.num,.num,.num,.num] [e 0,e 1,e 2,e 3,e 4,e 5,e 6,e 7,e 8,e 9,e 10]) (hp:(kTimes2 o f).pre [e 0,e 1,e 2,e 3,e 4,e 5,e 6,e 7,e 8,e 9,e 10]):t2Times.says [kWLen f1,kBit f2,kTwice2 o f3,kSum2J o f4] ⟨fun ys=>ys=(kTimes2 o f).sem [e 0,e 1,e 2,e 3,e 4,e 5,e 6,e 7,e 8,e 9,e 10],[]⟩ e:=by
 obtain ⟨q0,uP⟩:(e 0=toE 1/\e 1=0)/\((e 4<bP/\e 5<bP)/\(e 6<bP/\e 7<bP)/\(e 8<bP/\e 9<bP)):=hp
 obtain ⟨_,_,_,_,_,_,_,_,_,_,h5,_⟩:=hk
 have hn:0<=e 10/\e 10<N384:=h5
 obtain ⟨P,hP⟩:∃ P,P=ofJ2 (e 4) (e 5) (e 6) (e 7) (e 8) (e 9):=⟨_,rfl⟩
 refine ⟨trivial,fun a6 _ a7 _=>?_⟩
 have v6:e 11=blen (e 10):=a6
 have b0:=blen_nn (e 10)
 have b1:=blen_le 384 (e 10) hn.1 (by rw [p384];exact hn.2)
 have v7:e 12=blen (e 10)-1:=by
  have:e 12=binE .sub .i64 (e 11) 1:=a7
  rw [this,v6];simp only [binE,wr];omega
 refine ⟨TimesE2 P (e 10),fun | [i,_,_,_,_,_,_]=>(i+1).toNat | _=>0,?_,fun e' he hkk hI=>?_⟩
 ·show -1<=e 12/\e 12<blen (e 10)/\[e 0,e 1,e 0,e 1,0,0]=(tmJ R2 P 384 (e 10/2^(e 12+1).toNat).toNat).e2
  rw [v7]
  refine ⟨by omega,by omega,?_⟩
  rw [Int.sub_add_cancel]
  have h1:e 10/2^(blen (e 10)).toNat=0:=by
   rcases Int.lt_or_le (e 10) (2^(blen (e 10)).toNat) with hc | hc
   ·exact Int.ediv_eq_zero_of_lt hn.1 hc
   ·have:=blen_gt (blen (e 10)).toNat (e 10) hc;omega
  rw [h1,q0.1,q0.2]
  exact oJ_e2.symm
 ·obtain ⟨i1,i2,i3⟩:TimesE2 P (e 10) [e' 13,e' 14,e' 15,e' 16,e' 17,e' 18,e' 19]:=hI
  rw [<- he 0 (by decide),<- he 1 (by decide)] at q0
  rw [<- he 4 (by decide),<- he 5 (by decide),<- he 6 (by decide),<- he 7 (by decide),<- he 8 (by decide),<- he 9 (by decide)] at uP hP
  rw [<- he 10 (by decide)] at hn i2 i3 b1 ⊢
  rw [<- he 0 (by decide),<- he 1 (by decide),<- he 2 (by decide),<- he 3 (by decide),<- he 4 (by decide),<- he 5 (by decide),<- he 6 (by decide),<- he 7 (by decide),<- he 8 (by decide),<- he 9 (by decide)]
  clear he a6 a7 v6 v7 b0 hkk
  intro a12 _
  have b12:=c_ge a12
  refine ⟨fun hs=>?_,fun hs=>?_⟩
  ·have c5:0<=e' 13:=b_yes b12 hs
   obtain ⟨n,hi⟩:=Int.eq_ofNat_of_zero_le c5
   rw [hi,show ((n:Int)+1).toNat=n+1 by omega] at i3
   rw [hi] at i2
   obtain ⟨S,hS⟩:∃ S,S=tmJ R2 P 384 (e' 10/2^(n+1)).toNat:=⟨_,rfl⟩
   rw [<- hS] at i3
   refine ⟨e2_lt i3,fun a21 _ a22 _ a23 _ a24 _ a25 _ a26 _=>?_⟩
   have d1:[e' 21,e' 22,e' 23,e' 24,e' 25,e' 26]=(dblJ R2 (ofJ2 (e' 14) (e' 15) (e' 16) (e' 17) (e' 18) (e' 19))).e2:=by
    rw [show e' 21=_ from a21,show e' 22=_ from a22,show e' 23=_ from a23,show e' 24=_ from a24,show e' 25=_ from a25,show e' 26=_ from a26];rfl
   have d2:[e' 21,e' 22,e' 23,e' 24,e' 25,e' 26]=(J.md R2 (dblJ R2 S)).e2:=d1.trans ((JS_dbl (JS_of i3)).trans (JS_md _).symm).e2
   clear a21 a22 a23 a24 a25 a26 d1
   refine ⟨trivial,fun a16 _ a17 _=>?_⟩
   have hlen:blen (e' 10)<=384:=b1
   have h16:e' 27=e' 10/2^n%2:=by
    have h:e' 27=if 0<=e' 13/\e' 13<384 then e' 10/2^(e' 13).toNat%2 else 0:=a16
    rw [h,if_pos ⟨c5,by omega⟩,hi,Int.toNat_natCast]
   have hh:=halves (i:=n) hn.1
   obtain ⟨t1,t2⟩:=top_bit hn i2
   have hst:=tmJ_step (R:=R2) (P:=P) (n:=(e' 10/2^n).toNat) (by omega) t2
   rw [show (e' 10/2^n).toNat/2=(e' 10/2^(n+1)).toNat by omega,<- hS] at hst
   have b17:=c_eq a17
   refine ⟨fun hs2=>?_,fun hs2=>?_⟩
   ·have c17:e' 27=1:=b_yes b17 hs2
    refine ⟨⟨q0,e2_lt d2,uP⟩,fun a29 _ a30 _ a31 _ a32 _ a33 _ a34 _ a35 _=>?_⟩
    have g1:[e' 29,e' 30,e' 31,e' 32,e' 33,e' 34]=(sumJ R2 (ofJ2 (e' 21) (e' 22) (e' 23) (e' 24) (e' 25) (e' 26)) (ofJ2 (e' 4) (e' 5) (e' 6) (e' 7) (e' 8) (e' 9))).e2:=by
     rw [show e' 29=_ from a29,show e' 30=_ from a30,show e' 31=_ from a31,show e' 32=_ from a32,show e' 33=_ from a33,show e' 34=_ from a34];rfl
    rw [<- hP] at g1
    have g2:=g1.trans ((JS_sum (JS_of d2) (JS.refl P)).trans (JS_md _).symm).e2
    have h21:e' 35=n-1:=by
     have:e' 35=binE .sub .i64 (e' 13) 1:=a35
     rw [this,hi];simp only [binE,wr];omega
    show TimesE2 P (e' 10) [e' 35,e' 29,e' 30,e' 31,e' 32,e' 33,e' 34]/\(e' 35+1).toNat<(e' 13+1).toNat
    rw [h21,hi]
    refine ⟨⟨by omega,by omega,?_⟩,by omega⟩
    rw [show ((n:Int)-1+1).toNat=n by omega,hst,if_pos (by omega)]
    exact g2
   ·have c17:¬ e' 27=1:=b_no b17 hs2
    intro a18 _
    have h18:e' 29=n-1:=by
     have:e' 29=binE .sub .i64 (e' 13) 1:=a18
     rw [this,hi];simp only [binE,wr];omega
    show TimesE2 P (e' 10) [e' 29,e' 21,e' 22,e' 23,e' 24,e' 25,e' 26]/\(e' 29+1).toNat<(e' 13+1).toNat
    rw [h18,hi]
    refine ⟨⟨by omega,by omega,?_⟩,by omega⟩
    rw [show ((n:Int)-1+1).toNat=n by omega,hst,if_neg (by omega)]
    exact d2
  ·have c5:e' 13=-1:=by have:¬ e' 13≥0:=b_no b12 hs;omega
   rw [c5] at i3
   show [e' 14,e' 15,e' 16,e' 17,e' 18,e' 19]=(tmJ R2 (ofJ2 (e' 4) (e' 5) (e' 6) (e' 7) (e' 8) (e' 9)) 384 (e' 10).toNat).e2
   rw [i3,<- hP]
   show (tmJ R2 P 384 (e' 10/1).toNat).e2=_
   rw [Int.ediv_one]
def kE2One (f:FuncId):K:={fn:=f,ext:=false,ins:=[],outs:=[oE2],pre:=fun _=>True,sem:=fun _=>[toE 1,0] }
def kE2To (f:FuncId):K:={fn:=f,ext:=false,ins:=[iE2],outs:=[oE2],pre:=fun _=>True,sem:=fun | [a,b]=>[toE a,toE b] | _=>[] }
def kE2From (f:FuncId):K:={fn:=f,ext:=false,ins:=[iE2],outs:=[oE2],pre:=fun | [a,b]=>a<bP/\b<bP | _=>False,sem:=fun | [a,b]=>[ofE a,ofE b] | _=>[] }
def kSecond (o:Fo) (f:FuncId):K:={fn:=f,ext:=false,ins:=[],outs:=[.agg o.ls2],pre:=fun _=>True,sem:=fun _=>[toE 1,0,toE 4,toE 4] }
def tE2To:Tree:=(.req 0 [.var 0]
(.lett 98 .num (.app 0 0 [.var 0])
(.req 0 [.var 1]
(.lett 242 .num (.app 0 0 [.var 1])
(.ret [.var 98,.var 242])))))
theorem law_e2To (f1 f:FuncId) (e:Nat->Int):tE2To.says [kETo f1] ⟨fun ys=>ys=(kE2To f).sem [e 0,e 1],[]⟩ e:=by
 show tE2To.says _ ⟨fun ys=>ys=[toE (e 0),toE (e 1)],[]⟩ e
 refine ⟨trivial,?_⟩
 intro a98 k98
 have q98:=(show e 98=toE (e 0) from a98)
 clear a98 k98
 refine ⟨trivial,?_⟩
 intro a242 k242
 have q242:=(show e 242=toE (e 1) from a242)
 clear a242 k242
 show [e 98,e 242]=_
 rw [q98,q242]
 all_goals rfl
def tE2From:Tree:=(.req 0 [.var 0]
(.lett 98 .num (.app 0 0 [.var 0])
(.req 0 [.var 1]
(.lett 242 .num (.app 0 0 [.var 1])
(.ret [.var 98,.var 242])))))
theorem law_e2From (f1 f:FuncId) (e:Nat->Int) (hp:(kE2From f).pre [e 0,e 1]):tE2From.says [kEFrom f1] ⟨fun ys=>ys=(kE2From f).sem [e 0,e 1],[]⟩ e:=by
 obtain ⟨u0,u1⟩:e 0<bP/\e 1<bP:=hp
 have q0:=u0
 have q1:=u1
 show tE2From.says _ ⟨fun ys=>ys=[ofE (e 0),ofE (e 1)],[]⟩ e
 refine ⟨q0,?_⟩
 intro a98 k98
 have q98:=(show e 98=ofE (e 0) from a98)
 clear a98 k98
 refine ⟨q1,?_⟩
 intro a242 k242
 have q242:=(show e 242=ofE (e 1) from a242)
 clear a242 k242
 show [e 98,e 242]=_
 rw [q98,q242]
 all_goals rfl
def tSecond:Tree:=(.req 2 [.lit 4]
(.lett 0 .num (.app 2 0 [.lit 4])
(.req 0 [.var 0]
(.lett 1 .num (.app 0 0 [.var 0])
(.req 1 []
(.lett 2 .num (.app 1 0 [])
(.lett 3 .num (.app 1 1 [])
(.ret [.var 2,.var 3,.var 1,.var 1]))))))))
theorem law_second (o:Fo) (f1 f2 f3 f:FuncId) (e:Nat->Int):tSecond.says [kETo f1,kE2One f2,kOf f3] ⟨fun ys=>ys=(kSecond o f).sem [],[]⟩ e:=by
 refine ⟨trivial,fun a0 _=>⟨trivial,fun a1 _=>⟨trivial,fun a2 _ a3 _=>?_⟩⟩⟩
 show [e 2,e 3,e 1,e 1]=[toE 1,0,toE 4,toE 4]
 rw [show e 2=toE 1 from a2,show e 3=0 from a3,show e 1=toE (e 0) from a1,show e 0=4 from a0]
abbrev lsP2:List L:=[.num,.num,.num,.num,.bool]
noncomputable def kMany2 (f:FuncId):K:={fn:=f,ext:=false,ins:=[.agg lsP2,.lent (.int .u64)],outs:=[.agg lsP2],pre:=fun | [a,b,c,d,_,l,n]=>((a<bP/\b<bP)/\(c<bP/\d<bP))/\0<=n/\n<=100/\n<=((dec l).length:Int) | _=>False,sem:=fun | [a,b,c,d,z,l,n]=>if z=0 then manyV2 (twoT 0 (tmT (RT 0) (of2 a b c d 1 0) (64*n).toNat (numT (dec l) n))) else [a,b,c,d,z] | _=>[] }
def mulV2 (a b c d z n:Int):List Int:=if z=0 then lowV2 (tmJ R2 ⟨(a,b),(c,d),(1,0)⟩ 384 n.toNat) else [a,b,c,d,z]
def kRMulP2 (f:FuncId):K:={fn:=f,ext:=false,ins:=[.agg lsP2,iN],outs:=[.agg lsP2],pre:=fun | [a,b,c,d,_,_]=>(a<bP/\b<bP)/\(c<bP/\d<bP) | _=>False,sem:=fun | [a,b,c,d,z,n]=>mulV2 a b c d z n | _=>[] }
def tMany2:Tree:=(.split 4
(.ret [.var 0,.var 1,.var 2,.var 3,.var 4])
(.req 0 [.var 0,.var 1,.var 2,.var 3,.lit 1,.lit 0,.lit 0,.var 5,.var 6]
(.lett 7 .num (.app 0 0 [.var 0,.var 1,.var 2,.var 3,.lit 1,.lit 0,.lit 0,.var 5,.var 6])
(.lett 8 .num (.app 0 1 [.var 0,.var 1,.var 2,.var 3,.lit 1,.lit 0,.lit 0,.var 5,.var 6])
(.lett 9 .num (.app 0 2 [.var 0,.var 1,.var 2,.var 3,.lit 1,.lit 0,.lit 0,.var 5,.var 6])
(.lett 10 .num (.app 0 3 [.var 0,.var 1,.var 2,.var 3,.lit 1,.lit 0,.lit 0,.var 5,.var 6])
(.lett 11 .num (.app 0 4 [.var 0,.var 1,.var 2,.var 3,.lit 1,.lit 0,.lit 0,.var 5,.var 6])
(.lett 12 .num (.app 0 5 [.var 0,.var 1,.var 2,.var 3,.lit 1,.lit 0,.lit 0,.var 5,.var 6])
(.lett 13 .bit (.app 0 6 [.var 0,.var 1,.var 2,.var 3,.lit 1,.lit 0,.lit 0,.var 5,.var 6])
(.req 1 [.var 7,.var 8,.var 9,.var 10,.var 11,.var 12,.var 13]
(.lett 14 .num (.app 1 0 [.var 7,.var 8,.var 9,.var 10,.var 11,.var 12,.var 13])
(.lett 15 .num (.app 1 1 [.var 7,.var 8,.var 9,.var 10,.var 11,.var 12,.var 13])
(.lett 16 .num (.app 1 2 [.var 7,.var 8,.var 9,.var 10,.var 11,.var 12,.var 13])
(.lett 17 .num (.app 1 3 [.var 7,.var 8,.var 9,.var 10,.var 11,.var 12,.var 13])
(.lett 18 .bit (.app 1 4 [.var 7,.var 8,.var 9,.var 10,.var 11,.var 12,.var 13])
(.lett 19 .bit (.not (.var 18))
(.split 19
 (.ret [.lit 0,.lit 0,.lit 0,.lit 0,.lit 1])
 (.ret [.var 14,.var 15,.var 16,.var 17,.lit 0]))))))))))))))))))
theorem law_many2 (f1 f2 f:FuncId) (e:Nat->Int) (hk:kkHas [.num,.num,.num,.num,.bit,.lst (.int .u64),.int .i64] [e 0,e 1,e 2,e 3,e 4,e 5,e 6]) (hp:(kMany2 f).pre [e 0,e 1,e 2,e 3,e 4,e 5,e 6]):tMany2.says [kTMulti f1,kTTwo f2] ⟨fun ys=>ys=(kMany2 f).sem [e 0,e 1,e 2,e 3,e 4,e 5,e 6],[]⟩ e:=by
 obtain ⟨⟨⟨u0,u1⟩,u2,u3⟩,n0,n1,n2⟩:((e 0<bP/\e 1<bP)/\(e 2<bP/\e 3<bP))/\0<=e 6/\e 6<=100/\e 6<=((dec (e 5)).length:Int):=hp
 clear hk
 show tMany2.says _ ⟨fun ys=>ys=if e 4=0 then manyV2 (twoT 0 (tmT (RT 0) (of2 (e 0) (e 1) (e 2) (e 3) 1 0) (64*e 6).toNat (numT (dec (e 5)) (e 6)))) else [e 0,e 1,e 2,e 3,e 4],[]⟩ e
 refine ⟨fun h=>?_,fun h=>?_⟩
 ·have c4:=h
  show [e 0,e 1,e 2,e 3,e 4]=_
  rw [if_neg c4]
 ·have c4:=h
  refine ⟨⟨⟨⟨u0,u1⟩,⟨u2,u3⟩,bP_one,bP_pos⟩,n0,n1,n2⟩,?_⟩
  intro a7 k7
  clear k7
  intro a8 k8
  clear k8
  intro a9 k9
  clear k9
  intro a10 k10
  clear k10
  intro a11 k11
  clear k11
  intro a12 k12
  clear k12
  intro a13 k13
  clear k13
  have hM:=tmT_md 0 (of2 (e 0) (e 1) (e 2) (e 3) 1 0) (64*e 6).toNat (numT (dec (e 5)) (e 6))
  generalize hS:tmT (RT 0) (of2 (e 0) (e 1) (e 2) (e 3) 1 0) (64*e 6).toNat (numT (dec (e 5)) (e 6))=S at hM
  have a7:e 7=((tmT (RT 0) (of2 (e 0) (e 1) (e 2) (e 3) 1 0) (64*e 6).toNat (numT (dec (e 5)) (e 6))).tl++[0]).getD 0 0:=a7
  have a8:e 8=((tmT (RT 0) (of2 (e 0) (e 1) (e 2) (e 3) 1 0) (64*e 6).toNat (numT (dec (e 5)) (e 6))).tl++[0]).getD 1 0:=a8
  have a9:e 9=((tmT (RT 0) (of2 (e 0) (e 1) (e 2) (e 3) 1 0) (64*e 6).toNat (numT (dec (e 5)) (e 6))).tl++[0]).getD 2 0:=a9
  have a10:e 10=((tmT (RT 0) (of2 (e 0) (e 1) (e 2) (e 3) 1 0) (64*e 6).toNat (numT (dec (e 5)) (e 6))).tl++[0]).getD 3 0:=a10
  have a11:e 11=((tmT (RT 0) (of2 (e 0) (e 1) (e 2) (e 3) 1 0) (64*e 6).toNat (numT (dec (e 5)) (e 6))).tl++[0]).getD 4 0:=a11
  have a12:e 12=((tmT (RT 0) (of2 (e 0) (e 1) (e 2) (e 3) 1 0) (64*e 6).toNat (numT (dec (e 5)) (e 6))).tl++[0]).getD 5 0:=a12
  have w13:e 13=0:=a13
  have hL:[e 7,e 8,e 9,e 10,e 11,e 12]=S.tl:=by rw [a7,a8,a9,a10,a11,a12,hS];rfl
  have hb:=tl_lt hL hM
  have hO:=tl_of2 hL
  clear a7 a8 a9 a10 a11 a12 a13
  refine ⟨hb,?_⟩
  intro a14 k14
  clear k14
  intro a15 k15
  clear k15
  intro a16 k16
  clear k16
  intro a17 k17
  clear k17
  intro a18 k18
  clear k18
  obtain ⟨t0,t1,t2,t3,t4,ht⟩:=twoT_5 0 S
  have a14:e 14=(twoT (e 13) (of2 (e 7) (e 8) (e 9) (e 10) (e 11) (e 12))).getD 0 0:=a14
  have a15:e 15=(twoT (e 13) (of2 (e 7) (e 8) (e 9) (e 10) (e 11) (e 12))).getD 1 0:=a15
  have a16:e 16=(twoT (e 13) (of2 (e 7) (e 8) (e 9) (e 10) (e 11) (e 12))).getD 2 0:=a16
  have a17:e 17=(twoT (e 13) (of2 (e 7) (e 8) (e 9) (e 10) (e 11) (e 12))).getD 3 0:=a17
  have a18:e 18=(twoT (e 13) (of2 (e 7) (e 8) (e 9) (e 10) (e 11) (e 12))).getD 4 0:=a18
  rw [hO,w13,ht] at a14 a15 a16 a17 a18
  have a14:e 14=t0:=a14
  have a15:e 15=t1:=a15
  have a16:e 16=t2:=a16
  have a17:e 17=t3:=a17
  have a18:e 18=t4:=a18
  intro a19 k19
  have b19:=c_not a19
  simp only [ev_var,ev_lit] at b19
  clear a19 k19
  refine ⟨fun h=>?_,fun h=>?_⟩
  ·have c19:=h
   have z1:=b_yes b19 c19
   show [0,0,0,0,1]=_
   rw [if_pos c4,ht]
   show _=if t4=0 then [0,0,0,0,1] else [t0,t1,t2,t3,0]
   rw [if_pos (a18.symm.trans z1)]
  ·have c19:=h
   have z1:=b_no b19 c19
   show [e 14,e 15,e 16,e 17,0]=_
   rw [if_pos c4,ht]
   show _=if t4=0 then [0,0,0,0,1] else [t0,t1,t2,t3,0]
   rw [if_neg (fun h=>z1 (a18.trans h)),a14,a15,a16,a17]
def tRMulP2:Tree:=(.req 0 [.var 5]
(.lett 102 (.lst (.int .u64)) (.app 0 0 [.var 5])
(.lett 103 (.int .i64) (.app 0 1 [.var 5])
(.req 1 [.var 0,.var 1,.var 2,.var 3,.var 4,.var 102,.var 103]
(.lett 150 .num (.app 1 0 [.var 0,.var 1,.var 2,.var 3,.var 4,.var 102,.var 103])
(.lett 151 .num (.app 1 1 [.var 0,.var 1,.var 2,.var 3,.var 4,.var 102,.var 103])
(.lett 152 .num (.app 1 2 [.var 0,.var 1,.var 2,.var 3,.var 4,.var 102,.var 103])
(.lett 153 .num (.app 1 3 [.var 0,.var 1,.var 2,.var 3,.var 4,.var 102,.var 103])
(.lett 154 .bit (.app 1 4 [.var 0,.var 1,.var 2,.var 3,.var 4,.var 102,.var 103])
(.ret [.var 150,.var 151,.var 152,.var 153,.var 154]))))))))))
theorem law_rMulP2 (te:TypeId) (f1 f2 f:FuncId) (e:Nat->Int) (hk:kkHas [.num,.num,.num,.num,.bit,.num] [e 0,e 1,e 2,e 3,e 4,e 5]) (hp:(kRMulP2 f).pre [e 0,e 1,e 2,e 3,e 4,e 5]):tRMulP2.says [kWords te f1,kMany2 f2] ⟨fun ys=>ys=(kRMulP2 f).sem [e 0,e 1,e 2,e 3,e 4,e 5],[]⟩ e:=by
 have u:(e 0<bP/\e 1<bP)/\(e 2<bP/\e 3<bP):=hp
 obtain ⟨_,_,_,_,_,h3,_⟩:=hk
 have h3:0<=e 5/\e 5<N384:=h3
 have hw:=wlen_rng h3
 show tRMulP2.says _ ⟨fun ys=>ys=mulV2 (e 0) (e 1) (e 2) (e 3) (e 4) (e 5),[]⟩ e
 refine ⟨trivial,?_⟩
 intro a102 k102
 have q102:=(show e 102=enc (limsI (e 5)) from a102)
 clear a102 k102
 intro a103 k103
 have q103:=(show e 103=wlen (e 5) from a103)
 clear a103 k103
 have d102:dec (e 102)=limsI (e 5):=by rw [q102,dec_enc]
 refine ⟨⟨u,show 0<=e 103 by rw [q103];exact hw.1,show e 103<=100 by rw [q103];omega,show e 103<=((dec (e 102)).length:Int) by rw [d102,q103];exact hw.2⟩,?_⟩
 intro a150 k150
 have q150:=(show e 150=(if (e 4)=0 then manyV2 (twoT 0 (tmT (RT 0) (of2 (e 0) (e 1) (e 2) (e 3) 1 0) (64*(e 103)).toNat (numT (dec (e 102)) (e 103)))) else [(e 0),(e 1),(e 2),(e 3),(e 4)]).getD 0 0 from a150)
 clear a150 k150
 intro a151 k151
 have q151:=(show e 151=(if (e 4)=0 then manyV2 (twoT 0 (tmT (RT 0) (of2 (e 0) (e 1) (e 2) (e 3) 1 0) (64*(e 103)).toNat (numT (dec (e 102)) (e 103)))) else [(e 0),(e 1),(e 2),(e 3),(e 4)]).getD 1 0 from a151)
 clear a151 k151
 intro a152 k152
 have q152:=(show e 152=(if (e 4)=0 then manyV2 (twoT 0 (tmT (RT 0) (of2 (e 0) (e 1) (e 2) (e 3) 1 0) (64*(e 103)).toNat (numT (dec (e 102)) (e 103)))) else [(e 0),(e 1),(e 2),(e 3),(e 4)]).getD 2 0 from a152)
 clear a152 k152
 intro a153 k153
 have q153:=(show e 153=(if (e 4)=0 then manyV2 (twoT 0 (tmT (RT 0) (of2 (e 0) (e 1) (e 2) (e 3) 1 0) (64*(e 103)).toNat (numT (dec (e 102)) (e 103)))) else [(e 0),(e 1),(e 2),(e 3),(e 4)]).getD 3 0 from a153)
 clear a153 k153
 intro a154 k154
 have q154:=(show e 154=(if (e 4)=0 then manyV2 (twoT 0 (tmT (RT 0) (of2 (e 0) (e 1) (e 2) (e 3) 1 0) (64*(e 103)).toNat (numT (dec (e 102)) (e 103)))) else [(e 0),(e 1),(e 2),(e 3),(e 4)]).getD 4 0 from a154)
 clear a154 k154
 show [e 150,e 151,e 152,e 153,e 154]=_
 rw [q150,q151,q152,q153,q154,d102,q103,num_lims h3]
 unfold mulV2
 by_cases hz:e 4=0
 ·rw [if_pos hz,if_pos hz,many2_eq (by omega) (wlen_lt h3)]
  unfold lowV2
  split <;> rfl
 ·rw [if_neg hz,if_neg hz];rfl
theorem PQ_mul2 {x y a b c d:Int} {A C:E2} (h:x=(a*c-b*d)%bP) (k:y=(a*d+b*c)%bP) (ha:PQ a b A) (hc:PQ c d C):PQ x y (R2.mul A C) :=
 ⟨h.trans (mdE_sub (mdE_mul (M_mm ha.1) (M_mm hc.1)) (mdE_mul (M_mm ha.2) (M_mm hc.2))),k.trans (mdE_add (mdE_mul (M_mm ha.1) (M_mm hc.2)) (mdE_mul (M_mm ha.2) (M_mm hc.1)))⟩
theorem PQ_add2 {x y a b c d:Int} {A C:E2} (h:x=(a+c)%bP) (k:y=(b+d)%bP) (ha:PQ a b A) (hc:PQ c d C):PQ x y (R2.add A C):=⟨M_add h ha.1 hc.1,M_add k ha.2 hc.2⟩
def side2 (X:E2):E2:=R2.add (R2.mul (R2.mul X X) X) (4,4)
def onV2 (a b c d z:Int):Prop:=((a<bP/\b<bP)/\(c<bP/\d<bP))/\if z=0 then R2.md (R2.mul (c,d) (c,d))=R2.md (side2 (a,b)) else (a=0/\b=0)/\(c=0/\d=0)
theorem onV2_0 {a b c d z:Int} (h:z=0):onV2 a b c d z↔((a<bP/\b<bP)/\(c<bP/\d<bP))/\R2.md (R2.mul (c,d) (c,d))=R2.md (side2 (a,b)):=by unfold onV2;rw [if_pos h]
theorem onV2_1 {a b c d z:Int} (h:¬ z=0):onV2 a b c d z↔((a<bP/\b<bP)/\(c<bP/\d<bP))/\((a=0/\b=0)/\(c=0/\d=0)):=by unfold onV2;rw [if_neg h]
def kRSide2 (f:FuncId):K:={fn:=f,ext:=false,ins:=[iE2],outs:=[oE2],pre:=fun | [a,b]=>a<bP/\b<bP | _=>False,sem:=fun | [a,b]=>[(side2 (a,b)).1%bP,(side2 (a,b)).2%bP] | _=>[] }
def kRNegP2 (f:FuncId):K:={fn:=f,ext:=false,ins:=[.agg lsP2],outs:=[.agg lsP2],pre:=fun | [_,_,c,d,_]=>c<bP/\d<bP | _=>False,sem:=fun | [a,b,c,d,z]=>[a,b,(-c)%bP,(-d)%bP,z] | _=>[] }
def tRSide2:Tree:=(.req 0 [.var 0,.var 1,.var 0,.var 1]
(.lett 98 .num (.app 0 0 [.var 0,.var 1,.var 0,.var 1])
(.lett 99 .num (.app 0 1 [.var 0,.var 1,.var 0,.var 1])
(.req 0 [.var 98,.var 99,.var 0,.var 1]
(.lett 194 .num (.app 0 0 [.var 98,.var 99,.var 0,.var 1])
(.lett 195 .num (.app 0 1 [.var 98,.var 99,.var 0,.var 1])
(.req 1 [.var 194,.var 195,.lit 4,.lit 4]
(.lett 386 .num (.app 1 0 [.var 194,.var 195,.lit 4,.lit 4])
(.lett 387 .num (.app 1 1 [.var 194,.var 195,.lit 4,.lit 4])
(.ret [.var 386,.var 387]))))))))))
theorem law_rSide2 (f1 f2 f:FuncId) (e:Nat->Int) (hk:kkHas [.num,.num] [e 0,e 1]) (hp:(kRSide2 f).pre [e 0,e 1]):tRSide2.says [kRMul2 f1,kRAdd2 f2] ⟨fun ys=>ys=(kRSide2 f).sem [e 0,e 1],[]⟩ e:=by
 obtain ⟨u0,u1⟩:e 0<bP/\e 1<bP:=hp
 obtain ⟨h0,h1,_⟩:=hk
 have q1:=PQ_self h0.1 u0 h1.1 u1
 have q_4:PQ 4 4 (4,4):=⟨by decide,by decide⟩
 clear u0 u1 h0 h1
 show tRSide2.says _ ⟨fun ys=>ys=[(side2 (e 0,e 1)).1%bP,(side2 (e 0,e 1)).2%bP],[]⟩ e
 refine ⟨⟨PQ.l1 q1,PQ.l2 q1,PQ.l1 q1,PQ.l2 q1⟩,?_⟩
 intro a98 k98
 have q98:=(show e 98=((e 0)*(e 0)-(e 1)*(e 1))%bP from a98)
 clear a98 k98
 intro a99 k99
 have q99:=PQ_mul2 q98 (show e 99=((e 0)*(e 1)+(e 1)*(e 0))%bP from a99) q1 q1
 clear a99 k99
 refine ⟨⟨PQ.l1 q99,PQ.l2 q99,PQ.l1 q1,PQ.l2 q1⟩,?_⟩
 intro a194 k194
 have q194:=(show e 194=((e 98)*(e 0)-(e 99)*(e 1))%bP from a194)
 clear a194 k194
 intro a195 k195
 have q195:=PQ_mul2 q194 (show e 195=((e 98)*(e 1)+(e 99)*(e 0))%bP from a195) q99 q1
 clear a195 k195
 refine ⟨⟨PQ.l1 q195,PQ.l2 q195,PQ.l1 q_4,PQ.l2 q_4⟩,?_⟩
 intro a386 k386
 have q386:=(show e 386=((e 194)+(4))%bP from a386)
 clear a386 k386
 intro a387 k387
 have q387:=PQ_add2 q386 (show e 387=((e 195)+(4))%bP from a387) q195 q_4
 clear a387 k387
 show [e 386,e 387]=_
 rw [q387.1,q387.2];rfl
def tRNegP2:Tree:=(.req 0 [.var 2,.var 3]
(.lett 5 .num (.app 0 0 [.var 2,.var 3])
(.lett 6 .num (.app 0 1 [.var 2,.var 3])
(.ret [.var 0,.var 1,.var 5,.var 6,.var 4]))))
theorem law_rNegP2 (f1 f:FuncId) (e:Nat->Int) (hk:kkHas [.num,.num,.num,.num,.bit] [e 0,e 1,e 2,e 3,e 4]) (hp:(kRNegP2 f).pre [e 0,e 1,e 2,e 3,e 4]):tRNegP2.says [kRNeg2 f1] ⟨fun ys=>ys=(kRNegP2 f).sem [e 0,e 1,e 2,e 3,e 4],[]⟩ e:=by
 have u:e 2<bP/\e 3<bP:=hp
 show tRNegP2.says _ ⟨fun ys=>ys=[e 0,e 1,(-e 2)%bP,(-e 3)%bP,e 4],[]⟩ e
 refine ⟨u,?_⟩
 intro a5 k5
 have q5:=(show e 5=(-(e 2))%bP from a5)
 clear a5 k5
 intro a6 k6
 have q6:=(show e 6=(-(e 3))%bP from a6)
 clear a6 k6
 show [e 0,e 1,e 5,e 6,e 4]=_
 rw [q5,q6]
noncomputable def kCheck2 (f:FuncId):K:={fn:=f,ext:=false,ins:=[.agg lsP2],outs:=[oB],pre:=fun _=>True,sem:=fun | [a,b,c,d,z]=>[bj (onV2 a b c d z)] | _=>[] }
theorem c_num2 {e:Nat->Int} {v:Int} {i j i' j':Nat} (h:v=(D.eqs [(.limb i 0,.limb j 0),(.limb i 1,.limb j 1),(.limb i 2,.limb j 2),(.limb i 3,.limb j 3),(.limb i 4,.limb j 4),(.limb i 5,.limb j 5),(.limb i' 0,.limb j' 0),(.limb i' 1,.limb j' 1),(.limb i' 2,.limb j' 2),(.limb i' 3,.limb j' 3),(.limb i' 4,.limb j' 4),(.limb i' 5,.limb j' 5)]).ev [] e) (hi:0<=e i/\e i<N384) (hj:0<=e j/\e j<N384) (hi':0<=e i'/\e i'<N384) (hj':0<=e j'/\e j'<N384):(v=1/\(e i=e j/\e i'=e j'))∨(v=0/\¬ (e i=e j/\e i'=e j')):=by
 simp only [D.ev,List.all_cons,List.all_nil,ev_limb,Bool.and_true,b2i_bi,Bool.and_eq_true,beq_iff_eq] at h
 by_cases hc:e i=e j/\e i'=e j'
 ·left;rw [hc.1,hc.2] at h;simp at h;exact ⟨h,hc⟩
 ·right
  rw [if_neg (fun hh=>hc ⟨lim_inj hi hj ⟨hh.1,hh.2.1,hh.2.2.1,hh.2.2.2.1,hh.2.2.2.2.1,hh.2.2.2.2.2.1⟩,lim_inj hi' hj' ⟨hh.2.2.2.2.2.2.1,hh.2.2.2.2.2.2.2.1,hh.2.2.2.2.2.2.2.2.1,hh.2.2.2.2.2.2.2.2.2.1,hh.2.2.2.2.2.2.2.2.2.2.1,hh.2.2.2.2.2.2.2.2.2.2.2⟩⟩)] at h
  exact ⟨h,hc⟩
def tRCheck2:Tree:=(.split 4
(.lett 5 .bit (.eqs [((.limb 0 0),(.lit 0)),((.limb 0 1),(.lit 0)),((.limb 0 2),(.lit 0)),((.limb 0 3),(.lit 0)),((.limb 0 4),(.lit 0)),((.limb 0 5),(.lit 0)),((.limb 1 0),(.lit 0)),((.limb 1 1),(.lit 0)),((.limb 1 2),(.lit 0)),((.limb 1 3),(.lit 0)),((.limb 1 4),(.lit 0)),((.limb 1 5),(.lit 0))])
(.split 5
 (.lett 6 .bit (.eqs [((.limb 2 0),(.lit 0)),((.limb 2 1),(.lit 0)),((.limb 2 2),(.lit 0)),((.limb 2 3),(.lit 0)),((.limb 2 4),(.lit 0)),((.limb 2 5),(.lit 0)),((.limb 3 0),(.lit 0)),((.limb 3 1),(.lit 0)),((.limb 3 2),(.lit 0)),((.limb 3 3),(.lit 0)),((.limb 3 4),(.lit 0)),((.limb 3 5),(.lit 0))])
 (.ret [.var 6]))
 (.ret [.lit 0])))
(.req 0 [.var 0]
(.lett 149 .bit (.app 0 0 [.var 0])
(.split 149
 (.req 0 [.var 1]
 (.lett 389 .bit (.app 0 0 [.var 1])
 (.split 389
 (.req 0 [.var 2]
 (.lett 677 .bit (.app 0 0 [.var 2])
 (.split 677
 (.req 0 [.var 3]
 (.lett 965 .bit (.app 0 0 [.var 3])
 (.split 965
 (.req 1 [.var 2,.var 3,.var 2,.var 3]
 (.lett 1301 .num (.app 1 0 [.var 2,.var 3,.var 2,.var 3])
 (.lett 1302 .num (.app 1 1 [.var 2,.var 3,.var 2,.var 3])
 (.req 2 [.var 0,.var 1]
 (.lett 1445 .num (.app 2 0 [.var 0,.var 1])
 (.lett 1446 .num (.app 2 1 [.var 0,.var 1])
 (.lett 1493 .bit (.eqs [((.limb 1301 0),(.limb 1445 0)),((.limb 1301 1),(.limb 1445 1)),((.limb 1301 2),(.limb 1445 2)),((.limb 1301 3),(.limb 1445 3)),((.limb 1301 4),(.limb 1445 4)),((.limb 1301 5),(.limb 1445 5)),((.limb 1302 0),(.limb 1446 0)),((.limb 1302 1),(.limb 1446 1)),((.limb 1302 2),(.limb 1446 2)),((.limb 1302 3),(.limb 1446 3)),((.limb 1302 4),(.limb 1446 4)),((.limb 1302 5),(.limb 1446 5))])
 (.ret [.var 1493]))))))))
 (.ret [.lit 0]))))
 (.ret [.lit 0]))))
 (.ret [.lit 0]))))
 (.ret [.lit 0])))))
theorem law_rCheck2 (f1 f2 f3 f:FuncId) (e:Nat->Int) (hk:kkHas [.num,.num,.num,.num,.bit] [e 0,e 1,e 2,e 3,e 4]):tRCheck2.says [kRBelow f1,kRMul2 f2,kRSide2 f3] ⟨fun ys=>ys=(kCheck2 f).sem [e 0,e 1,e 2,e 3,e 4],[]⟩ e:=by
 obtain ⟨h0,h1,h2,h3,_⟩:=hk
 have k0:=h0
 have k1:=h1
 have k2:=h2
 have k3:=h3
 show tRCheck2.says _ ⟨fun ys=>ys=[bj (onV2 (e 0) (e 1) (e 2) (e 3) (e 4))],[]⟩ e
 refine ⟨fun h=>?_,fun h=>?_⟩
 ·have c4:=h
  intro a5 k5
  have b5:=c_num00 a5 k0 k1
  clear a5 k5
  refine ⟨fun h=>?_,fun h=>?_⟩
  ·have c5:=h
   have z1:e 0=0/\e 1=0:=b_yes b5 c5
   intro a6 k6
   have b6:=c_num00 a6 k2 k3
   clear a6 k6
   show [e 6]=_
   refine congrArg (fun x=>[x]) ((bj_of b6).trans (bj_iff ((onV2_1 c4).trans ?_).symm))
   exact ⟨fun h=>h.2.2,fun h=>⟨⟨⟨by rw [z1.1];exact bP_pos,by rw [z1.2];exact bP_pos⟩,by rw [h.1];exact bP_pos,by rw [h.2];exact bP_pos⟩,z1,h⟩⟩
  ·have c5:=h
   have z1:¬ (e 0=0/\e 1=0):=b_no b5 c5
   show [(0:Int)]=_
   rw [bj_f (fun h=>z1 ((onV2_1 c4).1 h).2.1)]
 ·have c4:=h
  refine ⟨trivial,?_⟩
  intro a149 k149
  have q149:=(show e 149=bj ((e 0)<bP) from a149)
  clear a149 k149
  refine ⟨fun h=>?_,fun h=>?_⟩
  ·have c149:=h
   have u0:e 0<bP:=bj_nz q149 c149
   refine ⟨trivial,?_⟩
   intro a389 k389
   have q389:=(show e 389=bj ((e 1)<bP) from a389)
   clear a389 k389
   refine ⟨fun h=>?_,fun h=>?_⟩
   ·have c389:=h
    have u1:e 1<bP:=bj_nz q389 c389
    refine ⟨trivial,?_⟩
    intro a677 k677
    have q677:=(show e 677=bj ((e 2)<bP) from a677)
    clear a677 k677
    refine ⟨fun h=>?_,fun h=>?_⟩
    ·have c677:=h
     have u2:e 2<bP:=bj_nz q677 c677
     refine ⟨trivial,?_⟩
     intro a965 k965
     have q965:=(show e 965=bj ((e 3)<bP) from a965)
     clear a965 k965
     refine ⟨fun h=>?_,fun h=>?_⟩
     ·have c965:=h
      have u3:e 3<bP:=bj_nz q965 c965
      refine ⟨⟨u2,u3,u2,u3⟩,?_⟩
      intro a1301 k1301
      have q1301:=(show e 1301=((e 2)*(e 2)-(e 3)*(e 3))%bP from a1301)
      clear a1301
      intro a1302 k1302
      have q1302:=(show e 1302=((e 2)*(e 3)+(e 3)*(e 2))%bP from a1302)
      clear a1302
      refine ⟨⟨u0,u1⟩,?_⟩
      intro a1445 k1445
      have q1445:=(show e 1445=(side2 (e 0,e 1)).1%bP from a1445)
      clear a1445
      intro a1446 k1446
      have q1446:=(show e 1446=(side2 (e 0,e 1)).2%bP from a1446)
      clear a1446
      intro a1493 k1493
      clear k1493
      have b1493:=c_num2 a1493 k1301 k1445 k1302 k1446
      clear a1493
      show [e 1493]=_
      refine congrArg (fun x=>[x]) ((bj_of b1493).trans (bj_iff ((onV2_0 c4).trans ?_).symm))
      rw [q1301,q1302,q1445,q1446]
      exact ⟨fun h=>⟨congrArg Prod.fst h.2,congrArg Prod.snd h.2⟩,fun h=>⟨⟨⟨u0,u1⟩,u2,u3⟩,Prod.ext h.1 h.2⟩⟩
     ·have c965:=h
      have u3:¬ e 3<bP:=bj_z q965 c965
      show [(0:Int)]=_
      rw [bj_f (fun h=>u3 h.1.2.2)]
    ·have c677:=h
     have u2:¬ e 2<bP:=bj_z q677 c677
     show [(0:Int)]=_
     rw [bj_f (fun h=>u2 h.1.2.1)]
   ·have c389:=h
    have u1:¬ e 1<bP:=bj_z q389 c389
    show [(0:Int)]=_
    rw [bj_f (fun h=>u1 h.1.1.2)]
  ·have c149:=h
   have u0:¬ e 0<bP:=bj_z q149 c149
   show [(0:Int)]=_
   rw [bj_f (fun h=>u0 h.1.1.1)]
def onE2 (a b c d z:Int):Prop:=if z=0 then R2.md (R2.mul (ofE c,ofE d) (ofE c,ofE d))=R2.md (side2 (ofE a,ofE b)) else (a=0/\b=0)/\(c=0/\d=0)
theorem onE2_0 {a b c d z:Int} (h:z=0):onE2 a b c d z↔R2.md (R2.mul (ofE c,ofE d) (ofE c,ofE d))=R2.md (side2 (ofE a,ofE b)):=by unfold onE2;rw [if_pos h]
theorem onE2_1 {a b c d z:Int} (h:¬ z=0):onE2 a b c d z↔((a=0/\b=0)/\(c=0/\d=0)):=by unfold onE2;rw [if_neg h]
noncomputable def kOn2 (o:Fo) (f:FuncId):K:={fn:=f,ext:=false,ins:=[.agg o.ls2,.agg lsQ2],outs:=[oB],pre:=fun | [_,_,s,t,a,b,c,d,_]=>(s=toE 4/\t=toE 4)/\(a<bP/\b<bP)/\(c<bP/\d<bP) | _=>False,sem:=fun | [_,_,_,_,a,b,c,d,z]=>[bj (onE2 a b c d z)] | _=>[] }
theorem law_e2One (f1 f:FuncId) (e:Nat->Int):(Tree.req 0 [] (.lett 0 .num (.app 0 0 []) (.ret [.var 0,.lit 0]))).says [kEOne f1] ⟨fun ys=>ys=(kE2One f).sem [],[]⟩ e:=by
 refine ⟨trivial,fun a0 _=>?_⟩
 show [e 0,0]=[toE 1,0]
 rw [show e 0=toE 1 from a0]
def t2On:Tree:=(.split 8
(.lett 9 .bit (.eqs [((.limb 4 0),(.lit 0)),((.limb 4 1),(.lit 0)),((.limb 4 2),(.lit 0)),((.limb 4 3),(.lit 0)),((.limb 4 4),(.lit 0)),((.limb 4 5),(.lit 0)),((.limb 5 0),(.lit 0)),((.limb 5 1),(.lit 0)),((.limb 5 2),(.lit 0)),((.limb 5 3),(.lit 0)),((.limb 5 4),(.lit 0)),((.limb 5 5),(.lit 0))])
(.split 9
 (.lett 10 .bit (.eqs [((.limb 6 0),(.lit 0)),((.limb 6 1),(.lit 0)),((.limb 6 2),(.lit 0)),((.limb 6 3),(.lit 0)),((.limb 6 4),(.lit 0)),((.limb 6 5),(.lit 0)),((.limb 7 0),(.lit 0)),((.limb 7 1),(.lit 0)),((.limb 7 2),(.lit 0)),((.limb 7 3),(.lit 0)),((.limb 7 4),(.lit 0)),((.limb 7 5),(.lit 0))])
 (.ret [.var 10]))
 (.ret [.lit 0])))
(.req 1 [.var 6,.var 7,.var 6,.var 7]
(.lett 297 .num (.app 1 0 [.var 6,.var 7,.var 6,.var 7])
(.lett 298 .num (.app 1 1 [.var 6,.var 7,.var 6,.var 7])
(.req 1 [.var 4,.var 5,.var 4,.var 5]
(.lett 825 .num (.app 1 0 [.var 4,.var 5,.var 4,.var 5])
(.lett 826 .num (.app 1 1 [.var 4,.var 5,.var 4,.var 5])
(.req 1 [.var 825,.var 826,.var 4,.var 5]
(.lett 969 .num (.app 1 0 [.var 825,.var 826,.var 4,.var 5])
(.lett 970 .num (.app 1 1 [.var 825,.var 826,.var 4,.var 5])
(.req 0 [.var 969,.var 970,.var 2,.var 3]
(.lett 1113 .num (.app 0 0 [.var 969,.var 970,.var 2,.var 3])
(.lett 1114 .num (.app 0 1 [.var 969,.var 970,.var 2,.var 3])
(.lett 1161 .bit (.eqs [((.limb 297 0),(.limb 1113 0)),((.limb 297 1),(.limb 1113 1)),((.limb 297 2),(.limb 1113 2)),((.limb 297 3),(.limb 1113 3)),((.limb 297 4),(.limb 1113 4)),((.limb 297 5),(.limb 1113 5)),((.limb 298 0),(.limb 1114 0)),((.limb 298 1),(.limb 1114 1)),((.limb 298 2),(.limb 1114 2)),((.limb 298 3),(.limb 1114 3)),((.limb 298 4),(.limb 1114 4)),((.limb 298 5),(.limb 1114 5))])
(.ret [.var 1161])))))))))))))))
theorem law_on2 (o:Fo) (f1 f2 f:FuncId) (e:Nat->Int) (hk:kkHas [.num,.num,.num,.num,.num,.num,.num,.num,.bit] [e 0,e 1,e 2,e 3,e 4,e 5,e 6,e 7,e 8]) (hp:(kOn2 o f).pre [e 0,e 1,e 2,e 3,e 4,e 5,e 6,e 7,e 8]):t2On.says [kE2Add f1,kE2Mul f2] ⟨fun ys=>ys=(kOn2 o f).sem [e 0,e 1,e 2,e 3,e 4,e 5,e 6,e 7,e 8],[]⟩ e:=by
 obtain ⟨⟨s0,s1⟩,⟨u4,u5⟩,u6,u7⟩:(e 2=toE 4/\e 3=toE 4)/\(e 4<bP/\e 5<bP)/\(e 6<bP/\e 7<bP):=hp
 obtain ⟨_,_,_,_,h4,h5,h6,h7,_⟩:=hk
 have k4:=h4
 have k5:=h5
 have k6:=h6
 have k7:=h7
 have q3:EQ (e 2) (e 3) (4,4):=⟨s0,s1⟩
 have q5:=EQ_self h4.1 u4 h5.1 u5
 have q7:=EQ_self h6.1 u6 h7.1 u7
 clear u4 u5 u6 u7 h4 h5 h6 h7 s0 s1
 show t2On.says _ ⟨fun ys=>ys=[bj (onE2 (e 4) (e 5) (e 6) (e 7) (e 8))],[]⟩ e
 refine ⟨fun h=>?_,fun h=>?_⟩
 ·have c8:=h
  intro a9 k9
  have b9:=c_num00 a9 k4 k5
  clear a9 k9
  refine ⟨fun h=>?_,fun h=>?_⟩
  ·have c9:=h
   have z1:e 4=0/\e 5=0:=b_yes b9 c9
   intro a10 k10
   have b10:=c_num00 a10 k6 k7
   clear a10 k10
   show [e 10]=_
   refine congrArg (fun x=>[x]) ((bj_of b10).trans (bj_iff ((onE2_1 c8).trans ?_).symm))
   exact ⟨fun h=>h.2,fun h=>⟨z1,h⟩⟩
  ·have c9:=h
   have z1:¬ (e 4=0/\e 5=0):=b_no b9 c9
   show [(0:Int)]=_
   rw [bj_f (fun h=>z1 ((onE2_1 c8).1 h).1)]
 ·have c8:=h
  refine ⟨⟨EQ.l1 q7,EQ.l2 q7,EQ.l1 q7,EQ.l2 q7⟩,?_⟩
  intro a297 k297
  have q297:=(show e 297=toE (ofE (e 6)*ofE (e 6)-ofE (e 7)*ofE (e 7)) from a297)
  clear a297
  intro a298 k298
  have q298:=EQ_mul q297 (show e 298=toE (ofE (e 6)*ofE (e 7)+ofE (e 7)*ofE (e 6)) from a298) q7 q7
  clear a298
  refine ⟨⟨EQ.l1 q5,EQ.l2 q5,EQ.l1 q5,EQ.l2 q5⟩,?_⟩
  intro a825 k825
  have q825:=(show e 825=toE (ofE (e 4)*ofE (e 4)-ofE (e 5)*ofE (e 5)) from a825)
  clear a825 k825
  intro a826 k826
  have q826:=EQ_mul q825 (show e 826=toE (ofE (e 4)*ofE (e 5)+ofE (e 5)*ofE (e 4)) from a826) q5 q5
  clear a826 k826
  refine ⟨⟨EQ.l1 q826,EQ.l2 q826,EQ.l1 q5,EQ.l2 q5⟩,?_⟩
  intro a969 k969
  have q969:=(show e 969=toE (ofE (e 825)*ofE (e 4)-ofE (e 826)*ofE (e 5)) from a969)
  clear a969 k969
  intro a970 k970
  have q970:=EQ_mul q969 (show e 970=toE (ofE (e 825)*ofE (e 5)+ofE (e 826)*ofE (e 4)) from a970) q826 q5
  clear a970 k970
  refine ⟨⟨EQ.l1 q970,EQ.l2 q970,EQ.l1 q3,EQ.l2 q3⟩,?_⟩
  intro a1113 k1113
  have q1113:=(show e 1113=toE (ofE (e 969)+ofE (e 2)) from a1113)
  clear a1113
  intro a1114 k1114
  have q1114:=EQ_add q1113 (show e 1114=toE (ofE (e 970)+ofE (e 3)) from a1114) q970 q3
  clear a1114
  intro a1161 k1161
  clear k1161
  have b1161:=c_num2 a1161 k297 k1113 k298 k1114
  clear a1161
  show [e 1161]=_
  refine congrArg (fun x=>[x]) ((bj_of b1161).trans (bj_iff ((onE2_0 c8).trans ?_).symm))
  rw [q298.1,q298.2,q1114.1,q1114.2]
  exact ⟨fun h=>⟨toE_md (congrArg Prod.fst h),toE_md (congrArg Prod.snd h)⟩,fun h=>Prod.ext (toE_inj h.1) (toE_inj h.2)⟩
def rsV2 (a b c d z:Int):J E2:=if z=0 then ⟨(a,b),(c,d),(1,0)⟩ else oJ R2
def inG2 (a b c d z:Int):Prop:=onV2 a b c d z/\R2.isz (tmJ R2 (rsV2 a b c d z) 384 rGreat.toNat).z=true
noncomputable def kInG2 (f:FuncId):K:={fn:=f,ext:=false,ins:=[.agg lsP2],outs:=[oB],pre:=fun _=>True,sem:=fun | [a,b,c,d,z]=>[bj (inG2 a b c d z)] | _=>[] }
theorem tm_o2:∀ (k n:Nat),R2.isz (tmJ R2 (oJ R2) k n).z=true
 | 0,_=>hom2.zb
 | k+1,n=>by
  have ih:=tm_o2 k (n/2)
  have hd:R2.isz (J.md R2 (dblJ R2 (tmJ R2 (oJ R2) k (n/2)))).z=true:=(hom2.mb).trans (hom2.dz (Or.inr ih))
  have e1:tmJ R2 (oJ R2) (k+1) n=if n=0 then oJ R2 else (if n%2=1 then J.md R2 (sumJ R2 (J.md R2 (dblJ R2 (tmJ R2 (oJ R2) k (n/2)))) (oJ R2)) else J.md R2 (dblJ R2 (tmJ R2 (oJ R2) k (n/2)))):=rfl
  rw [e1]
  by_cases hn:n=0
  ·rw [if_pos hn];exact hom2.zb
  ·rw [if_neg hn]
   by_cases hb:n%2=1
   ·rw [if_pos hb,sumJ_z1 hd];exact (hom2.mb).trans hom2.zb
   ·rw [if_neg hb];exact hd
theorem lowV2_4 (P:J E2):(lowV2 P).getD 4 0=if P.z.1%bP=0/\P.z.2%bP=0 then 1 else 0:=by
 unfold lowV2
 split <;> rfl
def tRInG2:Tree:=(.req 0 [.var 0,.var 1,.var 2,.var 3,.var 4]
(.lett 53 .bit (.app 0 0 [.var 0,.var 1,.var 2,.var 3,.var 4])
(.split 53
(.req 2 []
(.lett 197 .num (.app 2 0 [])
(.req 1 [.var 0,.var 1,.var 2,.var 3,.var 4,.var 197]
(.lett 245 .num (.app 1 0 [.var 0,.var 1,.var 2,.var 3,.var 4,.var 197])
(.lett 246 .num (.app 1 1 [.var 0,.var 1,.var 2,.var 3,.var 4,.var 197])
(.lett 247 .num (.app 1 2 [.var 0,.var 1,.var 2,.var 3,.var 4,.var 197])
(.lett 248 .num (.app 1 3 [.var 0,.var 1,.var 2,.var 3,.var 4,.var 197])
(.lett 249 .bit (.app 1 4 [.var 0,.var 1,.var 2,.var 3,.var 4,.var 197])
(.ret [.var 249])))))))))
(.ret [.lit 0]))))
theorem law_rIn2 (f1 f2 f3 f:FuncId) (e:Nat->Int) (hk:kkHas [.num,.num,.num,.num,.bit] [e 0,e 1,e 2,e 3,e 4]):tRInG2.says [kCheck2 f1,kRMulP2 f2,kMOrder f3] ⟨fun ys=>ys=(kInG2 f).sem [e 0,e 1,e 2,e 3,e 4],[]⟩ e:=by
 obtain ⟨_,_,_,_,h2,_⟩:=hk
 show tRInG2.says _ ⟨fun ys=>ys=[bj (inG2 (e 0) (e 1) (e 2) (e 3) (e 4))],[]⟩ e
 refine ⟨trivial,?_⟩
 intro a53 k53
 have q53:=(show e 53=bj (onV2 (e 0) (e 1) (e 2) (e 3) (e 4)) from a53)
 clear a53 k53
 refine ⟨fun h=>?_,fun h=>?_⟩
 ·have c53:=h
  have z1:onV2 (e 0) (e 1) (e 2) (e 3) (e 4):=bj_nz q53 c53
  refine ⟨trivial,?_⟩
  intro a197 k197
  have q197:=(show e 197=rGreat from a197)
  clear a197 k197
  refine ⟨z1.1,?_⟩
  intro a245 k245
  have q245:=(show e 245=(mulV2 (e 0) (e 1) (e 2) (e 3) (e 4) (e 197)).getD 0 0 from a245)
  clear a245 k245
  intro a246 k246
  have q246:=(show e 246=(mulV2 (e 0) (e 1) (e 2) (e 3) (e 4) (e 197)).getD 1 0 from a246)
  clear a246 k246
  intro a247 k247
  have q247:=(show e 247=(mulV2 (e 0) (e 1) (e 2) (e 3) (e 4) (e 197)).getD 2 0 from a247)
  clear a247 k247
  intro a248 k248
  have q248:=(show e 248=(mulV2 (e 0) (e 1) (e 2) (e 3) (e 4) (e 197)).getD 3 0 from a248)
  clear a248 k248
  intro a249 k249
  have q249:=(show e 249=(mulV2 (e 0) (e 1) (e 2) (e 3) (e 4) (e 197)).getD 4 0 from a249)
  clear a249 k249
  show [e 249]=_
  rw [q197] at q249
  refine congrArg (fun x=>[x]) (bj_of ?_)
  by_cases hz:e 4=0
  ·have hr:rsV2 (e 0) (e 1) (e 2) (e 3) (e 4)=⟨(e 0,e 1),(e 2,e 3),(1,0)⟩:=if_pos hz
   have hm:mulV2 (e 0) (e 1) (e 2) (e 3) (e 4) rGreat=lowV2 (tmJ R2 (rsV2 (e 0) (e 1) (e 2) (e 3) (e 4)) 384 rGreat.toNat):=by rw [hr];exact if_pos hz
   rw [hm,lowV2_4] at q249
   generalize hW:tmJ R2 (rsV2 (e 0) (e 1) (e 2) (e 3) (e 4)) 384 rGreat.toNat=W at q249
   by_cases ht:R2.isz W.z=true
   ·left;refine ⟨?_,z1,by rw [hW];exact ht⟩;rw [q249,if_pos (isz3.1 ht)]
   ·right;refine ⟨?_,fun h=>ht (by have:=h.2;rw [hW] at this;exact this)⟩;rw [q249,if_neg (fun h=>ht (isz3.2 h))]
  ·have hr:rsV2 (e 0) (e 1) (e 2) (e 3) (e 4)=oJ R2:=if_neg hz
   have hm:mulV2 (e 0) (e 1) (e 2) (e 3) (e 4) rGreat=[e 0,e 1,e 2,e 3,e 4]:=if_neg hz
   rw [hm] at q249
   have h2:0<=e 4/\e 4<=1:=h2
   have q249:e 249=e 4:=q249
   left;refine ⟨by omega,z1,?_⟩
   rw [hr];exact tm_o2 _ _
 ·have c53:=h
  have z1:¬ onV2 (e 0) (e 1) (e 2) (e 3) (e 4):=bj_z q53 c53
  show [(0:Int)]=_
  rw [bj_f (fun h=>z1 h.1)]
theorem JS_mdmd {P Q:J E2} (h:JS P Q):JS (J.md R2 P) (J.md R2 Q):=(JS_md P).trans (h.trans (JS_md Q).symm)
theorem JS_tm {P Q:J E2} (h:JS P Q):∀ k n,JS (tmJ R2 P k n) (tmJ R2 Q k n)
 | 0,n=>JS.refl _
 | k+1,n=>by
  have ih:=JS_tm h k (n/2)
  have e1:∀ W:J E2,tmJ R2 W (k+1) n=if n=0 then oJ R2 else (if n%2=1 then J.md R2 (sumJ R2 (J.md R2 (dblJ R2 (tmJ R2 W k (n/2)))) W) else J.md R2 (dblJ R2 (tmJ R2 W k (n/2)))):=fun _=>rfl
  have d:=JS_mdmd (JS_dbl ih)
  rw [e1,e1]
  by_cases h0:n=0
  ·rw [if_pos h0,if_pos h0];exact JS.refl _
  ·rw [if_neg h0,if_neg h0]
   by_cases h1:n%2=1
   ·rw [if_pos h1,if_pos h1];exact JS_mdmd (JS_sum d h)
   ·rw [if_neg h1,if_neg h1];exact d
def rsE2 (a b c d z:Int):J E2:=if z=0 then ⟨(ofE a,ofE b),(ofE c,ofE d),(1,0)⟩ else oJ R2
theorem raise_e2 {a b c d z:Int} (ha:(0<=a/\a<bP)/\(0<=b/\b<bP)) (hc:(0<=c/\c<bP)/\(0<=d/\d<bP)):(if z=0 then [a,b,c,d,toE 1,0] else [toE 1,0,toE 1,0,0,0])=(rsE2 a b c d z).e2:=by
 unfold rsE2
 by_cases h:z=0
 ·rw [if_pos h,if_pos h]
  show _=[toE (ofE a),toE (ofE b),toE (ofE c),toE (ofE d),toE 1,toE 0]
  rw [toE_ofE ha.1.1 ha.1.2,toE_ofE ha.2.1 ha.2.2,toE_ofE hc.1.1 hc.1.2,toE_ofE hc.2.1 hc.2.2,toE_0]
 ·rw [if_neg h,if_neg h];exact oJ_e2.symm
theorem JS_isz {P Q:J E2} (h:JS P Q):R2.isz P.z=R2.isz Q.z:=S2_isz h.2.2
noncomputable def kPIn2 (o:Fo) (f:FuncId):K:={fn:=f,ext:=false,ins:=[.agg o.ls2,.agg lsQ2],outs:=[oB],pre:=fun | [u,v,s,t,a,b,c,d,_]=>(u=toE 1/\v=0)/\(s=toE 4/\t=toE 4)/\(a<bP/\b<bP)/\(c<bP/\d<bP) | _=>False,sem:=fun | [_,_,_,_,a,b,c,d,z]=>[bj (onE2 a b c d z/\R2.isz (tmJ R2 (rsE2 a b c d z) 384 rGreat.toNat).z=true)] | _=>[] }
theorem lowE2_4 (P:J E2):(lowE2 P).getD 4 0=if P.z.1%bP=0/\P.z.2%bP=0 then 1 else 0:=by
 unfold lowE2
 split <;> rfl
def t2PIn:Tree:=(.req 0 [.var 0,.var 1,.var 2,.var 3,.var 4,.var 5,.var 6,.var 7,.var 8]
(.lett 105 .bit (.app 0 0 [.var 0,.var 1,.var 2,.var 3,.var 4,.var 5,.var 6,.var 7,.var 8])
(.split 105
(.req 1 [.var 0,.var 1,.var 2,.var 3,.var 4,.var 5,.var 6,.var 7,.var 8]
(.lett 393 .num (.app 1 0 [.var 0,.var 1,.var 2,.var 3,.var 4,.var 5,.var 6,.var 7,.var 8])
(.lett 394 .num (.app 1 1 [.var 0,.var 1,.var 2,.var 3,.var 4,.var 5,.var 6,.var 7,.var 8])
(.lett 395 .num (.app 1 2 [.var 0,.var 1,.var 2,.var 3,.var 4,.var 5,.var 6,.var 7,.var 8])
(.lett 396 .num (.app 1 3 [.var 0,.var 1,.var 2,.var 3,.var 4,.var 5,.var 6,.var 7,.var 8])
(.lett 397 .num (.app 1 4 [.var 0,.var 1,.var 2,.var 3,.var 4,.var 5,.var 6,.var 7,.var 8])
(.lett 398 .num (.app 1 5 [.var 0,.var 1,.var 2,.var 3,.var 4,.var 5,.var 6,.var 7,.var 8])
(.req 2 []
(.lett 441 .num (.app 2 0 [])
(.req 3 [.var 0,.var 1,.var 2,.var 3,.var 393,.var 394,.var 395,.var 396,.var 397,.var 398,.var 441]
(.lett 489 .num (.app 3 0 [.var 0,.var 1,.var 2,.var 3,.var 393,.var 394,.var 395,.var 396,.var 397,.var 398,.var 441])
(.lett 490 .num (.app 3 1 [.var 0,.var 1,.var 2,.var 3,.var 393,.var 394,.var 395,.var 396,.var 397,.var 398,.var 441])
(.lett 491 .num (.app 3 2 [.var 0,.var 1,.var 2,.var 3,.var 393,.var 394,.var 395,.var 396,.var 397,.var 398,.var 441])
(.lett 492 .num (.app 3 3 [.var 0,.var 1,.var 2,.var 3,.var 393,.var 394,.var 395,.var 396,.var 397,.var 398,.var 441])
(.lett 493 .num (.app 3 4 [.var 0,.var 1,.var 2,.var 3,.var 393,.var 394,.var 395,.var 396,.var 397,.var 398,.var 441])
(.lett 494 .num (.app 3 5 [.var 0,.var 1,.var 2,.var 3,.var 393,.var 394,.var 395,.var 396,.var 397,.var 398,.var 441])
(.req 4 [.var 0,.var 1,.var 2,.var 3,.var 489,.var 490,.var 491,.var 492,.var 493,.var 494]
(.lett 537 .num (.app 4 0 [.var 0,.var 1,.var 2,.var 3,.var 489,.var 490,.var 491,.var 492,.var 493,.var 494])
(.lett 538 .num (.app 4 1 [.var 0,.var 1,.var 2,.var 3,.var 489,.var 490,.var 491,.var 492,.var 493,.var 494])
(.lett 539 .num (.app 4 2 [.var 0,.var 1,.var 2,.var 3,.var 489,.var 490,.var 491,.var 492,.var 493,.var 494])
(.lett 540 .num (.app 4 3 [.var 0,.var 1,.var 2,.var 3,.var 489,.var 490,.var 491,.var 492,.var 493,.var 494])
(.lett 541 .bit (.app 4 4 [.var 0,.var 1,.var 2,.var 3,.var 489,.var 490,.var 491,.var 492,.var 493,.var 494])
(.ret [.var 541])))))))))))))))))))))))
(.ret [.lit 0]))))
theorem law_pIn2 (o:Fo) (f1 f2 f3 f4 f5 f:FuncId) (e:Nat->Int) (hk:kkHas [.num,.num,.num,.num,.num,.num,.num,.num,.bit] [e 0,e 1,e 2,e 3,e 4,e 5,e 6,e 7,e 8]) (hp:(kPIn2 o f).pre [e 0,e 1,e 2,e 3,e 4,e 5,e 6,e 7,e 8]):t2PIn.says [kOn2 o f1,kRaise2 o f2,kMOrder f3,kTimes2 o f4,kLower2 o f5] ⟨fun ys=>ys=(kPIn2 o f).sem [e 0,e 1,e 2,e 3,e 4,e 5,e 6,e 7,e 8],[]⟩ e:=by
 obtain ⟨⟨w0,w1⟩,s,u4,u6⟩:(e 0=toE 1/\e 1=0)/\(e 2=toE 4/\e 3=toE 4)/\(e 4<bP/\e 5<bP)/\(e 6<bP/\e 7<bP):=hp
 obtain ⟨_,_,_,_,h4,h5,h6,h7,_⟩:=hk
 have hra:=raise_e2 (z:=e 8) ⟨⟨h4.1,u4.1⟩,⟨h5.1,u4.2⟩⟩ ⟨⟨h6.1,u6.1⟩,⟨h7.1,u6.2⟩⟩
 show t2PIn.says _ ⟨fun ys=>ys=[bj (onE2 (e 4) (e 5) (e 6) (e 7) (e 8)/\R2.isz (tmJ R2 (rsE2 (e 4) (e 5) (e 6) (e 7) (e 8)) 384 rGreat.toNat).z=true)],[]⟩ e
 refine ⟨⟨s,u4,u6⟩,?_⟩
 intro a105 k105
 have q105:=(show e 105=bj (onE2 (e 4) (e 5) (e 6) (e 7) (e 8)) from a105)
 clear a105 k105
 refine ⟨fun h=>?_,fun h=>?_⟩
 ·have c105:=h
  have z1:onE2 (e 4) (e 5) (e 6) (e 7) (e 8):=bj_nz q105 c105
  refine ⟨trivial,?_⟩
  intro a393 k393
  have q393:=(show e 393=(if (e 8)=0 then [(e 4),(e 5),(e 6),(e 7),(e 0),(e 1)] else [(e 0),(e 1),(e 0),(e 1),0,0]).getD 0 0 from a393)
  clear a393 k393
  intro a394 k394
  have q394:=(show e 394=(if (e 8)=0 then [(e 4),(e 5),(e 6),(e 7),(e 0),(e 1)] else [(e 0),(e 1),(e 0),(e 1),0,0]).getD 1 0 from a394)
  clear a394 k394
  intro a395 k395
  have q395:=(show e 395=(if (e 8)=0 then [(e 4),(e 5),(e 6),(e 7),(e 0),(e 1)] else [(e 0),(e 1),(e 0),(e 1),0,0]).getD 2 0 from a395)
  clear a395 k395
  intro a396 k396
  have q396:=(show e 396=(if (e 8)=0 then [(e 4),(e 5),(e 6),(e 7),(e 0),(e 1)] else [(e 0),(e 1),(e 0),(e 1),0,0]).getD 3 0 from a396)
  clear a396 k396
  intro a397 k397
  have q397:=(show e 397=(if (e 8)=0 then [(e 4),(e 5),(e 6),(e 7),(e 0),(e 1)] else [(e 0),(e 1),(e 0),(e 1),0,0]).getD 4 0 from a397)
  clear a397 k397
  intro a398 k398
  have q398:=(show e 398=(if (e 8)=0 then [(e 4),(e 5),(e 6),(e 7),(e 0),(e 1)] else [(e 0),(e 1),(e 0),(e 1),0,0]).getD 5 0 from a398)
  clear a398 k398
  have hR:[e 393,e 394,e 395,e 396,e 397,e 398]=(rsE2 (e 4) (e 5) (e 6) (e 7) (e 8)).e2:=by
   rw [<- hra,q393,q394,q395,q396,q397,q398,w0,w1]
   by_cases hz:e 8=0
   ·simp only [if_pos hz];rfl
   ·simp only [if_neg hz];rfl
  clear q393 q394 q395 q396 q397 q398
  refine ⟨trivial,?_⟩
  intro a441 k441
  have q441:=(show e 441=rGreat from a441)
  clear a441 k441
  refine ⟨⟨⟨w0,w1⟩,e2_lt hR⟩,?_⟩
  intro a489 k489
  have q489:=(show e 489=((tmJ R2 (ofJ2 (e 393) (e 394) (e 395) (e 396) (e 397) (e 398)) 384 (e 441).toNat).e2).getD 0 0 from a489)
  clear a489 k489
  intro a490 k490
  have q490:=(show e 490=((tmJ R2 (ofJ2 (e 393) (e 394) (e 395) (e 396) (e 397) (e 398)) 384 (e 441).toNat).e2).getD 1 0 from a490)
  clear a490 k490
  intro a491 k491
  have q491:=(show e 491=((tmJ R2 (ofJ2 (e 393) (e 394) (e 395) (e 396) (e 397) (e 398)) 384 (e 441).toNat).e2).getD 2 0 from a491)
  clear a491 k491
  intro a492 k492
  have q492:=(show e 492=((tmJ R2 (ofJ2 (e 393) (e 394) (e 395) (e 396) (e 397) (e 398)) 384 (e 441).toNat).e2).getD 3 0 from a492)
  clear a492 k492
  intro a493 k493
  have q493:=(show e 493=((tmJ R2 (ofJ2 (e 393) (e 394) (e 395) (e 396) (e 397) (e 398)) 384 (e 441).toNat).e2).getD 4 0 from a493)
  clear a493 k493
  intro a494 k494
  have q494:=(show e 494=((tmJ R2 (ofJ2 (e 393) (e 394) (e 395) (e 396) (e 397) (e 398)) 384 (e 441).toNat).e2).getD 5 0 from a494)
  clear a494 k494
  have hT:[e 489,e 490,e 491,e 492,e 493,e 494]=(tmJ R2 (rsE2 (e 4) (e 5) (e 6) (e 7) (e 8)) 384 rGreat.toNat).e2:=by
   rw [q489,q490,q491,q492,q493,q494,q441]
   exact (show _=(tmJ R2 (ofJ2 (e 393) (e 394) (e 395) (e 396) (e 397) (e 398)) 384 rGreat.toNat).e2 from rfl).trans (JS_tm (JS_of hR) _ _).e2
  generalize hW:tmJ R2 (rsE2 (e 4) (e 5) (e 6) (e 7) (e 8)) 384 rGreat.toNat=W at hT
  clear q489 q490 q491 q492 q493 q494
  refine ⟨e2_lt hT,?_⟩
  intro a537 k537
  have q537:=(show e 537=(lowE2 (ofJ2 (e 489) (e 490) (e 491) (e 492) (e 493) (e 494))).getD 0 0 from a537)
  clear a537 k537
  intro a538 k538
  have q538:=(show e 538=(lowE2 (ofJ2 (e 489) (e 490) (e 491) (e 492) (e 493) (e 494))).getD 1 0 from a538)
  clear a538 k538
  intro a539 k539
  have q539:=(show e 539=(lowE2 (ofJ2 (e 489) (e 490) (e 491) (e 492) (e 493) (e 494))).getD 2 0 from a539)
  clear a539 k539
  intro a540 k540
  have q540:=(show e 540=(lowE2 (ofJ2 (e 489) (e 490) (e 491) (e 492) (e 493) (e 494))).getD 3 0 from a540)
  clear a540 k540
  intro a541 k541
  have q541:=(show e 541=(lowE2 (ofJ2 (e 489) (e 490) (e 491) (e 492) (e 493) (e 494))).getD 4 0 from a541)
  clear a541 k541
  show [e 541]=_
  rw [lowE2_4] at q541
  have hj:=S2_isz (JS_of hT).2.2
  refine congrArg (fun x=>[x]) (bj_of ?_)
  by_cases ht:R2.isz W.z=true
  ·exact Or.inl ⟨q541.trans (if_pos (isz3.1 (hj.trans ht))),z1,ht⟩
  ·exact Or.inr ⟨q541.trans (if_neg (fun h=>ht (hj.symm.trans (isz3.2 h)))),fun h=>ht h.2⟩
 ·have c105:=h
  have z1:¬ onE2 (e 4) (e 5) (e 6) (e 7) (e 8):=bj_z q105 c105
  show [(0:Int)]=_
  rw [bj_f (fun h=>z1 h.1)]
noncomputable def kBelow2 (f:FuncId):K:={fn:=f,ext:=false,ins:=[.agg lsQ2],outs:=[oB],pre:=fun _=>True,sem:=fun | [a,b,c,d,_]=>[bj ((a<bP/\b<bP)/\(c<bP/\d<bP))] | _=>[] }
def kIn2 (f:FuncId):K:={fn:=f,ext:=false,ins:=[.agg lsQ2],outs:=[.agg lsQ2],pre:=fun _=>True,sem:=fun | [a,b,c,d,z]=>[toE a,toE b,toE c,toE d,z] | _=>[] }
def tBelowN:Tree:=(.req 1 []
(.lett 49 .num (.app 1 0 [])
(.req 0 [.var 0,.var 49]
(.lett 97 (.int .i64) (.app 0 0 [.var 0,.var 49])
(.lett 145 .bit (.cmp .lss (.var 97) (.lit 0))
(.ret [.var 145]))))))
theorem law_belowN (f1 f2 f:FuncId) (e:Nat->Int) (hk:kkHas [.num] [e 0]):tBelowN.says [kWCmp f1,kMBase f2] ⟨fun ys=>ys=(kRBelow f).sem [e 0],[]⟩ e:=by
 clear hk
 show tBelowN.says _ ⟨fun ys=>ys=[bj (e 0<bP)],[]⟩ e
 refine ⟨trivial,?_⟩
 intro a49 k49
 have q49:=(show e 49=bP from a49)
 clear a49 k49
 refine ⟨trivial,?_⟩
 intro a97 k97
 have q97:=(show e 97=if (e 0)<(e 49) then -1 else if (e 0)=(e 49) then 0 else 1 from a97)
 clear a97 k97
 intro a145 k145
 have b145:=c_lt a145
 simp only [ev_var,ev_lit,ev_limb] at b145
 clear a145 k145
 show [e 145]=_
 rw [q49] at q97
 exact congrArg (fun x=>[x]) (bj_of (p:=e 0<bP) (by
  rcases b145 with ⟨h1,h2⟩ | ⟨h1,h2⟩
  ·left;refine ⟨h1,?_⟩;rw [q97] at h2;split at h2
   ·assumption
   ·split at h2 <;> exact absurd h2 (by decide)
  ·right;refine ⟨h1,fun hc=>h2 ?_⟩;rw [q97,if_pos hc];decide))
def t2Below:Tree:=(.req 0 [.var 0]
(.lett 5 .bit (.app 0 0 [.var 0])
(.split 5
(.req 0 [.var 1]
(.lett 6 .bit (.app 0 0 [.var 1])
(.split 6
 (.req 0 [.var 2]
 (.lett 7 .bit (.app 0 0 [.var 2])
 (.split 7
 (.req 0 [.var 3]
 (.lett 8 .bit (.app 0 0 [.var 3])
 (.ret [.var 8])))
 (.ret [.lit 0]))))
 (.ret [.lit 0]))))
(.ret [.lit 0]))))
theorem law_below2 (f1 f:FuncId) (e:Nat->Int):t2Below.says [kRBelow f1] ⟨fun ys=>ys=(kBelow2 f).sem [e 0,e 1,e 2,e 3,e 4],[]⟩ e:=by
 show t2Below.says _ ⟨fun ys=>ys=[bj ((e 0<bP/\e 1<bP)/\(e 2<bP/\e 3<bP))],[]⟩ e
 refine ⟨trivial,?_⟩
 intro a5 k5
 have q5:=(show e 5=bj ((e 0)<bP) from a5)
 clear a5 k5
 refine ⟨fun h=>?_,fun h=>?_⟩
 ·have c5:=h
  have u0:e 0<bP:=bj_nz q5 c5
  refine ⟨trivial,?_⟩
  intro a6 k6
  have q6:=(show e 6=bj ((e 1)<bP) from a6)
  clear a6 k6
  refine ⟨fun h=>?_,fun h=>?_⟩
  ·have c6:=h
   have u1:e 1<bP:=bj_nz q6 c6
   refine ⟨trivial,?_⟩
   intro a7 k7
   have q7:=(show e 7=bj ((e 2)<bP) from a7)
   clear a7 k7
   refine ⟨fun h=>?_,fun h=>?_⟩
   ·have c7:=h
    have u2:e 2<bP:=bj_nz q7 c7
    refine ⟨trivial,?_⟩
    intro a8 k8
    have q8:=(show e 8=bj ((e 3)<bP) from a8)
    clear a8 k8
    show [e 8]=_
    rw [q8];exact congrArg (fun x=>[x]) (bj_iff ⟨fun h=>⟨⟨u0,u1⟩,u2,h⟩,fun h=>h.2.2⟩)
   ·have c7:=h
    have u2:¬ e 2<bP:=bj_z q7 c7
    show [(0:Int)]=_
    rw [bj_f (fun h=>u2 h.2.1)]
  ·have c6:=h
   have u1:¬ e 1<bP:=bj_z q6 c6
   show [(0:Int)]=_
   rw [bj_f (fun h=>u1 h.1.2)]
 ·have c5:=h
  have u0:¬ e 0<bP:=bj_z q5 c5
  show [(0:Int)]=_
  rw [bj_f (fun h=>u0 h.1.1)]
def t2In:Tree:=(.req 0 [.var 0,.var 1]
(.lett 101 .num (.app 0 0 [.var 0,.var 1])
(.lett 102 .num (.app 0 1 [.var 0,.var 1])
(.req 0 [.var 2,.var 3]
(.lett 245 .num (.app 0 0 [.var 2,.var 3])
(.lett 246 .num (.app 0 1 [.var 2,.var 3])
(.ret [.var 101,.var 102,.var 245,.var 246,.var 4])))))))
theorem law_in2 (f1 f:FuncId) (e:Nat->Int):t2In.says [kE2To f1] ⟨fun ys=>ys=(kIn2 f).sem [e 0,e 1,e 2,e 3,e 4],[]⟩ e:=by
 show t2In.says _ ⟨fun ys=>ys=[toE (e 0),toE (e 1),toE (e 2),toE (e 3),e 4],[]⟩ e
 refine ⟨trivial,?_⟩
 intro a101 k101
 have q101:=(show e 101=toE (e 0) from a101)
 clear a101 k101
 intro a102 k102
 have q102:=(show e 102=toE (e 1) from a102)
 clear a102 k102
 refine ⟨trivial,?_⟩
 intro a245 k245
 have q245:=(show e 245=toE (e 2) from a245)
 clear a245 k245
 intro a246 k246
 have q246:=(show e 246=toE (e 3) from a246)
 clear a246 k246
 show [e 101,e 102,e 245,e 246,e 4]=_
 rw [q101,q102,q245,q246]
theorem toE_z0 {a:Int} (h0:0<=a) (h1:a<bP):toE a=0↔a=0:=toE_zero.trans (by rw [Int.emod_eq_of_lt h0 h1])
theorem ofto {a:Int} (h0:0<=a) (h1:a<bP):ofE (toE a)=a:=by rw [ofE_toE];exact Int.emod_eq_of_lt h0 h1
theorem onE2_to {a b c d z:Int} (ha:0<=a) (hb:0<=b) (hc:0<=c) (hd:0<=d) (h:(a<bP/\b<bP)/\(c<bP/\d<bP)):onE2 (toE a) (toE b) (toE c) (toE d) z↔onV2 a b c d z:=by
 by_cases hz:z=0
 ·rw [onE2_0 hz,onV2_0 hz,ofto ha h.1.1,ofto hb h.1.2,ofto hc h.2.1,ofto hd h.2.2]
  exact ⟨fun x=>⟨h,x⟩,fun x=>x.2⟩
 ·rw [onE2_1 hz,onV2_1 hz,toE_z0 ha h.1.1,toE_z0 hb h.1.2,toE_z0 hc h.2.1,toE_z0 hd h.2.2]
  exact ⟨fun x=>⟨h,x⟩,fun x=>x.2⟩
theorem rsE2_to {a b c d z:Int} (ha:0<=a) (hb:0<=b) (hc:0<=c) (hd:0<=d) (h:(a<bP/\b<bP)/\(c<bP/\d<bP)):rsE2 (toE a) (toE b) (toE c) (toE d) z=rsV2 a b c d z:=by
 unfold rsE2 rsV2
 rw [ofto ha h.1.1,ofto hb h.1.2,ofto hc h.2.1,ofto hd h.2.2]
def t2Check:Tree:=(.req 0 [.var 0,.var 1,.var 2,.var 3,.var 4]
(.lett 53 .bit (.app 0 0 [.var 0,.var 1,.var 2,.var 3,.var 4])
(.split 53
(.req 1 []
(.lett 149 .num (.app 1 0 [])
(.lett 150 .num (.app 1 1 [])
(.lett 151 .num (.app 1 2 [])
(.lett 152 .num (.app 1 3 [])
(.req 2 [.var 0,.var 1,.var 2,.var 3,.var 4]
(.lett 245 .num (.app 2 0 [.var 0,.var 1,.var 2,.var 3,.var 4])
(.lett 246 .num (.app 2 1 [.var 0,.var 1,.var 2,.var 3,.var 4])
(.lett 247 .num (.app 2 2 [.var 0,.var 1,.var 2,.var 3,.var 4])
(.lett 248 .num (.app 2 3 [.var 0,.var 1,.var 2,.var 3,.var 4])
(.lett 249 .bit (.app 2 4 [.var 0,.var 1,.var 2,.var 3,.var 4])
(.req 3 [.var 149,.var 150,.var 151,.var 152,.var 245,.var 246,.var 247,.var 248,.var 249]
(.lett 293 .bit (.app 3 0 [.var 149,.var 150,.var 151,.var 152,.var 245,.var 246,.var 247,.var 248,.var 249])
(.ret [.var 293]))))))))))))))
(.ret [.lit 0]))))
theorem law_check2 (o:Fo) (f1 f2 f3 f4 f:FuncId) (e:Nat->Int) (hk:kkHas [.num,.num,.num,.num,.bit] [e 0,e 1,e 2,e 3,e 4]):t2Check.says [kBelow2 f1,kSecond o f2,kIn2 f3,kOn2 o f4] ⟨fun ys=>ys=(kCheck2 f).sem [e 0,e 1,e 2,e 3,e 4],[]⟩ e:=by
 obtain ⟨h0,h1,h2,h3,_⟩:=hk
 show t2Check.says _ ⟨fun ys=>ys=[bj (onV2 (e 0) (e 1) (e 2) (e 3) (e 4))],[]⟩ e
 refine ⟨trivial,?_⟩
 intro a53 k53
 have q53:=(show e 53=bj (((e 0)<bP/\(e 1)<bP)/\((e 2)<bP/\(e 3)<bP)) from a53)
 clear a53 k53
 refine ⟨fun h=>?_,fun h=>?_⟩
 ·have c53:=h
  have u:(e 0<bP/\e 1<bP)/\(e 2<bP/\e 3<bP):=bj_nz q53 c53
  refine ⟨trivial,?_⟩
  intro a149 k149
  have q149:=(show e 149=toE 1 from a149)
  clear a149 k149
  intro a150 k150
  have q150:=(show e 150=(0:Int) from a150)
  clear a150 k150
  intro a151 k151
  have q151:=(show e 151=toE 4 from a151)
  clear a151 k151
  intro a152 k152
  have q152:=(show e 152=toE 4 from a152)
  clear a152 k152
  refine ⟨trivial,?_⟩
  intro a245 k245
  have q245:=(show e 245=toE (e 0) from a245)
  clear a245 k245
  intro a246 k246
  have q246:=(show e 246=toE (e 1) from a246)
  clear a246 k246
  intro a247 k247
  have q247:=(show e 247=toE (e 2) from a247)
  clear a247 k247
  intro a248 k248
  have q248:=(show e 248=toE (e 3) from a248)
  clear a248 k248
  intro a249 k249
  have q249:=(show e 249=(e 4) from a249)
  clear a249 k249
  refine ⟨⟨⟨q151,q152⟩,⟨E_lt q245,E_lt q246⟩,E_lt q247,E_lt q248⟩,?_⟩
  intro a293 k293
  have q293:=(show e 293=bj (onE2 (e 245) (e 246) (e 247) (e 248) (e 249)) from a293)
  clear a293 k293
  show [e 293]=_
  rw [q245,q246,q247,q248,q249] at q293
  rw [q293];exact congrArg (fun x=>[x]) (bj_iff (onE2_to h0.1 h1.1 h2.1 h3.1 u))
 ·have c53:=h
  have u:¬ ((e 0<bP/\e 1<bP)/\(e 2<bP/\e 3<bP)):=bj_z q53 c53
  show [(0:Int)]=_
  rw [bj_f (fun h=>u h.1)]
def t2InG:Tree:=(.req 0 [.var 0,.var 1,.var 2,.var 3,.var 4]
(.lett 53 .bit (.app 0 0 [.var 0,.var 1,.var 2,.var 3,.var 4])
(.split 53
(.req 1 []
(.lett 149 .num (.app 1 0 [])
(.lett 150 .num (.app 1 1 [])
(.lett 151 .num (.app 1 2 [])
(.lett 152 .num (.app 1 3 [])
(.req 2 [.var 0,.var 1,.var 2,.var 3,.var 4]
(.lett 245 .num (.app 2 0 [.var 0,.var 1,.var 2,.var 3,.var 4])
(.lett 246 .num (.app 2 1 [.var 0,.var 1,.var 2,.var 3,.var 4])
(.lett 247 .num (.app 2 2 [.var 0,.var 1,.var 2,.var 3,.var 4])
(.lett 248 .num (.app 2 3 [.var 0,.var 1,.var 2,.var 3,.var 4])
(.lett 249 .bit (.app 2 4 [.var 0,.var 1,.var 2,.var 3,.var 4])
(.req 3 [.var 149,.var 150,.var 151,.var 152,.var 245,.var 246,.var 247,.var 248,.var 249]
(.lett 293 .bit (.app 3 0 [.var 149,.var 150,.var 151,.var 152,.var 245,.var 246,.var 247,.var 248,.var 249])
(.ret [.var 293]))))))))))))))
(.ret [.lit 0]))))
theorem law_inG2 (o:Fo) (f1 f2 f3 f4 f:FuncId) (e:Nat->Int) (hk:kkHas [.num,.num,.num,.num,.bit] [e 0,e 1,e 2,e 3,e 4]):t2InG.says [kBelow2 f1,kSecond o f2,kIn2 f3,kPIn2 o f4] ⟨fun ys=>ys=(kInG2 f).sem [e 0,e 1,e 2,e 3,e 4],[]⟩ e:=by
 obtain ⟨h0,h1,h2,h3,_⟩:=hk
 show t2InG.says _ ⟨fun ys=>ys=[bj (inG2 (e 0) (e 1) (e 2) (e 3) (e 4))],[]⟩ e
 refine ⟨trivial,?_⟩
 intro a53 k53
 have q53:=(show e 53=bj (((e 0)<bP/\(e 1)<bP)/\((e 2)<bP/\(e 3)<bP)) from a53)
 clear a53 k53
 refine ⟨fun h=>?_,fun h=>?_⟩
 ·have c53:=h
  have u:(e 0<bP/\e 1<bP)/\(e 2<bP/\e 3<bP):=bj_nz q53 c53
  refine ⟨trivial,?_⟩
  intro a149 k149
  have q149:=(show e 149=toE 1 from a149)
  clear a149 k149
  intro a150 k150
  have q150:=(show e 150=(0:Int) from a150)
  clear a150 k150
  intro a151 k151
  have q151:=(show e 151=toE 4 from a151)
  clear a151 k151
  intro a152 k152
  have q152:=(show e 152=toE 4 from a152)
  clear a152 k152
  refine ⟨trivial,?_⟩
  intro a245 k245
  have q245:=(show e 245=toE (e 0) from a245)
  clear a245 k245
  intro a246 k246
  have q246:=(show e 246=toE (e 1) from a246)
  clear a246 k246
  intro a247 k247
  have q247:=(show e 247=toE (e 2) from a247)
  clear a247 k247
  intro a248 k248
  have q248:=(show e 248=toE (e 3) from a248)
  clear a248 k248
  intro a249 k249
  have q249:=(show e 249=(e 4) from a249)
  clear a249 k249
  refine ⟨⟨⟨q149,q150⟩,⟨q151,q152⟩,⟨E_lt q245,E_lt q246⟩,E_lt q247,E_lt q248⟩,?_⟩
  intro a293 k293
  have q293:=(show e 293=bj (onE2 (e 245) (e 246) (e 247) (e 248) (e 249)/\R2.isz (tmJ R2 (rsE2 (e 245) (e 246) (e 247) (e 248) (e 249)) 384 rGreat.toNat).z=true) from a293)
  clear a293 k293
  show [e 293]=_
  rw [q245,q246,q247,q248,q249,rsE2_to h0.1 h1.1 h2.1 h3.1 u] at q293
  rw [q293];exact congrArg (fun x=>[x]) (bj_iff ⟨fun h=>⟨(onE2_to h0.1 h1.1 h2.1 h3.1 u).1 h.1,h.2⟩,fun h=>⟨(onE2_to h0.1 h1.1 h2.1 h3.1 u).2 h.1,h.2⟩⟩)
 ·have c53:=h
  have u:¬ ((e 0<bP/\e 1<bP)/\(e 2<bP/\e 3<bP)):=bj_z q53 c53
  show [(0:Int)]=_
  rw [bj_f (fun h=>u h.1.1)]
theorem ofE_0:ofE 0=0:=by unfold ofE;rw [Int.zero_mul];rfl
def kPNeg2 (o:Fo) (f:FuncId):K:={fn:=f,ext:=false,ins:=[.agg o.ls2,.agg lsQ2],outs:=[.agg lsQ2],pre:=fun | [_,_,_,_,_,_,c,d,_]=>c<bP/\d<bP | _=>False,sem:=fun | [_,_,_,_,a,b,c,d,z]=>[a,b,toE (-ofE c),toE (-ofE d),z] | _=>[] }
def kOut2 (f:FuncId):K:={fn:=f,ext:=false,ins:=[.agg lsQ2],outs:=[.agg lsQ2],pre:=fun | [a,b,c,d,_]=>(a<bP/\b<bP)/\(c<bP/\d<bP) | _=>False,sem:=fun | [a,b,c,d,z]=>[ofE a,ofE b,ofE c,ofE d,z] | _=>[] }
open Classical in
noncomputable def negV2 (a b c d z:Int):List Int:=if onV2 a b c d z then [a,b,(-c)%bP,(-d)%bP,z,0] else [0,0,0,0,0,5]
theorem negV2_t {a b c d z:Int} (h:onV2 a b c d z):negV2 a b c d z=[a,b,(-c)%bP,(-d)%bP,z,0]:=if_pos h
theorem negV2_f {a b c d z:Int} (h:¬ onV2 a b c d z):negV2 a b c d z=[0,0,0,0,0,5]:=if_neg h
noncomputable def kNeg2 (f:FuncId):K:={fn:=f,ext:=false,ins:=[.agg lsQ2],outs:=[.agg lsQ2,oI],pre:=fun _=>True,sem:=fun | [a,b,c,d,z]=>negV2 a b c d z | _=>[] }
def t2PNeg:Tree:=(.req 0 [.lit 0,.lit 0,.var 6,.var 7]
(.lett 9 .num (.app 0 0 [.lit 0,.lit 0,.var 6,.var 7])
(.lett 10 .num (.app 0 1 [.lit 0,.lit 0,.var 6,.var 7])
(.ret [.var 4,.var 5,.var 9,.var 10,.var 8]))))
theorem law_pNeg2 (o:Fo) (f1 f:FuncId) (e:Nat->Int) (hp:(kPNeg2 o f).pre [e 0,e 1,e 2,e 3,e 4,e 5,e 6,e 7,e 8]):t2PNeg.says [kE2Sub f1] ⟨fun ys=>ys=(kPNeg2 o f).sem [e 0,e 1,e 2,e 3,e 4,e 5,e 6,e 7,e 8],[]⟩ e:=by
 obtain ⟨u6,u7⟩:e 6<bP/\e 7<bP:=hp
 refine ⟨⟨bP_pos,bP_pos,u6,u7⟩,fun a9 _ a10 _=>?_⟩
 show [e 4,e 5,e 9,e 10,e 8]=[e 4,e 5,toE (-ofE (e 6)),toE (-ofE (e 7)),e 8]
 rw [show e 9=toE (ofE 0-ofE (e 6)) from a9,show e 10=toE (ofE 0-ofE (e 7)) from a10,ofE_0,Int.zero_sub,Int.zero_sub]
def t2Out:Tree:=(.req 0 [.var 0,.var 1]
(.lett 101 .num (.app 0 0 [.var 0,.var 1])
(.lett 102 .num (.app 0 1 [.var 0,.var 1])
(.req 0 [.var 2,.var 3]
(.lett 245 .num (.app 0 0 [.var 2,.var 3])
(.lett 246 .num (.app 0 1 [.var 2,.var 3])
(.ret [.var 101,.var 102,.var 245,.var 246,.var 4])))))))
theorem law_out2 (f1 f:FuncId) (e:Nat->Int) (hp:(kOut2 f).pre [e 0,e 1,e 2,e 3,e 4]):t2Out.says [kE2From f1] ⟨fun ys=>ys=(kOut2 f).sem [e 0,e 1,e 2,e 3,e 4],[]⟩ e:=by
 obtain ⟨⟨u0,u1⟩,u2,u3⟩:(e 0<bP/\e 1<bP)/\(e 2<bP/\e 3<bP):=hp
 refine ⟨⟨u0,u1⟩,fun a1 _ a2 _=>⟨⟨u2,u3⟩,fun a3 _ a4 _=>?_⟩⟩
 show [e 101,e 102,e 245,e 246,e 4]=[ofE (e 0),ofE (e 1),ofE (e 2),ofE (e 3),e 4]
 rw [show e 101=ofE (e 0) from a1,show e 102=ofE (e 1) from a2,show e 245=ofE (e 2) from a3,show e 246=ofE (e 3) from a4]
def t2Neg:Tree:=(.req 0 [.var 0,.var 1,.var 2,.var 3,.var 4]
(.lett 5 .bit (.app 0 0 [.var 0,.var 1,.var 2,.var 3,.var 4])
(.lett 6 .bit (.not (.var 5))
(.split 6
(.ret [.lit 0,.lit 0,.lit 0,.lit 0,.lit 0,.lit 5])
(.req 1 []
(.lett 7 .num (.app 1 0 [])
(.lett 8 .num (.app 1 1 [])
(.lett 9 .num (.app 1 2 [])
(.lett 10 .num (.app 1 3 [])
(.req 2 [.var 0,.var 1,.var 2,.var 3,.var 4]
(.lett 103 .num (.app 2 0 [.var 0,.var 1,.var 2,.var 3,.var 4])
(.lett 104 .num (.app 2 1 [.var 0,.var 1,.var 2,.var 3,.var 4])
(.lett 105 .num (.app 2 2 [.var 0,.var 1,.var 2,.var 3,.var 4])
(.lett 106 .num (.app 2 3 [.var 0,.var 1,.var 2,.var 3,.var 4])
(.lett 107 .bit (.app 2 4 [.var 0,.var 1,.var 2,.var 3,.var 4])
(.req 3 [.var 7,.var 8,.var 9,.var 10,.var 103,.var 104,.var 105,.var 106,.var 107]
(.lett 151 .num (.app 3 0 [.var 7,.var 8,.var 9,.var 10,.var 103,.var 104,.var 105,.var 106,.var 107])
(.lett 152 .num (.app 3 1 [.var 7,.var 8,.var 9,.var 10,.var 103,.var 104,.var 105,.var 106,.var 107])
(.lett 153 .num (.app 3 2 [.var 7,.var 8,.var 9,.var 10,.var 103,.var 104,.var 105,.var 106,.var 107])
(.lett 154 .num (.app 3 3 [.var 7,.var 8,.var 9,.var 10,.var 103,.var 104,.var 105,.var 106,.var 107])
(.lett 155 .bit (.app 3 4 [.var 7,.var 8,.var 9,.var 10,.var 103,.var 104,.var 105,.var 106,.var 107])
(.req 4 [.var 151,.var 152,.var 153,.var 154,.var 155]
(.lett 199 .num (.app 4 0 [.var 151,.var 152,.var 153,.var 154,.var 155])
(.lett 200 .num (.app 4 1 [.var 151,.var 152,.var 153,.var 154,.var 155])
(.lett 201 .num (.app 4 2 [.var 151,.var 152,.var 153,.var 154,.var 155])
(.lett 202 .num (.app 4 3 [.var 151,.var 152,.var 153,.var 154,.var 155])
(.lett 203 .bit (.app 4 4 [.var 151,.var 152,.var 153,.var 154,.var 155])
(.ret [.var 199,.var 200,.var 201,.var 202,.var 203,.lit 0]))))))))))))))))))))))))))))
theorem law_neg2 (o:Fo) (f1 f2 f3 f4 f5 f:FuncId) (e:Nat->Int) (hk:kkHas [.num,.num,.num,.num,.bit] [e 0,e 1,e 2,e 3,e 4]):t2Neg.says [kCheck2 f1,kSecond o f2,kIn2 f3,kPNeg2 o f4,kOut2 f5] ⟨fun ys=>ys=(kNeg2 f).sem [e 0,e 1,e 2,e 3,e 4],[]⟩ e:=by
 obtain ⟨h0,h1,h2,h3,_⟩:=hk
 show t2Neg.says _ ⟨fun ys=>ys=negV2 (e 0) (e 1) (e 2) (e 3) (e 4),[]⟩ e
 refine ⟨trivial,?_⟩
 intro a5 k5
 have q5:=(show e 5=bj (onV2 (e 0) (e 1) (e 2) (e 3) (e 4)) from a5)
 clear a5 k5
 intro a6 k6
 have b6:=c_not a6
 simp only [ev_var,ev_lit] at b6
 clear a6 k6
 refine ⟨fun h=>?_,fun h=>?_⟩
 ·have c6:=h
  have u:¬ onV2 (e 0) (e 1) (e 2) (e 3) (e 4):=bj_z q5 (b_yes b6 c6)
  show [0,0,0,0,0,5]=_
  rw [negV2_f u]
 ·have c6:=h
  have u:onV2 (e 0) (e 1) (e 2) (e 3) (e 4):=bj_nz q5 (b_no b6 c6)
  refine ⟨trivial,?_⟩
  intro a7 k7
  have q7:=(show e 7=toE 1 from a7)
  clear a7 k7
  intro a8 k8
  have q8:=(show e 8=(0:Int) from a8)
  clear a8 k8
  intro a9 k9
  have q9:=(show e 9=toE 4 from a9)
  clear a9 k9
  intro a10 k10
  have q10:=(show e 10=toE 4 from a10)
  clear a10 k10
  refine ⟨trivial,?_⟩
  intro a103 k103
  have q103:=(show e 103=toE (e 0) from a103)
  clear a103 k103
  intro a104 k104
  have q104:=(show e 104=toE (e 1) from a104)
  clear a104 k104
  intro a105 k105
  have q105:=(show e 105=toE (e 2) from a105)
  clear a105 k105
  intro a106 k106
  have q106:=(show e 106=toE (e 3) from a106)
  clear a106 k106
  intro a107 k107
  have q107:=(show e 107=(e 4) from a107)
  clear a107 k107
  refine ⟨⟨E_lt q105,E_lt q106⟩,?_⟩
  intro a151 k151
  have q151:=(show e 151=(e 103) from a151)
  clear a151 k151
  intro a152 k152
  have q152:=(show e 152=(e 104) from a152)
  clear a152 k152
  intro a153 k153
  have q153:=(show e 153=toE (-ofE (e 105)) from a153)
  clear a153 k153
  intro a154 k154
  have q154:=(show e 154=toE (-ofE (e 106)) from a154)
  clear a154 k154
  intro a155 k155
  have q155:=(show e 155=(e 107) from a155)
  clear a155 k155
  refine ⟨⟨⟨E_lt (q151.trans q103),E_lt (q152.trans q104)⟩,E_lt q153,E_lt q154⟩,?_⟩
  intro a199 k199
  have q199:=(show e 199=ofE (e 151) from a199)
  clear a199 k199
  intro a200 k200
  have q200:=(show e 200=ofE (e 152) from a200)
  clear a200 k200
  intro a201 k201
  have q201:=(show e 201=ofE (e 153) from a201)
  clear a201 k201
  intro a202 k202
  have q202:=(show e 202=ofE (e 154) from a202)
  clear a202 k202
  intro a203 k203
  have q203:=(show e 203=(e 155) from a203)
  clear a203 k203
  show [e 199,e 200,e 201,e 202,e 203,0]=_
  rw [negV2_t u,q199,q200,q201,q202,q203,q151,q152,q153,q154,q155,q103,q104,q105,q106,q107,ofto h0.1 u.1.1.1,ofto h1.1 u.1.1.2,ofto h2.1 u.1.2.1,ofto h3.1 u.1.2.2,ofE_toE,ofE_toE]
noncomputable def cq (c:Int) (i:Nat):Int:=(dec c).getD i 0
def plK2:LK:=.tup .num [.num,.num,.num,.bit]
noncomputable def rsC (c:Int):J E2:=rsE2 (cq c 0) (cq c 1) (cq c 2) (cq c 3) (cq c 4)
noncomputable def gathI2 (l n:List Int) (i:Nat):J E2:=((l.zip n).take i).foldl (fun acc p=>J.md R2 (sumJ R2 acc (tmJ R2 (rsC p.1) 384 p.2.toNat))) (oJ R2)
theorem gathI2_step {l n:List Int} {i:Nat} (h:i<l.length) (hl:l.length=n.length):gathI2 l n (i+1)=J.md R2 (sumJ R2 (gathI2 l n i) (tmJ R2 (rsC (l.getD i 0)) 384 (n.getD i 0).toNat)):=by
 have hz:i<(l.zip n).length:=by rw [List.length_zip];omega
 unfold gathI2
 rw [List.take_succ_eq_append_getElem hz,List.foldl_append,List.getElem_zip,getD_lt h,getD_lt (by omega)];rfl
def gathOk2 (l:List Int):Prop:=∀ c∈l,((cq c 0<bP/\cq c 1<bP)/\(cq c 2<bP/\cq c 3<bP))/\onE2 (cq c 0) (cq c 1) (cq c 2) (cq c 3) (cq c 4)
noncomputable def kGath2 (o:Fo) (f:FuncId):K:={fn:=f,ext:=false,ins:=[.agg o.ls2,.lst plK2,.lst .num],outs:=[.agg lsQ2,oI],pre:=fun | [u,v,s,t,l,n]=>(u=toE 1/\v=0)/\(s=toE 4/\t=toE 4)/\(dec l).length=(dec n).length/\gathOk2 (dec l) | _=>False,sem:=fun | [_,_,_,_,l,n]=>lowE2 (gathI2 (dec l) (dec n) (dec l).length)++[0] | _=>[] }
theorem inv2_S2 {A B:E2} (h:S2 A B):S2 (inv2 A) (inv2 B):=by
 have hn:nrm A.1 A.2%bP=nrm B.1 B.2%bP:=mdE_pow (mdE_add (mdE_mul h.1 h.1) (mdE_mul h.2 h.2)) _
 exact ⟨mdE_mul h.1 hn,mdE_neg (mdE_mul h.2 hn)⟩
def low2 (P:J E2):E2×E2:=if P.z.1%bP=0/\P.z.2%bP=0 then ((0,0),(0,0)) else (R2.mul P.x (R2.mul (inv2 P.z) (inv2 P.z)),R2.mul P.y (R2.mul (R2.mul (inv2 P.z) (inv2 P.z)) (inv2 P.z)))
def lowz (P:J E2):Int:=if P.z.1%bP=0/\P.z.2%bP=0 then 1 else 0
theorem lowE2_low (P:J E2):lowE2 P=[toE (low2 P).1.1,toE (low2 P).1.2,toE (low2 P).2.1,toE (low2 P).2.2,lowz P]:=by
 unfold lowE2 low2 lowz
 by_cases h:P.z.1%bP=0/\P.z.2%bP=0
 ·rw [if_pos h,if_pos h,if_pos h,toE_0]
 ·rw [if_neg h,if_neg h,if_neg h]
theorem lowV2_low (P:J E2):lowV2 P=[(low2 P).1.1%bP,(low2 P).1.2%bP,(low2 P).2.1%bP,(low2 P).2.2%bP,lowz P]:=by
 unfold lowV2 low2 lowz
 by_cases h:P.z.1%bP=0/\P.z.2%bP=0
 ·rw [if_pos h,if_pos h,if_pos h];rfl
 ·rw [if_neg h,if_neg h,if_neg h]
theorem low2_js {P Q:J E2} (h:JS P Q):(S2 (low2 P).1 (low2 Q).1/\S2 (low2 P).2 (low2 Q).2)/\lowz P=lowz Q:=by
 unfold low2 lowz
 have hz:(P.z.1%bP=0/\P.z.2%bP=0)↔(Q.z.1%bP=0/\Q.z.2%bP=0):=by rw [h.2.2.1,h.2.2.2]
 by_cases hq:Q.z.1%bP=0/\Q.z.2%bP=0
 ·rw [if_pos hq,if_pos (hz.2 hq),if_pos hq,if_pos (hz.2 hq)]
  exact ⟨⟨S2_refl _,S2_refl _⟩,rfl⟩
 ·have hp:=fun hc=>hq (hz.1 hc)
  rw [if_neg hq,if_neg hp,if_neg hq,if_neg hp]
  have i:=inv2_S2 h.2.2
  have s:=S2R_mul i i
  exact ⟨⟨S2R_mul h.1 s,S2R_mul h.2.1 (S2R_mul s i)⟩,rfl⟩
theorem lowE2_js {P Q:J E2} (h:JS P Q):lowE2 P=lowE2 Q:=by
 obtain ⟨⟨h1,h2⟩,h3⟩:=low2_js h
 rw [lowE2_low,lowE2_low,toE_md h1.1,toE_md h1.2,toE_md h2.1,toE_md h2.2,h3]
theorem lowV2_js {P Q:J E2} (h:JS P Q):lowV2 P=lowV2 Q:=by
 obtain ⟨⟨h1,h2⟩,h3⟩:=low2_js h
 rw [lowV2_low,lowV2_low,h1.1,h1.2,h2.1,h2.2,h3]
def t2Gath:Tree:=(.lett 6 (.int .i64) (.llen (.var 4))
(.lett 7 (.int .i64) (.llen (.var 5))
(.lett 8 .bit (.cmp .neq (.var 6) (.var 7))
(.split 8
(.ret [.lit 0,.lit 0,.lit 0,.lit 0,.lit 0,.lit 2])
(.lett 9 (.int .i64) (.llen (.var 4))
(.loop [.lit 0] [(.int .i64)] 10
(.lett 11 .bit (.cmp .lss (.var 10) (.var 9))
(.split 11
 (.lett 12 (.int .i64) (.llen (.var 4))
 (.lett 13 .bit (.cmp .leq (.lit 0) (.var 10))
 (.lett 14 .bit (.cmp .lss (.var 10) (.var 12))
 (.nz (.var 13)
 (.nz (.var 14)
 (.lett 15 .any (.lget (.var 4) (.var 10))
 (.lett 16 .num (.lget (.var 15) (.lit 0))
 (.lett 17 .num (.lget (.var 15) (.lit 1))
 (.lett 18 .num (.lget (.var 15) (.lit 2))
 (.lett 19 .num (.lget (.var 15) (.lit 3))
 (.lett 20 .bit (.lget (.var 15) (.lit 4))
 (.req 0 [.var 0,.var 1,.var 2,.var 3,.var 16,.var 17,.var 18,.var 19,.var 20]
 (.lett 21 .bit (.app 0 0 [.var 0,.var 1,.var 2,.var 3,.var 16,.var 17,.var 18,.var 19,.var 20])
 (.lett 22 .bit (.not (.var 21))
 (.split 22
 (.ret [.lit 0,.lit 0,.lit 0,.lit 0,.lit 0,.lit 5])
 (.lett 23 (.int .i64) (.bin .add .i64 (.var 10) (.lit 1))
 (.back 0 [.var 23])))))))))))))))))
 (.lett 12 (.int .i64) (.llen (.var 4))
 (.loop [.lit 0,.var 0,.var 1,.var 0,.var 1,.lit 0,.lit 0] [(.int .i64),.num,.num,.num,.num,.num,.num] 13
 (.lett 20 .bit (.cmp .lss (.var 13) (.var 12))
 (.split 20
 (.lett 21 (.int .i64) (.llen (.var 4))
 (.lett 22 .bit (.cmp .leq (.lit 0) (.var 13))
 (.lett 23 .bit (.cmp .lss (.var 13) (.var 21))
 (.nz (.var 22)
 (.nz (.var 23)
 (.lett 24 .any (.lget (.var 4) (.var 13))
 (.lett 25 .num (.lget (.var 24) (.lit 0))
 (.lett 26 .num (.lget (.var 24) (.lit 1))
 (.lett 27 .num (.lget (.var 24) (.lit 2))
 (.lett 28 .num (.lget (.var 24) (.lit 3))
 (.lett 29 .bit (.lget (.var 24) (.lit 4))
 (.req 3 [.var 0,.var 1,.var 2,.var 3,.var 25,.var 26,.var 27,.var 28,.var 29]
 (.lett 270 .num (.app 3 0 [.var 0,.var 1,.var 2,.var 3,.var 25,.var 26,.var 27,.var 28,.var 29])
 (.lett 271 .num (.app 3 1 [.var 0,.var 1,.var 2,.var 3,.var 25,.var 26,.var 27,.var 28,.var 29])
 (.lett 272 .num (.app 3 2 [.var 0,.var 1,.var 2,.var 3,.var 25,.var 26,.var 27,.var 28,.var 29])
 (.lett 273 .num (.app 3 3 [.var 0,.var 1,.var 2,.var 3,.var 25,.var 26,.var 27,.var 28,.var 29])
 (.lett 274 .num (.app 3 4 [.var 0,.var 1,.var 2,.var 3,.var 25,.var 26,.var 27,.var 28,.var 29])
 (.lett 275 .num (.app 3 5 [.var 0,.var 1,.var 2,.var 3,.var 25,.var 26,.var 27,.var 28,.var 29])
 (.lett 414 (.int .i64) (.llen (.var 5))
 (.lett 415 .bit (.cmp .leq (.lit 0) (.var 13))
 (.lett 416 .bit (.cmp .lss (.var 13) (.var 414))
 (.nz (.var 415)
 (.nz (.var 416)
 (.lett 462 .num (.lget (.var 5) (.var 13))
 (.req 2 [.var 0,.var 1,.var 2,.var 3,.var 270,.var 271,.var 272,.var 273,.var 274,.var 275,.var 462]
 (.lett 510 .num (.app 2 0 [.var 0,.var 1,.var 2,.var 3,.var 270,.var 271,.var 272,.var 273,.var 274,.var 275,.var 462])
 (.lett 511 .num (.app 2 1 [.var 0,.var 1,.var 2,.var 3,.var 270,.var 271,.var 272,.var 273,.var 274,.var 275,.var 462])
 (.lett 512 .num (.app 2 2 [.var 0,.var 1,.var 2,.var 3,.var 270,.var 271,.var 272,.var 273,.var 274,.var 275,.var 462])
 (.lett 513 .num (.app 2 3 [.var 0,.var 1,.var 2,.var 3,.var 270,.var 271,.var 272,.var 273,.var 274,.var 275,.var 462])
 (.lett 514 .num (.app 2 4 [.var 0,.var 1,.var 2,.var 3,.var 270,.var 271,.var 272,.var 273,.var 274,.var 275,.var 462])
 (.lett 515 .num (.app 2 5 [.var 0,.var 1,.var 2,.var 3,.var 270,.var 271,.var 272,.var 273,.var 274,.var 275,.var 462])
 (.req 1 [.var 0,.var 1,.var 2,.var 3,.var 14,.var 15,.var 16,.var 17,.var 18,.var 19,.var 510,.var 511,.var 512,.var 513,.var 514,.var 515]
 (.lett 558 .num (.app 1 0 [.var 0,.var 1,.var 2,.var 3,.var 14,.var 15,.var 16,.var 17,.var 18,.var 19,.var 510,.var 511,.var 512,.var 513,.var 514,.var 515])
 (.lett 559 .num (.app 1 1 [.var 0,.var 1,.var 2,.var 3,.var 14,.var 15,.var 16,.var 17,.var 18,.var 19,.var 510,.var 511,.var 512,.var 513,.var 514,.var 515])
 (.lett 560 .num (.app 1 2 [.var 0,.var 1,.var 2,.var 3,.var 14,.var 15,.var 16,.var 17,.var 18,.var 19,.var 510,.var 511,.var 512,.var 513,.var 514,.var 515])
 (.lett 561 .num (.app 1 3 [.var 0,.var 1,.var 2,.var 3,.var 14,.var 15,.var 16,.var 17,.var 18,.var 19,.var 510,.var 511,.var 512,.var 513,.var 514,.var 515])
 (.lett 562 .num (.app 1 4 [.var 0,.var 1,.var 2,.var 3,.var 14,.var 15,.var 16,.var 17,.var 18,.var 19,.var 510,.var 511,.var 512,.var 513,.var 514,.var 515])
 (.lett 563 .num (.app 1 5 [.var 0,.var 1,.var 2,.var 3,.var 14,.var 15,.var 16,.var 17,.var 18,.var 19,.var 510,.var 511,.var 512,.var 513,.var 514,.var 515])
 (.lett 654 (.int .i64) (.bin .add .i64 (.var 13) (.lit 1))
 (.back 1 [.var 654,.var 558,.var 559,.var 560,.var 561,.var 562,.var 563]))))))))))))))))))))))))))))))))))))))))
 (.req 4 [.var 0,.var 1,.var 2,.var 3,.var 14,.var 15,.var 16,.var 17,.var 18,.var 19]
 (.lett 21 .num (.app 4 0 [.var 0,.var 1,.var 2,.var 3,.var 14,.var 15,.var 16,.var 17,.var 18,.var 19])
 (.lett 22 .num (.app 4 1 [.var 0,.var 1,.var 2,.var 3,.var 14,.var 15,.var 16,.var 17,.var 18,.var 19])
 (.lett 23 .num (.app 4 2 [.var 0,.var 1,.var 2,.var 3,.var 14,.var 15,.var 16,.var 17,.var 18,.var 19])
 (.lett 24 .num (.app 4 3 [.var 0,.var 1,.var 2,.var 3,.var 14,.var 15,.var 16,.var 17,.var 18,.var 19])
 (.lett 25 .bit (.app 4 4 [.var 0,.var 1,.var 2,.var 3,.var 14,.var 15,.var 16,.var 17,.var 18,.var 19])
 (.ret [.var 21,.var 22,.var 23,.var 24,.var 25,.lit 0])))))))))))))))))))
theorem law_gath2 (o:Fo) (f1 f2 f3 f4 f5 f:FuncId) (e:Nat->Int) (hk:kkHas [.num,.num,.num,.num,.lst plK2,.lst .num] [e 0,e 1,e 2,e 3,e 4,e 5]) (hp:(kGath2 o f).pre [e 0,e 1,e 2,e 3,e 4,e 5]):t2Gath.says [kOn2 o f1,kSum2J o f2,kTimes2 o f3,kRaise2 o f4,kLower2 o f5] ⟨fun ys=>ys=(kGath2 o f).sem [e 0,e 1,e 2,e 3,e 4,e 5],[]⟩ e:=by
 obtain ⟨q0,q2,hlen,hok⟩:(e 0=toE 1/\e 1=0)/\(e 2=toE 4/\e 3=toE 4)/\(dec (e 4)).length=(dec (e 5)).length/\gathOk2 (dec (e 4)):=hp
 obtain ⟨l,d4⟩:∃ l,dec (e 4)=l:=⟨_,rfl⟩
 obtain ⟨n,d5⟩:∃ n,dec (e 5)=n:=⟨_,rfl⟩
 have hll:l.length<=9223372036854775807:=by rw [<- d4];exact hk.2.2.2.2.1.1
 have hr:(kGath2 o f).sem [e 0,e 1,e 2,e 3,e 4,e 5]=lowE2 (gathI2 l n l.length)++[0]:=by rw [<- d4,<- d5];rfl
 rw [hr]
 rw [d4,d5] at hlen
 rw [d4] at hok
 clear hr hk
 intro a6 _ a7 _ a8 _
 have v6:e 6=(l.length:Int):=by rw [<- d4];exact a6
 have v7:e 7=(n.length:Int):=by rw [<- d5];exact a7
 have b8:=c_ne a8
 simp only [ev_var] at b8
 refine ⟨fun h=>by omega,fun _=>?_⟩
 intro a9 _
 have v9:e 9=(l.length:Int):=by rw [<- d4];exact a9
 clear a6 a7 a8 b8 a9 v6 v7
 refine ⟨fun | [i]=>0<=i/\i<=l.length | _=>False,fun | [i]=>(l.length-i).toNat | _=>0,⟨Int.le_refl _,(show (0:Int)<=l.length by omega)⟩,fun e' he hkk hI=>?_⟩
 obtain ⟨i0,i1⟩:0<=e' 10/\e' 10<=l.length:=hI
 have v9:=(he 9 (by decide)).trans v9
 have q0:e' 0=toE 1/\e' 1=0:=⟨(he 0 (by decide)).trans q0.1,(he 1 (by decide)).trans q0.2⟩
 have q2:e' 2=toE 4/\e' 3=toE 4:=⟨(he 2 (by decide)).trans q2.1,(he 3 (by decide)).trans q2.2⟩
 have d4:=(congrArg dec (he 4 (by decide))).trans d4
 have d5:=(congrArg dec (he 5 (by decide))).trans d5
 clear he hkk
 intro a11 _
 have b11:=c_lt a11
 simp only [ev_var] at b11
 refine ⟨fun hs=>?_,fun hs=>?_⟩
 ·have c11:e' 10<l.length:=by omega
  intro a12 _ a13 _ a14 _
  have v12:e' 12=(l.length:Int):=by rw [<- d4];exact a12
  refine ⟨bit_nz a13 i0,lt_nz a14 (by show e' 10<e' 12;omega),fun a15 _ a16 k16 a17 k17 a18 k18 a19 k19 a20 _=>?_⟩
  have v15:e' 15=l.getD (e' 10).toNat 0:=by rw [<- d4];exact a15
  have hm:e' 15∈l:=by rw [v15,getD_lt (by omega)];exact List.getElem_mem _
  have v16:e' 16=cq (e' 15) 0:=a16
  have v17:e' 17=cq (e' 15) 1:=a17
  have v18:e' 18=cq (e' 15) 2:=a18
  have v19:e' 19=cq (e' 15) 3:=a19
  have v20:e' 20=cq (e' 15) 4:=a20
  have ho:=hok _ hm
  rw [<- v16,<- v17,<- v18,<- v19,<- v20] at ho
  refine ⟨⟨q2,ho.1.1,ho.1.2⟩,fun a21 _ a22 _=>?_⟩
  have v21:e' 21=bj (onE2 (e' 16) (e' 17) (e' 18) (e' 19) (e' 20)):=a21
  rw [bj_t ho.2] at v21
  have b22:=c_not a22
  simp only [ev_var] at b22
  refine ⟨fun h=>by omega,fun _=>?_⟩
  intro a23 _
  have v23:e' 23=e' 10+1:=by
   have h:e' 23=binE .add .i64 (e' 10) 1:=a23
   rw [h];simp only [binE,wr];omega
  show (0<=e' 23/\e' 23<=l.length)/\(l.length-e' 23).toNat<(l.length-e' 10).toNat
  omega
 ·intro a12 _
  have v12:e' 12=(l.length:Int):=by rw [<- d4];exact a12
  clear a11 b11 a12
  refine ⟨fun | [i,a,b,c,d,x,y]=>0<=i/\i<=l.length/\[a,b,c,d,x,y]=(gathI2 l n i.toNat).e2 | _=>False,fun | [i,_,_,_,_,_,_]=>(l.length-i).toNat | _=>0,⟨Int.le_refl _,(show (0:Int)<=l.length by omega),?_⟩,fun e'' he hkk hI=>?_⟩
  ·show [e' 0,e' 1,e' 0,e' 1,0,0]=(oJ R2).e2
   rw [q0.1,q0.2,oJ_e2]
  ·obtain ⟨i0,i1,i2⟩:0<=e'' 13/\e'' 13<=l.length/\[e'' 14,e'' 15,e'' 16,e'' 17,e'' 18,e'' 19]=(gathI2 l n (e'' 13).toNat).e2:=hI
   have v12:=(he 12 (by decide)).trans v12
   have q0:e'' 0=toE 1/\e'' 1=0:=⟨(he 0 (by decide)).trans q0.1,(he 1 (by decide)).trans q0.2⟩
   have d4:=(congrArg dec (he 4 (by decide))).trans d4
   have d5:=(congrArg dec (he 5 (by decide))).trans d5
   clear he hkk
   intro a20 _
   have b20:=c_lt a20
   simp only [ev_var] at b20
   refine ⟨fun hs=>?_,fun hs=>?_⟩
   ·have c20:e'' 13<l.length:=by omega
    intro a21 _ a22 _ a23 _
    have v21:e'' 21=(l.length:Int):=by rw [<- d4];exact a21
    refine ⟨bit_nz a22 i0,lt_nz a23 (by show e'' 13<e'' 21;omega),fun a24 _ a25 k25 a26 k26 a27 k27 a28 k28 a29 _=>?_⟩
    have v24:e'' 24=l.getD (e'' 13).toNat 0:=by rw [<- d4];exact a24
    have hm:e'' 24∈l:=by rw [v24,getD_lt (by omega)];exact List.getElem_mem _
    have v25:e'' 25=cq (e'' 24) 0:=a25
    have v26:e'' 26=cq (e'' 24) 1:=a26
    have v27:e'' 27=cq (e'' 24) 2:=a27
    have v28:e'' 28=cq (e'' 24) 3:=a28
    have v29:e'' 29=cq (e'' 24) 4:=a29
    have ho:=hok _ hm
    rw [<- v25,<- v26,<- v27,<- v28,<- v29] at ho
    refine ⟨trivial,fun r0 _ r1 _ r2 _ r3 _ r4 _ r5 _ a414 _ a415 _ a416 _=>?_⟩
    have hR:[e'' 270,e'' 271,e'' 272,e'' 273,e'' 274,e'' 275]=(rsC (e'' 24)).e2:=by
     have h1:rsC (e'' 24)=rsE2 (e'' 25) (e'' 26) (e'' 27) (e'' 28) (e'' 29):=by rw [v25,v26,v27,v28,v29];rfl
     rw [h1,<- raise_e2 ⟨⟨k25.1,ho.1.1.1⟩,⟨k26.1,ho.1.1.2⟩⟩ ⟨⟨k27.1,ho.1.2.1⟩,⟨k28.1,ho.1.2.2⟩⟩,<- q0.1,<- q0.2]
     rw [show e'' 270=_ from r0,show e'' 271=_ from r1,show e'' 272=_ from r2,show e'' 273=_ from r3,show e'' 274=_ from r4,show e'' 275=_ from r5]
     show [(if e'' 29=0 then [e'' 25,e'' 26,e'' 27,e'' 28,e'' 0,e'' 1] else [e'' 0,e'' 1,e'' 0,e'' 1,0,0]).getD 0 0,(if e'' 29=0 then [e'' 25,e'' 26,e'' 27,e'' 28,e'' 0,e'' 1] else [e'' 0,e'' 1,e'' 0,e'' 1,0,0]).getD 1 0,(if e'' 29=0 then [e'' 25,e'' 26,e'' 27,e'' 28,e'' 0,e'' 1] else [e'' 0,e'' 1,e'' 0,e'' 1,0,0]).getD 2 0,(if e'' 29=0 then [e'' 25,e'' 26,e'' 27,e'' 28,e'' 0,e'' 1] else [e'' 0,e'' 1,e'' 0,e'' 1,0,0]).getD 3 0,(if e'' 29=0 then [e'' 25,e'' 26,e'' 27,e'' 28,e'' 0,e'' 1] else [e'' 0,e'' 1,e'' 0,e'' 1,0,0]).getD 4 0,(if e'' 29=0 then [e'' 25,e'' 26,e'' 27,e'' 28,e'' 0,e'' 1] else [e'' 0,e'' 1,e'' 0,e'' 1,0,0]).getD 5 0]=_
     by_cases h0:e'' 29=0
     ·simp only [if_pos h0,q0.2];rfl
     ·simp only [if_neg h0,q0.2];rfl
    have v414:e'' 414=(n.length:Int):=by rw [<- d5];exact a414
    refine ⟨bit_nz a415 i0,lt_nz a416 (by show e'' 13<e'' 414;omega),fun a462 _=>⟨⟨q0,e2_lt hR⟩,fun t0 _ t1 _ t2 _ t3 _ t4 _ t5 _=>?_⟩⟩
    have v462:e'' 462=n.getD (e'' 13).toNat 0:=by rw [<- d5];exact a462
    have hT:[e'' 510,e'' 511,e'' 512,e'' 513,e'' 514,e'' 515]=(tmJ R2 (rsC (e'' 24)) 384 (e'' 462).toNat).e2:=by
     rw [show e'' 510=_ from t0,show e'' 511=_ from t1,show e'' 512=_ from t2,show e'' 513=_ from t3,show e'' 514=_ from t4,show e'' 515=_ from t5]
     exact (show _=(tmJ R2 (ofJ2 (e'' 270) (e'' 271) (e'' 272) (e'' 273) (e'' 274) (e'' 275)) 384 (e'' 462).toNat).e2 from rfl).trans (JS_tm (JS_of hR) _ _).e2
    refine ⟨⟨q0,e2_lt i2,e2_lt hT⟩,fun s0 _ s1 _ s2 _ s3 _ s4 _ s5 _ a654 _=>?_⟩
    have hS:[e'' 558,e'' 559,e'' 560,e'' 561,e'' 562,e'' 563]=(J.md R2 (sumJ R2 (gathI2 l n (e'' 13).toNat) (tmJ R2 (rsC (e'' 24)) 384 (e'' 462).toNat))).e2:=by
     rw [show e'' 558=_ from s0,show e'' 559=_ from s1,show e'' 560=_ from s2,show e'' 561=_ from s3,show e'' 562=_ from s4,show e'' 563=_ from s5]
     exact (show _=(sumJ R2 (ofJ2 (e'' 14) (e'' 15) (e'' 16) (e'' 17) (e'' 18) (e'' 19)) (ofJ2 (e'' 510) (e'' 511) (e'' 512) (e'' 513) (e'' 514) (e'' 515))).e2 from rfl).trans ((JS_sum (JS_of i2) (JS_of hT)).trans (JS_md _).symm).e2
    have v654:e'' 654=e'' 13+1:=by
     have h:e'' 654=binE .add .i64 (e'' 13) 1:=a654
     rw [h];simp only [binE,wr];omega
    show (0<=e'' 654/\e'' 654<=l.length/\[e'' 558,e'' 559,e'' 560,e'' 561,e'' 562,e'' 563]=(gathI2 l n (e'' 654).toNat).e2)/\(l.length-e'' 654).toNat<(l.length-e'' 13).toNat
    refine ⟨⟨by omega,by omega,?_⟩,by omega⟩
    rw [v654,show (e'' 13+1).toNat=(e'' 13).toNat+1 by omega,gathI2_step (by omega) hlen,<- v24,<- v462,hS]
   ·refine ⟨e2_lt i2,fun a21 _ a22 _ a23 _ a24 _ a25 _=>?_⟩
    have r1:[e'' 21,e'' 22,e'' 23,e'' 24,e'' 25]=lowE2 (ofJ2 (e'' 14) (e'' 15) (e'' 16) (e'' 17) (e'' 18) (e'' 19)):=by
     rw [lowE2_low]
     rw [show e'' 21=(lowE2 (ofJ2 (e'' 14) (e'' 15) (e'' 16) (e'' 17) (e'' 18) (e'' 19))).getD 0 0 from a21,show e'' 22=(lowE2 (ofJ2 (e'' 14) (e'' 15) (e'' 16) (e'' 17) (e'' 18) (e'' 19))).getD 1 0 from a22,show e'' 23=(lowE2 (ofJ2 (e'' 14) (e'' 15) (e'' 16) (e'' 17) (e'' 18) (e'' 19))).getD 2 0 from a23,show e'' 24=(lowE2 (ofJ2 (e'' 14) (e'' 15) (e'' 16) (e'' 17) (e'' 18) (e'' 19))).getD 3 0 from a24,show e'' 25=(lowE2 (ofJ2 (e'' 14) (e'' 15) (e'' 16) (e'' 17) (e'' 18) (e'' 19))).getD 4 0 from a25,lowE2_low];rfl
    rw [lowE2_js (JS_of i2),show (e'' 13).toNat=l.length by omega] at r1
    show [e'' 21,e'' 22,e'' 23,e'' 24,e'' 25,0]=lowE2 (gathI2 l n l.length)++[0]
    rw [<- r1];rfl
end Go.Sx
