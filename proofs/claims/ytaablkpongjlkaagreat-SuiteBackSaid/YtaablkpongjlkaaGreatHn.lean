/- Part Hn of the proof. -/
import Derived.Test.YtaablkpongjlkaaGreatHm
import Derived.Test.YtaablkpongjlkaaGreatHk
import Derived.Test.YtaablkpongjlkaaGreatHl
set_option linter.unusedVariables false
set_option linter.unusedSimpArgs false
namespace Go.Sx
open Go Go.RowKit
set_option maxRecDepth 100000
def t2InG:Tree:=(.req 0 [.var 0,.var 1,.var 2,.var 3,.var 4]
(.lett 53 .bit (.app 0 0 [.var 0,.var 1,.var 2,.var 3,.var 4])
(.split 53
(.req 1 []
(.lett 149 .num (.app 1 0 [])
(.lett 150 .num (.app 1 1 [])
(.lett 151 .num (.app 1 2 [])
(.lett 152 .num (.app 1 3 [])
(.req 2 [.var 0,.var 1,.var 2,.var 3,.var 4]
(.lett 245 .num (.app 2 0 [.var 0,.var 1,.var 2,.var 3,.var 4])
(.lett 246 .num (.app 2 1 [.var 0,.var 1,.var 2,.var 3,.var 4])
(.lett 247 .num (.app 2 2 [.var 0,.var 1,.var 2,.var 3,.var 4])
(.lett 248 .num (.app 2 3 [.var 0,.var 1,.var 2,.var 3,.var 4])
(.lett 249 .bit (.app 2 4 [.var 0,.var 1,.var 2,.var 3,.var 4])
(.req 3 [.var 149,.var 150,.var 151,.var 152,.var 245,.var 246,.var 247,.var 248,.var 249]
(.lett 293 .bit (.app 3 0 [.var 149,.var 150,.var 151,.var 152,.var 245,.var 246,.var 247,.var 248,.var 249])
(.ret [.var 293]))))))))))))))
(.ret [.lit 0]))))
theorem law_inG2 (o:Fo) (f1 f2 f3 f4 f:FuncId) (e:Nat->Int) (hk:kkHas [.num,.num,.num,.num,.bit] [e 0,e 1,e 2,e 3,e 4]):t2InG.says [kBelow2 f1,kSecond o f2,kIn2 f3,kPIn2 o f4] ⟨fun ys=>ys=(kInG2 f).sem [e 0,e 1,e 2,e 3,e 4],[]⟩ e:=by
 obtain ⟨h0,h1,h2,h3,_⟩:=hk
 show t2InG.says _ ⟨fun ys=>ys=[bj (inG2 (e 0) (e 1) (e 2) (e 3) (e 4))],[]⟩ e
 refine ⟨trivial,?_⟩
 intro a53 k53
 have q53:=(show e 53=bj (((e 0)<bP/\(e 1)<bP)/\((e 2)<bP/\(e 3)<bP)) from a53)
 clear a53 k53
 refine ⟨fun h=>?_,fun h=>?_⟩
 ·have c53:=h
  have u:(e 0<bP/\e 1<bP)/\(e 2<bP/\e 3<bP):=bj_nz q53 c53
  refine ⟨trivial,?_⟩
  intro a149 k149
  have q149:=(show e 149=toE 1 from a149)
  clear a149 k149
  intro a150 k150
  have q150:=(show e 150=(0:Int) from a150)
  clear a150 k150
  intro a151 k151
  have q151:=(show e 151=toE 4 from a151)
  clear a151 k151
  intro a152 k152
  have q152:=(show e 152=toE 4 from a152)
  clear a152 k152
  refine ⟨trivial,?_⟩
  intro a245 k245
  have q245:=(show e 245=toE (e 0) from a245)
  clear a245 k245
  intro a246 k246
  have q246:=(show e 246=toE (e 1) from a246)
  clear a246 k246
  intro a247 k247
  have q247:=(show e 247=toE (e 2) from a247)
  clear a247 k247
  intro a248 k248
  have q248:=(show e 248=toE (e 3) from a248)
  clear a248 k248
  intro a249 k249
  have q249:=(show e 249=(e 4) from a249)
  clear a249 k249
  refine ⟨⟨⟨q149,q150⟩,⟨q151,q152⟩,⟨E_lt q245,E_lt q246⟩,E_lt q247,E_lt q248⟩,?_⟩
  intro a293 k293
  have q293:=(show e 293=bj (onE2 (e 245) (e 246) (e 247) (e 248) (e 249)/\R2.isz (tmJ R2 (rsE2 (e 245) (e 246) (e 247) (e 248) (e 249)) 384 rGreat.toNat).z=true) from a293)
  clear a293 k293
  show [e 293]=_
  rw [q245,q246,q247,q248,q249,rsE2_to h0.1 h1.1 h2.1 h3.1 u] at q293
  rw [q293];exact congrArg (fun x=>[x]) (bj_iff ⟨fun h=>⟨(onE2_to h0.1 h1.1 h2.1 h3.1 u).1 h.1,h.2⟩,fun h=>⟨(onE2_to h0.1 h1.1 h2.1 h3.1 u).2 h.1,h.2⟩⟩)
 ·have c53:=h
  have u:¬ ((e 0<bP/\e 1<bP)/\(e 2<bP/\e 3<bP)):=bj_z q53 c53
  show [(0:Int)]=_
  rw [bj_f (fun h=>u h.1.1)]
theorem ofE_0:ofE 0=0:=by unfold ofE;rw [Int.zero_mul];rfl
def kPNeg2 (o:Fo) (f:FuncId):K:={fn:=f,ext:=false,ins:=[.agg o.ls2,.agg lsQ2],outs:=[.agg lsQ2],pre:=fun | [_,_,_,_,_,_,c,d,_]=>c<bP/\d<bP | _=>False,sem:=fun | [_,_,_,_,a,b,c,d,z]=>[a,b,toE (-ofE c),toE (-ofE d),z] | _=>[] }
def kOut2 (f:FuncId):K:={fn:=f,ext:=false,ins:=[.agg lsQ2],outs:=[.agg lsQ2],pre:=fun | [a,b,c,d,_]=>(a<bP/\b<bP)/\(c<bP/\d<bP) | _=>False,sem:=fun | [a,b,c,d,z]=>[ofE a,ofE b,ofE c,ofE d,z] | _=>[] }
open Classical in
noncomputable def negV2 (a b c d z:Int):List Int:=if onV2 a b c d z then [a,b,(-c)%bP,(-d)%bP,z,0] else [0,0,0,0,0,5]
theorem negV2_t {a b c d z:Int} (h:onV2 a b c d z):negV2 a b c d z=[a,b,(-c)%bP,(-d)%bP,z,0]:=if_pos h
theorem negV2_f {a b c d z:Int} (h:¬ onV2 a b c d z):negV2 a b c d z=[0,0,0,0,0,5]:=if_neg h
noncomputable def kNeg2 (f:FuncId):K:={fn:=f,ext:=false,ins:=[.agg lsQ2],outs:=[.agg lsQ2,oI],pre:=fun _=>True,sem:=fun | [a,b,c,d,z]=>negV2 a b c d z | _=>[] }
def t2PNeg:Tree:=(.req 0 [.lit 0,.lit 0,.var 6,.var 7]
(.lett 9 .num (.app 0 0 [.lit 0,.lit 0,.var 6,.var 7])
(.lett 10 .num (.app 0 1 [.lit 0,.lit 0,.var 6,.var 7])
(.ret [.var 4,.var 5,.var 9,.var 10,.var 8]))))
theorem law_pNeg2 (o:Fo) (f1 f:FuncId) (e:Nat->Int) (hp:(kPNeg2 o f).pre [e 0,e 1,e 2,e 3,e 4,e 5,e 6,e 7,e 8]):t2PNeg.says [kE2Sub f1] ⟨fun ys=>ys=(kPNeg2 o f).sem [e 0,e 1,e 2,e 3,e 4,e 5,e 6,e 7,e 8],[]⟩ e:=by
 obtain ⟨u6,u7⟩:e 6<bP/\e 7<bP:=hp
 refine ⟨⟨bP_pos,bP_pos,u6,u7⟩,fun a9 _ a10 _=>?_⟩
 show [e 4,e 5,e 9,e 10,e 8]=[e 4,e 5,toE (-ofE (e 6)),toE (-ofE (e 7)),e 8]
 rw [show e 9=toE (ofE 0-ofE (e 6)) from a9,show e 10=toE (ofE 0-ofE (e 7)) from a10,ofE_0,Int.zero_sub,Int.zero_sub]
def t2Out:Tree:=(.req 0 [.var 0,.var 1]
(.lett 101 .num (.app 0 0 [.var 0,.var 1])
(.lett 102 .num (.app 0 1 [.var 0,.var 1])
(.req 0 [.var 2,.var 3]
(.lett 245 .num (.app 0 0 [.var 2,.var 3])
(.lett 246 .num (.app 0 1 [.var 2,.var 3])
(.ret [.var 101,.var 102,.var 245,.var 246,.var 4])))))))
theorem law_out2 (f1 f:FuncId) (e:Nat->Int) (hp:(kOut2 f).pre [e 0,e 1,e 2,e 3,e 4]):t2Out.says [kE2From f1] ⟨fun ys=>ys=(kOut2 f).sem [e 0,e 1,e 2,e 3,e 4],[]⟩ e:=by
 obtain ⟨⟨u0,u1⟩,u2,u3⟩:(e 0<bP/\e 1<bP)/\(e 2<bP/\e 3<bP):=hp
 refine ⟨⟨u0,u1⟩,fun a1 _ a2 _=>⟨⟨u2,u3⟩,fun a3 _ a4 _=>?_⟩⟩
 show [e 101,e 102,e 245,e 246,e 4]=[ofE (e 0),ofE (e 1),ofE (e 2),ofE (e 3),e 4]
 rw [show e 101=ofE (e 0) from a1,show e 102=ofE (e 1) from a2,show e 245=ofE (e 2) from a3,show e 246=ofE (e 3) from a4]
def t2Neg:Tree:=(.req 0 [.var 0,.var 1,.var 2,.var 3,.var 4]
(.lett 5 .bit (.app 0 0 [.var 0,.var 1,.var 2,.var 3,.var 4])
(.lett 6 .bit (.not (.var 5))
(.split 6
(.ret [.lit 0,.lit 0,.lit 0,.lit 0,.lit 0,.lit 5])
(.req 1 []
(.lett 7 .num (.app 1 0 [])
(.lett 8 .num (.app 1 1 [])
(.lett 9 .num (.app 1 2 [])
(.lett 10 .num (.app 1 3 [])
(.req 2 [.var 0,.var 1,.var 2,.var 3,.var 4]
(.lett 103 .num (.app 2 0 [.var 0,.var 1,.var 2,.var 3,.var 4])
(.lett 104 .num (.app 2 1 [.var 0,.var 1,.var 2,.var 3,.var 4])
(.lett 105 .num (.app 2 2 [.var 0,.var 1,.var 2,.var 3,.var 4])
(.lett 106 .num (.app 2 3 [.var 0,.var 1,.var 2,.var 3,.var 4])
(.lett 107 .bit (.app 2 4 [.var 0,.var 1,.var 2,.var 3,.var 4])
(.req 3 [.var 7,.var 8,.var 9,.var 10,.var 103,.var 104,.var 105,.var 106,.var 107]
(.lett 151 .num (.app 3 0 [.var 7,.var 8,.var 9,.var 10,.var 103,.var 104,.var 105,.var 106,.var 107])
(.lett 152 .num (.app 3 1 [.var 7,.var 8,.var 9,.var 10,.var 103,.var 104,.var 105,.var 106,.var 107])
(.lett 153 .num (.app 3 2 [.var 7,.var 8,.var 9,.var 10,.var 103,.var 104,.var 105,.var 106,.var 107])
(.lett 154 .num (.app 3 3 [.var 7,.var 8,.var 9,.var 10,.var 103,.var 104,.var 105,.var 106,.var 107])
(.lett 155 .bit (.app 3 4 [.var 7,.var 8,.var 9,.var 10,.var 103,.var 104,.var 105,.var 106,.var 107])
(.req 4 [.var 151,.var 152,.var 153,.var 154,.var 155]
(.lett 199 .num (.app 4 0 [.var 151,.var 152,.var 153,.var 154,.var 155])
(.lett 200 .num (.app 4 1 [.var 151,.var 152,.var 153,.var 154,.var 155])
(.lett 201 .num (.app 4 2 [.var 151,.var 152,.var 153,.var 154,.var 155])
(.lett 202 .num (.app 4 3 [.var 151,.var 152,.var 153,.var 154,.var 155])
(.lett 203 .bit (.app 4 4 [.var 151,.var 152,.var 153,.var 154,.var 155])
(.ret [.var 199,.var 200,.var 201,.var 202,.var 203,.lit 0]))))))))))))))))))))))))))))
theorem law_neg2 (o:Fo) (f1 f2 f3 f4 f5 f:FuncId) (e:Nat->Int) (hk:kkHas [.num,.num,.num,.num,.bit] [e 0,e 1,e 2,e 3,e 4]):t2Neg.says [kCheck2 f1,kSecond o f2,kIn2 f3,kPNeg2 o f4,kOut2 f5] ⟨fun ys=>ys=(kNeg2 f).sem [e 0,e 1,e 2,e 3,e 4],[]⟩ e:=by
 obtain ⟨h0,h1,h2,h3,_⟩:=hk
 show t2Neg.says _ ⟨fun ys=>ys=negV2 (e 0) (e 1) (e 2) (e 3) (e 4),[]⟩ e
 refine ⟨trivial,?_⟩
 intro a5 k5
 have q5:=(show e 5=bj (onV2 (e 0) (e 1) (e 2) (e 3) (e 4)) from a5)
 clear a5 k5
 intro a6 k6
 have b6:=c_not a6
 simp only [ev_var,ev_lit] at b6
 clear a6 k6
 refine ⟨fun h=>?_,fun h=>?_⟩
 ·have c6:=h
  have u:¬ onV2 (e 0) (e 1) (e 2) (e 3) (e 4):=bj_z q5 (b_yes b6 c6)
  show [0,0,0,0,0,5]=_
  rw [negV2_f u]
 ·have c6:=h
  have u:onV2 (e 0) (e 1) (e 2) (e 3) (e 4):=bj_nz q5 (b_no b6 c6)
  refine ⟨trivial,?_⟩
  intro a7 k7
  have q7:=(show e 7=toE 1 from a7)
  clear a7 k7
  intro a8 k8
  have q8:=(show e 8=(0:Int) from a8)
  clear a8 k8
  intro a9 k9
  have q9:=(show e 9=toE 4 from a9)
  clear a9 k9
  intro a10 k10
  have q10:=(show e 10=toE 4 from a10)
  clear a10 k10
  refine ⟨trivial,?_⟩
  intro a103 k103
  have q103:=(show e 103=toE (e 0) from a103)
  clear a103 k103
  intro a104 k104
  have q104:=(show e 104=toE (e 1) from a104)
  clear a104 k104
  intro a105 k105
  have q105:=(show e 105=toE (e 2) from a105)
  clear a105 k105
  intro a106 k106
  have q106:=(show e 106=toE (e 3) from a106)
  clear a106 k106
  intro a107 k107
  have q107:=(show e 107=(e 4) from a107)
  clear a107 k107
  refine ⟨⟨E_lt q105,E_lt q106⟩,?_⟩
  intro a151 k151
  have q151:=(show e 151=(e 103) from a151)
  clear a151 k151
  intro a152 k152
  have q152:=(show e 152=(e 104) from a152)
  clear a152 k152
  intro a153 k153
  have q153:=(show e 153=toE (-ofE (e 105)) from a153)
  clear a153 k153
  intro a154 k154
  have q154:=(show e 154=toE (-ofE (e 106)) from a154)
  clear a154 k154
  intro a155 k155
  have q155:=(show e 155=(e 107) from a155)
  clear a155 k155
  refine ⟨⟨⟨E_lt (q151.trans q103),E_lt (q152.trans q104)⟩,E_lt q153,E_lt q154⟩,?_⟩
  intro a199 k199
  have q199:=(show e 199=ofE (e 151) from a199)
  clear a199 k199
  intro a200 k200
  have q200:=(show e 200=ofE (e 152) from a200)
  clear a200 k200
  intro a201 k201
  have q201:=(show e 201=ofE (e 153) from a201)
  clear a201 k201
  intro a202 k202
  have q202:=(show e 202=ofE (e 154) from a202)
  clear a202 k202
  intro a203 k203
  have q203:=(show e 203=(e 155) from a203)
  clear a203 k203
  show [e 199,e 200,e 201,e 202,e 203,0]=_
  rw [negV2_t u,q199,q200,q201,q202,q203,q151,q152,q153,q154,q155,q103,q104,q105,q106,q107,ofto h0.1 u.1.1.1,ofto h1.1 u.1.1.2,ofto h2.1 u.1.2.1,ofto h3.1 u.1.2.2,ofE_toE,ofE_toE]
theorem ferm {a:Int} (h:¬ a%bP=0):a^(bP-1).toNat%bP=1:=by
 have hf:=invB_ok h
 unfold invB at hf
 rw [show (bP-1).toNat=(bP-2).toNat+1 by unfold bP;decide]
 generalize (bP-2).toNat=n at hf ⊢
 rw [Int.pow_succ,Int.mul_comm];exact hf
theorem neg_odd (x:Int) (k:Nat):(-x)^(2*k+1)=-(x^(2*k+1)):=by
 rw [Int.pow_succ,Int.pow_succ,Int.pow_mul,Int.pow_mul,show (-x)^2=x^2 by grind,Int.mul_neg]
theorem half_odd:(bP-1).toNat=2*(2*((bP-3)/4).toNat+1):=by unfold bP;decide
theorem no_i {a b:Int} (h:(a*a+b*b)%bP=0):a%bP=0/\b%bP=0:=by
 have h1:(a*a)%bP=(-(b*b))%bP:=by
  have:=mdE_sub (p:=bP) (a:=a*a+b*b) (A:=0) (by rw [h];rfl) (show (b*b)%bP=(b*b)%bP from rfl)
  rwa [Int.add_sub_cancel,Int.zero_sub] at this
 by_cases ha:a%bP=0
 ·refine ⟨ha,?_⟩
  by_cases hb:b%bP=0
  ·exact hb
  ·have h2:(b*b)%bP=0:=by
    have h3:(a*a)%bP=0:=md0_mul _ ha
    have:=mdE_sub (p:=bP) (a:=a*a+b*b) (A:=0) (by rw [h];rfl) (show (a*a)%bP=0%bP by rw [h3];rfl)
    rw [show a*a+b*b-a*a=b*b by omega] at this
    exact this
   exact mulB_z h2 hb
 ·exfalso
  have hb:¬ b%bP=0:=fun hb=>ha (by
   have h3:(b*b)%bP=0:=md0_mul _ hb
   have h4:(a*a)%bP=0:=by
    have:=mdE_sub (p:=bP) (a:=a*a+b*b) (A:=0) (by rw [h];rfl) (show (b*b)%bP=0%bP by rw [h3];rfl)
    rw [Int.add_sub_cancel] at this
    exact this
   exact mulB_z h4 ha)
  have fa:=ferm ha
  have fb:=ferm hb
  rw [half_odd] at fa fb
  generalize ((bP-3)/4).toNat=k at fa fb
  have h2:=mdE_pow h1 (2*k+1)
  rw [neg_odd] at h2
  have e:∀ x:Int,(x*x)^(2*k+1)=x^(2*(2*k+1)):=fun x=>by
   rw [Int.pow_mul,show x^2=x*x by grind]
  rw [e,e,fa] at h2
  have h3:(-(b^(2*(2*k+1))))%bP=(-1)%bP:=mdE_neg (by rw [fb];rfl)
  rw [h3] at h2
  exact absurd h2 (by decide)
theorem nrm_z {A:E2} (h:¬ R2.isz A=true):¬ (A.1*A.1+A.2*A.2)%bP=0:=fun hc=>h (isz3.2 (no_i hc))
theorem E_inv {A:E2} (h:¬ R2.isz A=true):S2 (R2.mul A (inv2 A)) (1,0):=by
 have hi:=invB_ok (nrm_z h)
 have e1:(R2.mul A (inv2 A)).1=(A.1*A.1+A.2*A.2)*invB (A.1*A.1+A.2*A.2):=by
  show A.1*(A.1*nrm A.1 A.2)-A.2 * -(A.2*nrm A.1 A.2)=_
  rw [show nrm A.1 A.2=invB (A.1*A.1+A.2*A.2) from rfl]
  generalize invB (A.1*A.1+A.2*A.2)=n
  grind
 have e2:(R2.mul A (inv2 A)).2=0:=by
  show A.1 * -(A.2*nrm A.1 A.2)+A.2*(A.1*nrm A.1 A.2)=0
  generalize nrm A.1 A.2=n
  grind
 exact ⟨by rw [e1,hi];rfl,by rw [e2]⟩
theorem mul_one2 (a:E2):R2.mul a (1,0)=a:=by
 show (a.1*1-a.2*0,a.1*0+a.2*1)=a
 rw [Int.mul_one,Int.mul_zero,Int.mul_one,Int.mul_zero,Int.sub_zero,Int.zero_add]
theorem S2_trans {a b c:E2} (h:S2 a b) (k:S2 b c):S2 a c:=⟨h.1.trans k.1,h.2.trans k.2⟩
theorem S2_symm {a b:E2} (h:S2 a b):S2 b a:=⟨h.1.symm,h.2.symm⟩
theorem S2_eq {a b:E2} (h:a=b):S2 a b:=by rw [h];exact S2_refl _
theorem mul2_z {x y:E2} (h:R2.isz (R2.mul x y)=true) (hx:¬ R2.isz x=true):R2.isz y=true:=by
 have hi:=E_inv hx
 have h1:S2 (R2.mul y (R2.mul x (inv2 x))) y:=S2_trans (S2R_mul (S2_refl y) hi) (S2_eq (mul_one2 y))
 rw [<- S2_isz h1]
 have e:R2.mul y (R2.mul x (inv2 x))=R2.mul (R2.mul x y) (inv2 x):=by
  obtain ⟨x1,x2⟩:=x
  obtain ⟨y1,y2⟩:=y
  generalize inv2 (x1,x2)=i
  obtain ⟨i1,i2⟩:=i
  simp only [R2]
  refine Prod.ext ?_ ?_
  ·show y1*(x1*i1-x2*i2)-y2*(x1*i2+x2*i1)=(x1*y1-x2*y2)*i1-(x1*y2+x2*y1)*i2
   grind
  ·show y1*(x1*i2+x2*i1)+y2*(x1*i1-x2*i2)=(x1*y1-x2*y2)*i2+(x1*y2+x2*y1)*i1
   grind
 rw [e]
 exact R2_zmul h
def t3 (x:E2):E2:=R2.add (R2.add (R2.mul x x) (R2.mul x x)) (R2.mul x x)
def cn (a:E2):Prop:=(0<=a.1/\a.1<bP)/\(0<=a.2/\a.2<bP)
def ng2 (a:E2):E2:=((-a.1)%bP,(-a.2)%bP)
theorem cn_ng (a:E2):cn (ng2 a):=⟨md_lt bP_pos,md_lt bP_pos⟩
theorem sub_z2 {x y:E2} (hx:cn x) (hy:cn y) (h:R2.isz (R2.sub y x)=true):x=y:=by
 obtain ⟨h1,h2⟩:=isz3.1 h
 refine Prod.ext ?_ ?_
 ·exact Classical.byContradiction fun hc=>sub_nz hx.1 hy.1 hc h1
 ·exact Classical.byContradiction fun hc=>sub_nz hx.2 hy.2 hc h2
theorem add_z2 {y y':E2} (hy:cn y) (hy':cn y') (h:R2.isz (R2.add y' y)=true):y=ng2 y':=by
 obtain ⟨h1,h2⟩:=isz3.1 h
 exact Prod.ext (opp_of hy.1 hy'.1 h1) (opp_of hy.2 hy'.2 h2)
theorem sub_self2 (x:E2):R2.isz (R2.sub x x)=true:=isz3.2 ⟨by rw [Int.sub_self];rfl,by rw [Int.sub_self];rfl⟩
theorem sq_dif2 {y y' s:E2} (h:R2.md (R2.mul y y)=R2.md s) (h':R2.md (R2.mul y' y')=R2.md s):R2.isz (R2.mul (R2.sub y' y) (R2.add y' y))=true:=by
 have e:R2.mul (R2.sub y' y) (R2.add y' y)=R2.sub (R2.mul y' y') (R2.mul y y):=by
  obtain ⟨a,b⟩:=y
  obtain ⟨c,d⟩:=y'
  simp only [R2]
  refine Prod.ext ?_ ?_
  ·simp only []
   grind
  ·simp only []
   grind
 rw [e]
 have h2:=h'.trans h.symm
 have h3:S2 (R2.mul y' y') (R2.mul y y):=⟨congrArg Prod.fst h2,congrArg Prod.snd h2⟩
 rw [S2_isz (S2R_sub h3 (S2_refl (R2.mul y y)))]
 exact sub_self2 _
section
variable {x y x' y':E2}
end
theorem PQ.S {a b:Int} {A:E2} (h:PQ a b A):S2 (a,b) A:=⟨by rw [h.1];exact md_self _,by rw [h.2];exact md_self _⟩
def isSq2 (a:E2):Prop:=∃ y:E2,S2 (R2.mul y y) a
def great2 (y:E2):Prop:=bP/2<y.2∨(y.2=0/\bP/2<y.1)
instance (y:E2):Decidable (great2 y):=by unfold great2;exact inferInstance
def les2 (y:E2):E2:=if great2 y then ng2 y else y
open Classical in
noncomputable def rt2 (a:E2):E2:=if h:isSq2 a then les2 (R2.md h.choose) else (0,0)
theorem ng_1 {c:Int} (h:0<=c/\c<bP):(c=0/\(-c)%bP=0)∨(0<c/\(-c)%bP=bP-c):=by
 by_cases h0:c=0
 ·left;rw [h0];exact ⟨rfl,rfl⟩
 ·right;exact ⟨by omega,neg_md (by omega) h.2⟩
theorem ng_ng {c:E2} (h:cn c):ng2 (ng2 c)=c:=by
 have one:∀ {c:Int},0<=c/\c<bP->(-((-c)%bP))%bP=c:=fun {c} h=>by
  rcases ng_1 h with ⟨h0,h1⟩ | ⟨h0,h1⟩
  ·rw [h1,h0];rfl
  ·rw [h1,neg_md (by omega) (by omega)];omega
 exact Prod.ext (one h.1) (one h.2)
theorem les_ng {c:E2} (h:cn c):les2 (ng2 c)=les2 c:=by
 have hodd:=bP_odd
 have g:great2 (ng2 c)↔(¬ great2 c/\¬ c=(0,0)):=by
  have e0:c=(0,0)↔c.1=0/\c.2=0:=⟨fun h=>by rw [h];exact ⟨rfl,rfl⟩,fun h=>Prod.ext h.1 h.2⟩
  rw [e0]
  unfold great2
  show (bP/2<(-c.2)%bP∨((-c.2)%bP=0/\bP/2<(-c.1)%bP))↔_
  rcases ng_1 h.1 with ⟨a0,a1⟩ | ⟨a0,a1⟩ <;> rcases ng_1 h.2 with ⟨b0,b1⟩ | ⟨b0,b1⟩ <;> rw [a1,b1] <;> have:=h.1.2 <;> have:=h.2.2 <;> clear a1 b1 <;> generalize bP=p at * <;> omega
 unfold les2
 by_cases hg:great2 c
 ·rw [if_pos hg,if_neg (fun hc=>(g.1 hc).1 hg)]
 ·by_cases h0:c=(0,0)
  ·rw [h0];rfl
  ·rw [if_neg hg,if_pos (g.2 ⟨hg,h0⟩),ng_ng h]
theorem md_cn (a:E2):cn (R2.md a):=⟨md_lt bP_pos,md_lt bP_pos⟩
theorem S2_md (a:E2):S2 (R2.md a) a:=⟨md_self _,md_self _⟩
theorem md_of_S2 {a b:E2} (h:S2 a b):R2.md a=R2.md b:=Prod.ext h.1 h.2
theorem rt2_of {y a:E2} (hy:cn y) (h:S2 (R2.mul y y) a):rt2 a=les2 y:=by
 have hs:isSq2 a:=⟨y,h⟩
 unfold rt2
 rw [dif_pos hs]
 have hc:=hs.choose_spec
 generalize hs.choose=c at hc ⊢
 have hc':S2 (R2.mul (R2.md c) (R2.md c)) a:=S2_trans (S2R_mul (S2_md c) (S2_md c)) hc
 have hd:=sq_dif2 (y:=y) (y':=R2.md c) (md_of_S2 h) (md_of_S2 hc')
 by_cases hz:R2.isz (R2.sub (R2.md c) y)=true
 ·rw [sub_z2 hy (md_cn c) hz]
 ·rw [add_z2 hy (md_cn c) (mul2_z hd hz),les_ng (md_cn c)]
theorem rt2_no {a:E2} (h:¬ isSq2 a):rt2 a=(0,0):=dif_neg h
theorem cn_les {y:E2} (h:cn y):cn (les2 y):=by
 unfold les2;split
 ·exact cn_ng y
 ·exact h
theorem sub0 {x y:Int} (h:x%bP=y%bP):(x-y)%bP=0:=by rw [Int.sub_emod,h,Int.sub_self];rfl
theorem of_sub0 {x y:Int} (h:(x-y)%bP=0):x%bP=y%bP:=by
 have:=mdE_add (p:=bP) (a:=x-y) (A:=0) (b:=y) (B:=y) (by rw [h];rfl) rfl
 rwa [Int.sub_add_cancel,Int.zero_add] at this
theorem lin2 {u v E a b:Int} (hu:u%bP=0) (hv:v%bP=0) (h:E=u*a+v*b):E%bP=0:=by
 rw [h];exact md0_add (md0_mul _ hu) (md0_mul _ hv)
theorem lin3 {u v w E a b c:Int} (hu:u%bP=0) (hv:v%bP=0) (hw:w%bP=0) (h:E=u*a+v*b+w*c):E%bP=0:=by
 rw [h];exact md0_add (md0_add (md0_mul _ hu) (md0_mul _ hv)) (md0_mul _ hw)
def kE:Nat:=((bP-3)/4).toNat
theorem eR_k:eR=kE+1:=by unfold eR kE bP;decide
theorem ferm_k {a:Int} (h:¬ a%bP=0):a^(2*(2*kE+1))%bP=1:=by
 have:=ferm h
 rwa [half_odd] at this
theorem rt_sq (c:Int):rtV c*rtV c%bP=c*c^(2*kE+1)%bP:=by
 have e:c^eR*c^eR=c*c^(2*kE+1):=by
  rw [eR_k,<- Int.pow_add,Int.mul_comm c,<- Int.pow_succ]
  congr 1 <;> omega
 rw [<- e]
 exact mdE_mul (md_self _) (md_self _)
theorem sq_u {c:Int} (h:c^(2*kE+1)%bP=1):sqV c:=by
 unfold sqV
 rw [rt_sq]
 have:=mdE_mul (p:=bP) (a:=c) (A:=c) (b:=c^(2*kE+1)) (B:=1) rfl (by rw [h];rfl)
 rwa [Int.mul_one] at this
theorem sq_z {c:Int} (h:c%bP=0):sqV c:=by
 unfold sqV
 rw [rt_sq,h]
 exact md0_mul _ h
theorem sq_of {c d:Int} (h:c%bP=d*d%bP):sqV c:=by
 by_cases hd:d%bP=0
 ·exact sq_z (by rw [h];exact md0_mul _ hd)
 ·refine sq_u ?_
  rw [<- ferm_k hd]
  have:=mdE_pow h (2*kE+1)
  rw [this,show d*d=d^2 by grind,<- Int.pow_mul]
theorem sq_neg {c:Int} (h:¬ sqV c):sqV (-c):=by
 have hc:¬ c%bP=0:=fun h0=>h (sq_z h0)
 have h1:=ferm_k hc
 have e:c^(2*(2*kE+1))=c^(2*kE+1)*c^(2*kE+1):=by rw [<- Int.pow_add];congr 1 <;> omega
 rw [e] at h1
 have hn:(-c)^(2*kE+1)=-(c^(2*kE+1)):=neg_odd c kE
 have hu:¬ c^(2*kE+1)%bP=1:=fun hu=>h (sq_u hu)
 generalize c^(2*kE+1)=u at *
 have h2:((u-1)*(u+1))%bP=0:=by
  have:=sub0 (x:=u*u) (y:=1) (by rw [h1];rfl)
  rwa [show (u-1)*(u+1)=u*u-1 by grind]
 have h3:¬ (u-1)%bP=0:=fun h0=>hu (by rw [of_sub0 h0];rfl)
 have h4:=mulB_z h2 h3
 refine sq_u ?_
 rw [hn]
 have:=sub0 (x:=u+1) (y:=0) (by rw [h4];rfl)
 have h5:(-u-1)%bP=0:=by
  have:=md0_mul (-1) h4
  rwa [show (u+1) * -1=-u-1 by omega] at this
 rw [of_sub0 h5];rfl
theorem sq_pm {a b:Int} (h:a*a%bP=b*b%bP):a%bP=b%bP∨a%bP=(-b)%bP:=by
 have h2:((a-b)*(a+b))%bP=0:=by
  have:=sub0 h
  rwa [show (a-b)*(a+b)=a*a-b*b by grind]
 by_cases h3:(a-b)%bP=0
 ·exact .inl (of_sub0 h3)
 ·right
  have h4:=mulB_z h2 h3
  exact of_sub0 (by rwa [Int.sub_neg])
theorem two_nz:¬ (2:Int)%bP=0:=by decide
theorem gen_root {A B s x w H i:Int} (hH:(2*H)%bP=1) (hs:s*s%bP=(A*A+B*B)%bP) (hB:¬ B%bP=0) (hx:x*x%bP=(A+s)*H%bP) (hi:¬ (x+x)%bP=0->(x+x)*i%bP=1) (hw:w%bP=B*i%bP):S2 (R2.mul (x,w) (x,w)) (A,B):=by
 have U2:=sub0 hs
 have V1:=sub0 hx
 have V2:(2*H-1)%bP=0:=sub0 (by rw [hH];rfl)
 have U1:((x+x)*x-(A+s))%bP=0:=lin2 (a:=2) (b:=A+s) V1 V2 (by grind)
 have hx0:¬ (x+x)%bP=0:=fun h0=>hB (by
  have hx1:x%bP=0:=mulB_z (x:=2) (by rw [show (2:Int)*x=x+x by omega];exact h0) two_nz
  have h1:(B*B)%bP=0:=lin3 (a:=-1) (b:=A-s) (c:=x*2*(s-A)) U2 U1 hx1 (by grind)
  exact Classical.byContradiction fun hb=>hb (mulB_z h1 hb))
 have h1:((x+x)*w-B)%bP=0:=by
  have W:=sub0 hw
  have I:=sub0 (x:=(x+x)*i) (y:=1) (by rw [hi hx0];rfl)
  exact lin2 (a:=x+x) (b:=B) W I (by grind)
 refine ⟨?_,?_⟩
 ·refine of_sub0 (x:=x*x-w*w) (y:=A) ?_
  have hD:((x+x)*((x+x)*(x*x-w*w-A)))%bP=0:=lin3 (a:=(x+x)*x-(A+s)+2*s) (b:=-((x+x)*w-B+2*B)) (c:=1) U1 h1 U2 (by grind)
  exact mulB_z (mulB_z hD hx0) hx0
 ·refine of_sub0 (x:=x*w+w*x) (y:=B) ?_
  rw [show x*w+w*x-B=(x+x)*w-B by grind];exact h1
theorem sq2_norm {A B:Int} (h:isSq2 (A,B)) {H:Int} (hH:(2*H)%bP=1):∃ n c d:Int,(A*A+B*B)%bP=n*n%bP/\(A+n)*H%bP=c*c%bP/\(n-A)*H%bP=d*d%bP/\A%bP=(c*c-d*d)%bP/\B%bP=(c*d+d*c)%bP:=by
 obtain ⟨⟨c,d⟩,h1,h2⟩:=h
 have a:(A-(c*c-d*d))%bP=0:=sub0 h1.symm
 have b:(B-(c*d+d*c))%bP=0:=sub0 h2.symm
 have V2:(2*H-1)%bP=0:=sub0 (by rw [hH];rfl)
 refine ⟨c*c+d*d,c,d,of_sub0 ?_,of_sub0 ?_,of_sub0 ?_,of_sub0 a,of_sub0 b⟩
 ·exact lin2 (a:=A+(c*c-d*d)) (b:=B+(c*d+d*c)) a b (by grind)
 ·exact lin2 (a:=H) (b:=c*c) a V2 (by grind)
 ·exact lin2 (a:=-H) (b:=d*d) a V2 (by grind)
theorem rt2_S {a b:E2} (h:S2 a b):rt2 a=rt2 b/\(isSq2 a↔isSq2 b):=by
 have hi:isSq2 a↔isSq2 b:=⟨fun ⟨y,hy⟩=>⟨y,S2_trans hy h⟩,fun ⟨y,hy⟩=>⟨y,S2_trans hy (S2_symm h)⟩⟩
 refine ⟨?_,hi⟩
 by_cases hs:isSq2 a
 ·obtain ⟨y,hy⟩:=hs
  have hy':S2 (R2.mul (R2.md y) (R2.md y)) a:=S2_trans (S2R_mul (S2_md y) (S2_md y)) hy
  rw [rt2_of (md_cn y) hy',rt2_of (md_cn y) (S2_trans hy' h)]
 ·rw [rt2_no hs,rt2_no (fun hb=>hs (hi.2 hb))]
theorem rt2_cn (a:E2):cn (rt2 a):=by
 by_cases hs:isSq2 a
 ·obtain ⟨y,hy⟩:=hs
  rw [rt2_of (md_cn y) (S2_trans (S2R_mul (S2_md y) (S2_md y)) hy)]
  exact cn_les (md_cn y)
 ·rw [rt2_no hs];exact ⟨⟨by decide,bP_pos⟩,by decide,bP_pos⟩
theorem rt_of {c d:Int} (h:c%bP=d*d%bP):sqV c/\(rtV c%bP=d%bP∨rtV c%bP=(-d)%bP):=by
 have hs:=sq_of h
 refine ⟨hs,sq_pm ?_⟩
 exact (show rtV c*rtV c%bP=c%bP from hs).trans h
def kE2Neg (f:FuncId):K:={fn:=f,ext:=false,ins:=[iE2],outs:=[oE2],pre:=fun | [a,b]=>a<bP/\b<bP | _=>False,sem:=fun | [a,b]=>[toE (-ofE a),toE (-ofE b)] | _=>[] }
noncomputable def kTwRoot (f:FuncId):K:={fn:=f,ext:=false,ins:=[iN],outs:=[oN,oB],pre:=fun | [a]=>a<bP | _=>False,sem:=fun | [a]=>[toE (rtV (ofE a)),bj (sqV (ofE a))] | _=>[] }
def kTwLess (f:FuncId):K:={fn:=f,ext:=false,ins:=[iE2],outs:=[oE2],pre:=fun | [a,b]=>a<bP/\b<bP | _=>False,sem:=fun | [a,b]=>[(les2 (ofE a,ofE b)).1,(les2 (ofE a,ofE b)).2] | _=>[] }
open Classical in
noncomputable def root2V (a:E2):List Int:=if isSq2 a then [(rt2 a).1,(rt2 a).2,0] else [0,0,6]
theorem root2V_t {a:E2} (h:isSq2 a):root2V a=[(rt2 a).1,(rt2 a).2,0]:=if_pos h
theorem root2V_f {a:E2} (h:¬ isSq2 a):root2V a=[0,0,6]:=if_neg h
theorem root2V_of {y a:E2} (hy:cn y) (h:S2 (R2.mul y y) a):root2V a=[(les2 y).1,(les2 y).2,0]:=by rw [root2V_t ⟨y,h⟩,rt2_of hy h]
noncomputable def kTwRoot2 (f:FuncId):K:={fn:=f,ext:=false,ins:=[iE2],outs:=[oE2,oI],pre:=fun _=>True,sem:=fun | [a,b]=>root2V (a,b) | _=>[] }
def kTwAdd2 (f:FuncId):K:={fn:=f,ext:=false,ins:=[iE2,iE2],outs:=[oE2],pre:=fun _=>True,sem:=fun | [a,b,c,d]=>[(a+c)%bP,(b+d)%bP] | _=>[] }
def kTwMul2 (f:FuncId):K:={fn:=f,ext:=false,ins:=[iE2,iE2],outs:=[oE2],pre:=fun _=>True,sem:=fun | [a,b,c,d]=>[(a*c-b*d)%bP,(a*d+b*c)%bP] | _=>[] }
noncomputable def kAt2 (f:FuncId):K:={fn:=f,ext:=false,ins:=[iE2],outs:=[.agg lsQ2,oB],pre:=fun _=>True,sem:=fun | [a,b]=>[a,b,(rt2 (side2 (a,b))).1,(rt2 (side2 (a,b))).2,0,bj (isSq2 (side2 (a,b)))] | _=>[] }
def tE2Neg:Tree:=(.req 0 [.var 0]
(.lett 98 .num (.app 0 0 [.var 0])
(.req 0 [.var 1]
(.lett 242 .num (.app 0 0 [.var 1])
(.ret [.var 98,.var 242])))))
theorem law_e2Neg (f1 f:FuncId) (e:Nat->Int) (hp:(kE2Neg f).pre [e 0,e 1]):tE2Neg.says [kENeg f1] ⟨fun ys=>ys=(kE2Neg f).sem [e 0,e 1],[]⟩ e:=by
 obtain ⟨u0,u1⟩:e 0<bP/\e 1<bP:=hp
 refine ⟨u0,fun a1 _=>⟨u1,fun a2 _=>?_⟩⟩
 show [e 98,e 242]=[toE (-ofE (e 0)),toE (-ofE (e 1))]
 rw [show e 98=_ from a1,show e 242=_ from a2];rfl
def tTwRoot:Tree:=(.req 1 []
(.lett 1 .num (.app 1 0 [])
(.req 2 [.lit 1]
(.lett 2 .num (.app 2 0 [.lit 1])
(.req 0 [.var 1,.var 2]
(.lett 3 .num (.app 0 0 [.var 1,.var 2])
(.lett 4 .bit (.app 0 1 [.var 1,.var 2])
(.req 3 [.var 3]
(.lett 101 .num (.app 3 0 [.var 3])
(.req 4 [.var 0,.var 101]
(.lett 149 .num (.app 4 0 [.var 0,.var 101])
(.req 5 [.var 149,.var 149]
(.lett 437 .num (.app 5 0 [.var 149,.var 149])
(.lett 533 .bit (.eqs [((.limb 437 0),(.limb 0 0)),((.limb 437 1),(.limb 0 1)),((.limb 437 2),(.limb 0 2)),((.limb 437 3),(.limb 0 3)),((.limb 437 4),(.limb 0 4)),((.limb 437 5),(.limb 0 5))])
(.ret [.var 149,.var 533])))))))))))))))
theorem law_twRoot (f1 f2 f3 f4 f5 f6 f:FuncId) (e:Nat->Int) (hk:kkHas [.num] [e 0]) (hp:(kTwRoot f).pre [e 0]):tTwRoot.says [kWAdd f1,kMBase f2,kOf f3,kShR2 f4,kEPow f5,kEMul f6] ⟨fun ys=>ys=(kTwRoot f).sem [e 0],[]⟩ e:=by
 have u0:e 0<bP:=hp
 have k0:0<=e 0/\e 0<N384:=hk.1
 show tTwRoot.says _ ⟨fun ys=>ys=[toE (rtV (ofE (e 0))),bj (sqV (ofE (e 0)))],[]⟩ e
 refine ⟨trivial,fun a1 _=>⟨trivial,fun a2 _=>⟨trivial,fun a3 _ a4 _=>⟨trivial,fun a101 _=>⟨u0,fun a149 _=>?_⟩⟩⟩⟩⟩
 have v149:e 149=toE (rtV (ofE (e 0))):=by
  have h:e 149=toE (ofE (e 0)^(e 101).toNat):=a149
  rw [h,show e 101=e 3/4 from a101,show e 3=(e 1+e 2)%N384 from a3,show e 1=bP from a1,show e 2=1 from a2,eR_of]
  exact toE_md (md_self _).symm
 refine ⟨⟨E_lt v149,E_lt v149⟩,fun a437 k437 a533 _=>?_⟩
 have v437:e 437=toE (rtV (ofE (e 0))*rtV (ofE (e 0))):=Emul (show e 437=toE (ofE (e 149)*ofE (e 149)) from a437) v149 v149
 have b533:=c_num a533 k437 k0
 have hsq:e 437=e 0↔sqV (ofE (e 0)):=by
  have h0:=E_of k0.1 u0
  constructor
  ·intro h
   rw [v437] at h
   exact toE_inj (h.trans h0)
  ·intro h
   rw [v437,toE_md h];exact h0.symm
 show [e 149,e 533]=_
 rw [v149,show e 533=bj (sqV (ofE (e 0))) from bj_of (by
  rcases b533 with ⟨h1,h2⟩ | ⟨h1,h2⟩
  ·exact .inl ⟨h1,hsq.1 h2⟩
  ·exact .inr ⟨h1,fun h=>h2 (hsq.2 h)⟩)]
theorem ng_lt {c:Int} (h:0<=c/\c<bP):(-c)%bP<c↔bP/2<c:=by
 have hodd:=bP_odd
 rcases ng_1 h with ⟨a0,a1⟩ | ⟨a0,a1⟩ <;> rw [a1] <;> have:=h.2 <;> clear a1 <;> generalize bP=p at * <;> omega
theorem ng_eq {c:Int} (h:0<=c/\c<bP):(-c)%bP=c↔c=0:=by
 have hodd:=bP_odd
 rcases ng_1 h with ⟨a0,a1⟩ | ⟨a0,a1⟩ <;> rw [a1] <;> have:=h.2 <;> clear a1 <;> generalize bP=p at * <;> omega
theorem cmpV_eq {v a b:Int} (h:v=if a<b then -1 else if a=b then 0 else 1):v=0↔a=b:=by
 rw [h];split
 ·rename_i h1;exact ⟨fun h2=>absurd h2 (by decide),fun h2=>by omega⟩
 ·split
  ·rename_i h2;exact ⟨fun _=>h2,fun _=>rfl⟩
  ·rename_i h2;exact ⟨fun h3=>absurd h3 (by decide),fun h3=>absurd h3 h2⟩
theorem ofE_rng (a:Int):0<=ofE a/\ofE a<bP:=md_lt bP_pos
def tTwLess:Tree:=(.req 0 [.var 0,.var 1]
(.lett 50 .num (.app 0 0 [.var 0,.var 1])
(.lett 51 .num (.app 0 1 [.var 0,.var 1])
(.req 1 [.var 0,.var 1]
(.lett 146 .num (.app 1 0 [.var 0,.var 1])
(.lett 147 .num (.app 1 1 [.var 0,.var 1])
(.req 0 [.var 146,.var 147]
(.lett 194 .num (.app 0 0 [.var 146,.var 147])
(.lett 195 .num (.app 0 1 [.var 146,.var 147])
(.req 2 [.var 195,.var 51]
(.lett 434 (.int .i64) (.app 2 0 [.var 195,.var 51])
(.lett 435 .bit (.cmp .lss (.var 434) (.lit 0))
(.split 435
(.ret [.var 194,.var 195])
(.lett 436 .bit (.cmp .eql (.var 434) (.lit 0))
(.split 436
 (.req 2 [.var 194,.var 50]
 (.lett 437 (.int .i64) (.app 2 0 [.var 194,.var 50])
 (.lett 438 .bit (.cmp .lss (.var 437) (.lit 0))
 (.split 438
 (.ret [.var 194,.var 195])
 (.ret [.var 50,.var 51])))))
 (.ret [.var 50,.var 51]))))))))))))))))
theorem law_twLess (f1 f2 f3 f:FuncId) (e:Nat->Int) (hk:kkHas [.num,.num] [e 0,e 1]) (hp:(kTwLess f).pre [e 0,e 1]):tTwLess.says [kE2From f1,kE2Neg f2,kWCmp f3] ⟨fun ys=>ys=(kTwLess f).sem [e 0,e 1],[]⟩ e:=by
 obtain ⟨u0,u1⟩:e 0<bP/\e 1<bP:=hp
 obtain ⟨A,hA⟩:∃ A,ofE (e 0)=A:=⟨_,rfl⟩
 obtain ⟨B,hB⟩:∃ B,ofE (e 1)=B:=⟨_,rfl⟩
 have ra:=ofE_rng (e 0)
 have rb:=ofE_rng (e 1)
 rw [hA] at ra
 rw [hB] at rb
 show tTwLess.says _ ⟨fun ys=>ys=[(les2 (ofE (e 0),ofE (e 1))).1,(les2 (ofE (e 0),ofE (e 1))).2],[]⟩ e
 rw [hA,hB]
 refine ⟨⟨u0,u1⟩,fun a50 _ a51 _=>⟨⟨u0,u1⟩,fun a146 _ a147 _=>?_⟩⟩
 have v50:e 50=A:=(show e 50=ofE (e 0) from a50).trans hA
 have v51:e 51=B:=(show e 51=ofE (e 1) from a51).trans hB
 have v146:e 146=toE (-A):=by rw [show e 146=toE (-ofE (e 0)) from a146,hA]
 have v147:e 147=toE (-B):=by rw [show e 147=toE (-ofE (e 1)) from a147,hB]
 refine ⟨⟨E_lt v146,E_lt v147⟩,fun a194 _ a195 _=>⟨trivial,fun a434 _ a435 _=>?_⟩⟩
 have v194:e 194=(-A)%bP:=by rw [show e 194=ofE (e 146) from a194,v146,ofE_toE]
 have v195:e 195=(-B)%bP:=by rw [show e 195=ofE (e 147) from a195,v147,ofE_toE]
 have l1:=(cmpV_lt (show e 434=if e 195<e 51 then -1 else if e 195=e 51 then 0 else 1 from a434))
 have l2:=(cmpV_eq (show e 434=if e 195<e 51 then -1 else if e 195=e 51 then 0 else 1 from a434))
 rw [v195,v51,ng_lt rb] at l1
 rw [v195,v51,ng_eq rb] at l2
 have b435:=c_lt a435
 simp only [ev_var,ev_lit] at b435
 have yes:great2 (A,B)->[e 194,e 195]=[(les2 (A,B)).1,(les2 (A,B)).2]:=fun hg=>by
  rw [show les2 (A,B)=ng2 (A,B) from if_pos hg,v194,v195];rfl
 have no:¬ great2 (A,B)->[e 50,e 51]=[(les2 (A,B)).1,(les2 (A,B)).2]:=fun hg=>by
  rw [show les2 (A,B)=(A,B) from if_neg hg,v50,v51]
 refine ⟨fun h=>yes (.inl (l1.1 (b_yes b435 h))),fun h=>?_⟩
 have n1:¬ bP/2<B:=fun hc=>b_no b435 h (l1.2 hc)
 intro a436 _
 have b436:=c_eq a436
 simp only [ev_var,ev_lit] at b436
 refine ⟨fun h=>⟨trivial,fun a437 _ a438 _=>?_⟩,fun h=>no (fun hg=>by
  rcases hg with hg | hg
  ·exact n1 hg
  ·exact b_no b436 h (l2.2 hg.1))⟩
 have z0:=l2.1 (b_yes b436 h)
 have l3:=(cmpV_lt (show e 437=if e 194<e 50 then -1 else if e 194=e 50 then 0 else 1 from a437))
 rw [v194,v50,ng_lt ra] at l3
 have b438:=c_lt a438
 simp only [ev_var,ev_lit] at b438
 exact ⟨fun h=>yes (.inr ⟨z0,l3.1 (b_yes b438 h)⟩),fun h=>no (fun hg=>by
  rcases hg with hg | hg
  ·exact n1 hg
  ·exact b_no b438 h (l3.2 hg.2))⟩
def tTwAdd2:Tree:=(.req 2 [.var 0,.var 1]
(.lett 52 .num (.app 2 0 [.var 0,.var 1])
(.lett 53 .num (.app 2 1 [.var 0,.var 1])
(.req 2 [.var 2,.var 3]
(.lett 148 .num (.app 2 0 [.var 2,.var 3])
(.lett 149 .num (.app 2 1 [.var 2,.var 3])
(.req 1 [.var 52,.var 53,.var 148,.var 149]
(.lett 196 .num (.app 1 0 [.var 52,.var 53,.var 148,.var 149])
(.lett 197 .num (.app 1 1 [.var 52,.var 53,.var 148,.var 149])
(.req 0 [.var 196,.var 197]
(.lett 244 .num (.app 0 0 [.var 196,.var 197])
(.lett 245 .num (.app 0 1 [.var 196,.var 197])
(.ret [.var 244,.var 245])))))))))))))
theorem law_twAdd2 (f1 f2 f3 f:FuncId) (e:Nat->Int):tTwAdd2.says [kE2From f1,kE2Add f2,kE2To f3] ⟨fun ys=>ys=(kTwAdd2 f).sem [e 0,e 1,e 2,e 3],[]⟩ e:=by
 refine ⟨trivial,fun a1 _ a2 _=>⟨trivial,fun a3 _ a4 _=>?_⟩⟩
 have v1:e 52=toE (e 0):=a1
 have v2:e 53=toE (e 1):=a2
 have v3:e 148=toE (e 2):=a3
 have v4:e 149=toE (e 3):=a4
 refine ⟨⟨E_lt v1,E_lt v2,E_lt v3,E_lt v4⟩,fun a5 _ a6 _=>?_⟩
 have v5:e 196=toE (e 0+e 2):=Eadd (show e 196=toE (ofE (e 52)+ofE (e 148)) from a5) v1 v3
 have v6:e 197=toE (e 1+e 3):=Eadd (show e 197=toE (ofE (e 53)+ofE (e 149)) from a6) v2 v4
 refine ⟨⟨E_lt v5,E_lt v6⟩,fun a7 _ a8 _=>?_⟩
 show [e 244,e 245]=[(e 0+e 2)%bP,(e 1+e 3)%bP]
 rw [show e 244=ofE (e 196) from a7,show e 245=ofE (e 197) from a8,v5,v6,ofE_toE,ofE_toE]
def tTwMul2:Tree:=(.req 2 [.var 0,.var 1]
(.lett 52 .num (.app 2 0 [.var 0,.var 1])
(.lett 53 .num (.app 2 1 [.var 0,.var 1])
(.req 2 [.var 2,.var 3]
(.lett 148 .num (.app 2 0 [.var 2,.var 3])
(.lett 149 .num (.app 2 1 [.var 2,.var 3])
(.req 1 [.var 52,.var 53,.var 148,.var 149]
(.lett 196 .num (.app 1 0 [.var 52,.var 53,.var 148,.var 149])
(.lett 197 .num (.app 1 1 [.var 52,.var 53,.var 148,.var 149])
(.req 0 [.var 196,.var 197]
(.lett 244 .num (.app 0 0 [.var 196,.var 197])
(.lett 245 .num (.app 0 1 [.var 196,.var 197])
(.ret [.var 244,.var 245])))))))))))))
theorem law_twMul2 (f1 f2 f3 f:FuncId) (e:Nat->Int):tTwMul2.says [kE2From f1,kE2Mul f2,kE2To f3] ⟨fun ys=>ys=(kTwMul2 f).sem [e 0,e 1,e 2,e 3],[]⟩ e:=by
 refine ⟨trivial,fun a1 _ a2 _=>⟨trivial,fun a3 _ a4 _=>?_⟩⟩
 have v1:e 52=toE (e 0):=a1
 have v2:e 53=toE (e 1):=a2
 have v3:e 148=toE (e 2):=a3
 have v4:e 149=toE (e 3):=a4
 refine ⟨⟨E_lt v1,E_lt v2,E_lt v3,E_lt v4⟩,fun a5 _ a6 _=>?_⟩
 have q:=EQ_mul (x:=e 196) (y:=e 197) (A:=(e 0,e 1)) (C:=(e 2,e 3)) a5 a6 ⟨v1,v2⟩ ⟨v3,v4⟩
 refine ⟨⟨E_lt q.1,E_lt q.2⟩,fun a7 _ a8 _=>?_⟩
 show [e 244,e 245]=[(e 0*e 2-e 1*e 3)%bP,(e 0*e 3+e 1*e 2)%bP]
 rw [show e 244=ofE (e 196) from a7,show e 245=ofE (e 197) from a8,q.1,q.2,ofE_toE,ofE_toE];rfl
theorem rtE {v a X:Int} (h:v=toE (rtV (ofE a))) (ha:a=toE X):v=toE (rtV X):=by rw [h,ha,ofE_toE,rtV_mod]
theorem sqE {v a X:Int} (h:v=bj (sqV (ofE a))) (ha:a=toE X):v=bj (sqV X):=by rw [h,ha,ofE_toE];exact bj_iff (sqV_mod X)
theorem les_toE {v w a b X Y:Int} (h:v=(les2 (ofE a,ofE b)).1) (k:w=(les2 (ofE a,ofE b)).2) (ha:a=toE X) (hb:b=toE Y):v=(les2 (X%bP,Y%bP)).1/\w=(les2 (X%bP,Y%bP)).2:=by
 rw [h,k,ha,hb,ofE_toE,ofE_toE];exact ⟨rfl,rfl⟩
theorem cn_md (a b:Int):cn (a%bP,b%bP):=⟨md_lt bP_pos,md_lt bP_pos⟩
theorem root2V_md {x y:Int} {a:E2} (h:S2 (R2.mul (x,y) (x,y)) a):root2V a=[(les2 (x%bP,y%bP)).1,(les2 (x%bP,y%bP)).2,0]:=root2V_of (cn_md x y) (S2_trans (S2R_mul ⟨md_self _,md_self _⟩ ⟨md_self _,md_self _⟩) h)
theorem zeroE:(0:Int)=toE 0:=toE_0.symm
theorem invB_two:(2*invB 2)%bP=1:=invB_ok two_nz
def tailW (x n1 n2 n3 n4:Nat):Tree:=.req 6 [.var x,.var x] (.lett n1 .num (.app 6 0 [.var x,.var x]) (.req 5 [.var n1] (.lett n2 .num (.app 5 0 [.var n1]) (.req 8 [.var 3,.var n2] (.lett n3 .num (.app 8 0 [.var 3,.var n2]) (.req 2 [.var x,.var n3] (.lett n4 .num (.app 2 0 [.var x,.var n3]) (.lett (n4+1) .num (.app 2 1 [.var x,.var n3]) (.ret [.var n4,.var (n4+1),.lit 0])))))))))
theorem tailW_says {T:List K} {e:Nat->Int} {g2 g5 g6 g8:FuncId} (h2:T[2]?=some (kTwLess g2)) (h5:T[5]?=some (kEInv g5)) (h6:T[6]?=some (kEAdd g6)) (h8:T[8]?=some (kEMul g8)) (x n1 n2 n3 n4:Nat) {A B s:Int} (hs:s*s%bP=(A*A+B*B)%bP) (hB:¬ B%bP=0) (v3:e 3=toE B) (vx:e x=toE (rtV ((A+s)*invB 2))) (hq:sqV ((A+s)*invB 2)):(tailW x n1 n2 n3 n4).says T ⟨fun ys=>ys=root2V (A,B),[]⟩ e:=by
 obtain ⟨t,ht⟩:∃ t,t=rtV ((A+s)*invB 2):=⟨_,rfl⟩
 rw [<- ht] at vx
 refine ⟨by rw [h6];exact ⟨E_lt vx,E_lt vx⟩,fun a1 _=>?_⟩
 simp only [D.ev,h6] at a1
 have v1:e n1=toE (t+t):=Eadd (show e n1=toE (ofE (e x)+ofE (e x)) from a1) vx vx
 refine ⟨by rw [h5];exact E_lt v1,fun a2 _=>?_⟩
 simp only [D.ev,h5] at a2
 have v2:e n2=toE (invB (t+t)):=Epow (show e n2=toE (ofE (e n1)^(bP-2).toNat) from a2) v1
 refine ⟨by rw [h8];exact ⟨E_lt v3,E_lt v2⟩,fun a3 _=>?_⟩
 simp only [D.ev,h8] at a3
 have w3:e n3=toE (B*invB (t+t)):=Emul (show e n3=toE (ofE (e 3)*ofE (e n2)) from a3) v3 v2
 refine ⟨by rw [h2];exact ⟨E_lt vx,E_lt w3⟩,fun a4 _ a5 _=>?_⟩
 simp only [D.ev,h2] at a4 a5
 obtain ⟨r1,r2⟩:=les_toE (show e n4=(les2 (ofE (e x),ofE (e n3))).1 from a4) (show e (n4+1)=(les2 (ofE (e x),ofE (e n3))).2 from a5) vx w3
 show [e n4,e (n4+1),0]=_
 rw [r1,r2]
 refine (root2V_md (gen_root invB_two hs hB (x:=t) (i:=invB (t+t)) ?_ (fun h=>invB_ok h) rfl)).symm
 rw [ht];exact hq
def tTwRoot2:Tree:=(.req 0 [.var 0,.var 1]
(.lett 2 .num (.app 0 0 [.var 0,.var 1])
(.lett 3 .num (.app 0 1 [.var 0,.var 1])
(.lett 4 .bit (.eqs [((.limb 3 0),(.lit 0)),((.limb 3 1),(.lit 0)),((.limb 3 2),(.lit 0)),((.limb 3 3),(.lit 0)),((.limb 3 4),(.lit 0)),((.limb 3 5),(.lit 0))])
(.split 4
(.req 1 [.var 2]
(.lett 5 .num (.app 1 0 [.var 2])
(.lett 6 .bit (.app 1 1 [.var 2])
(.split 6
 (.req 2 [.var 5,.lit 0]
 (.lett 7 .num (.app 2 0 [.var 5,.lit 0])
 (.lett 8 .num (.app 2 1 [.var 5,.lit 0])
 (.ret [.var 7,.var 8,.lit 0]))))
 (.req 3 [.var 2]
 (.lett 7 .num (.app 3 0 [.var 2])
 (.req 1 [.var 7]
 (.lett 8 .num (.app 1 0 [.var 7])
 (.lett 9 .bit (.app 1 1 [.var 7])
 (.req 2 [.lit 0,.var 8]
 (.lett 10 .num (.app 2 0 [.lit 0,.var 8])
 (.lett 11 .num (.app 2 1 [.lit 0,.var 8])
 (.ret [.var 10,.var 11,.lit 0])))))))))))))
(.req 4 [.var 2,.var 3]
(.lett 5 .num (.app 4 0 [.var 2,.var 3])
(.req 1 [.var 5]
(.lett 6 .num (.app 1 0 [.var 5])
(.lett 7 .bit (.app 1 1 [.var 5])
(.lett 8 .bit (.not (.var 7))
(.split 8
 (.ret [.lit 0,.lit 0,.lit 6])
 (.req 7 []
 (.lett 9 .num (.app 7 0 [])
 (.req 7 []
 (.lett 10 .num (.app 7 0 [])
 (.req 6 [.var 9,.var 10]
 (.lett 11 .num (.app 6 0 [.var 9,.var 10])
 (.req 5 [.var 11]
 (.lett 12 .num (.app 5 0 [.var 11])
 (.req 6 [.var 2,.var 6]
 (.lett 157 .num (.app 6 0 [.var 2,.var 6])
 (.req 8 [.var 157,.var 12]
 (.lett 253 .num (.app 8 0 [.var 157,.var 12])
 (.req 1 [.var 253]
 (.lett 301 .num (.app 1 0 [.var 253])
 (.lett 302 .bit (.app 1 1 [.var 253])
 (.split 302
 (.req 6 [.var 301,.var 301]
 (.lett 877 .num (.app 6 0 [.var 301,.var 301])
 (.req 5 [.var 877]
 (.lett 925 .num (.app 5 0 [.var 877])
 (.req 8 [.var 3,.var 925]
 (.lett 973 .num (.app 8 0 [.var 3,.var 925])
 (.req 2 [.var 301,.var 973]
 (.lett 1069 .num (.app 2 0 [.var 301,.var 973])
 (.lett 1070 .num (.app 2 1 [.var 301,.var 973])
 (.ret [.var 1069,.var 1070,.lit 0]))))))))))
 (.req 3 [.var 6]
 (.lett 637 .num (.app 3 0 [.var 6])
 (.req 6 [.var 2,.var 637]
 (.lett 782 .num (.app 6 0 [.var 2,.var 637])
 (.req 8 [.var 782,.var 12]
 (.lett 878 .num (.app 8 0 [.var 782,.var 12])
 (.req 1 [.var 878]
 (.lett 926 .num (.app 1 0 [.var 878])
 (.lett 927 .bit (.app 1 1 [.var 878])
 (.split 927
 (.req 6 [.var 926,.var 926]
 (.lett 1502 .num (.app 6 0 [.var 926,.var 926])
 (.req 5 [.var 1502]
 (.lett 1550 .num (.app 5 0 [.var 1502])
 (.req 8 [.var 3,.var 1550]
 (.lett 1598 .num (.app 8 0 [.var 3,.var 1550])
 (.req 2 [.var 926,.var 1598]
 (.lett 1694 .num (.app 2 0 [.var 926,.var 1598])
 (.lett 1695 .num (.app 2 1 [.var 926,.var 1598])
 (.ret [.var 1694,.var 1695,.lit 0]))))))))))
 (.req 3 [.var 637]
 (.lett 1262 .num (.app 3 0 [.var 637])
 (.ret [.lit 0,.lit 0,.lit 6])))))))))))))))))))))))))))))))))))))))))
theorem law_twRoot2 (f1 f2 f3 f4 f5 f6 f7 f8 f9 f:FuncId) (e:Nat->Int) (hk:kkHas [.num,.num] [e 0,e 1]):tTwRoot2.says [kE2To f1,kTwRoot f2,kTwLess f3,kENeg f4,kE2Norm f5,kEInv f6,kEAdd f7,kEOne f8,kEMul f9] ⟨fun ys=>ys=(kTwRoot2 f).sem [e 0,e 1],[]⟩ e:=by
 show tTwRoot2.says _ ⟨fun ys=>ys=root2V (e 0,e 1),[]⟩ e
 obtain ⟨A,hA⟩:∃ A,e 0=A:=⟨_,rfl⟩
 obtain ⟨B,hB⟩:∃ B,e 1=B:=⟨_,rfl⟩
 rw [hA,hB]
 refine ⟨trivial,fun a2 _ a3 k3 a4 _=>?_⟩
 have v2:e 2=toE A:=by rw [<- hA];exact a2
 have v3:e 3=toE B:=by rw [<- hB];exact a3
 have b4:=c_num0 a4 k3
 rw [v3,toE_zero] at b4
 refine ⟨fun h=>?_,fun h=>?_⟩
 ·have hz:=b_yes b4 h
  refine ⟨E_lt v2,fun a5 _ a6 _=>?_⟩
  have v5:=rtE (show e 5=toE (rtV (ofE (e 2))) from a5) v2
  have v6:=sqE (show e 6=bj (sqV (ofE (e 2))) from a6) v2
  refine ⟨fun h=>?_,fun h=>?_⟩
  ·have hq:=bj_nz v6 h
   refine ⟨⟨E_lt v5,bP_pos⟩,fun a7 _ a8 _=>?_⟩
   obtain ⟨r1,r2⟩:=les_toE (show e 7=(les2 (ofE (e 5),ofE 0)).1 from a7) (show e 8=(les2 (ofE (e 5),ofE 0)).2 from a8) v5 zeroE
   show [e 7,e 8,0]=_
   rw [r1,r2]
   refine (root2V_md ⟨?_,?_⟩).symm
   ·show (rtV A*rtV A-0*0)%bP=A%bP
    rw [Int.mul_zero,Int.sub_zero];exact hq
   ·show (rtV A*0+0*rtV A)%bP=B%bP
    rw [Int.mul_zero,Int.zero_mul,hz];rfl
  ·have hq:=sq_neg (bj_z v6 h)
   refine ⟨E_lt v2,fun a7 _=>?_⟩
   have v7:=Eneg (show e 7=toE (-ofE (e 2)) from a7) v2
   refine ⟨E_lt v7,fun a8 _ a9 _=>?_⟩
   have v8:=rtE (show e 8=toE (rtV (ofE (e 7))) from a8) v7
   refine ⟨⟨bP_pos,E_lt v8⟩,fun a10 _ a11 _=>?_⟩
   obtain ⟨r1,r2⟩:=les_toE (show e 10=(les2 (ofE 0,ofE (e 8))).1 from a10) (show e 11=(les2 (ofE 0,ofE (e 8))).2 from a11) zeroE v8
   show [e 10,e 11,0]=_
   rw [r1,r2]
   have hq:rtV (-A)*rtV (-A)%bP=(-A)%bP:=hq
   generalize rtV (-A)=t at *
   refine (root2V_md ⟨?_,?_⟩).symm
   ·show (0*0-t*t)%bP=A%bP
    have:=mdE_neg hq
    rwa [Int.neg_neg,show -(t*t)=0*0-t*t by omega] at this
   ·show (0*t+t*0)%bP=B%bP
    rw [Int.mul_zero,Int.zero_mul,hz];rfl
 have hB0:=b_no b4 h
 refine ⟨⟨E_lt v2,E_lt v3⟩,fun a5 _=>?_⟩
 have v5:e 5=toE (A*A+B*B):=by
  rw [show e 5=toE (ofE (e 2)*ofE (e 2)+ofE (e 3)*ofE (e 3)) from a5]
  exact toE_md (mdE_add (mdE_mul (E_ofm v2) (E_ofm v2)) (mdE_mul (E_ofm v3) (E_ofm v3)))
 refine ⟨E_lt v5,fun a6 _ a7 _ a8 _=>?_⟩
 have v6:=rtE (show e 6=toE (rtV (ofE (e 5))) from a6) v5
 have v7:=sqE (show e 7=bj (sqV (ofE (e 5))) from a7) v5
 have b8:=c_not a8
 simp only [ev_var] at b8
 refine ⟨fun h=>?_,fun h=>?_⟩
 ·have hq:=bj_z v7 (b_yes b8 h)
  refine (root2V_f (fun hs=>hq ?_)).symm
  obtain ⟨n,c,d,h1,_⟩:=sq2_norm hs invB_two
  exact sq_of h1
 have hq:=bj_nz v7 (b_no b8 h)
 obtain ⟨s,hs⟩:∃ s,s=rtV (A*A+B*B):=⟨_,rfl⟩
 rw [<- hs] at v6
 have hss:s*s%bP=(A*A+B*B)%bP:=by rw [hs];exact hq
 have hss':-s * -s%bP=(A*A+B*B)%bP:=by rw [Int.neg_mul_neg];exact hss
 refine ⟨trivial,fun a9 _=>⟨trivial,fun a10 _=>?_⟩⟩
 have v9:e 9=toE 1:=a9
 have v10:e 10=toE 1:=a10
 refine ⟨⟨E_lt v9,E_lt v10⟩,fun a11 _=>?_⟩
 have v11:=Eadd (show e 11=toE (ofE (e 9)+ofE (e 10)) from a11) v9 v10
 refine ⟨E_lt v11,fun a12 _=>?_⟩
 have v12:e 12=toE (invB 2):=Epow (show e 12=toE (ofE (e 11)^(bP-2).toNat) from a12) v11
 refine ⟨⟨E_lt v2,E_lt v6⟩,fun a157 _=>?_⟩
 have v157:=Eadd (show e 157=toE (ofE (e 2)+ofE (e 6)) from a157) v2 v6
 refine ⟨⟨E_lt v157,E_lt v12⟩,fun a253 _=>?_⟩
 have v253:=Emul (show e 253=toE (ofE (e 157)*ofE (e 12)) from a253) v157 v12
 refine ⟨E_lt v253,fun a301 _ a302 _=>?_⟩
 have v301:=rtE (show e 301=toE (rtV (ofE (e 253))) from a301) v253
 have v302:=sqE (show e 302=bj (sqV (ofE (e 253))) from a302) v253
 refine ⟨fun h=>?_,fun h=>?_⟩
 ·exact tailW_says (T:=[kE2To f1,kTwRoot f2,kTwLess f3,kENeg f4,kE2Norm f5,kEInv f6,kEAdd f7,kEOne f8,kEMul f9]) rfl rfl rfl rfl 301 877 925 973 1069 hss hB0 v3 v301 (bj_nz v302 h)
 have n1:=bj_z v302 h
 refine ⟨E_lt v6,fun a637 _=>?_⟩
 have v637:=Eneg (show e 637=toE (-ofE (e 6)) from a637) v6
 refine ⟨⟨E_lt v2,E_lt v637⟩,fun a782 _=>?_⟩
 have v782:=Eadd (show e 782=toE (ofE (e 2)+ofE (e 637)) from a782) v2 v637
 refine ⟨⟨E_lt v782,E_lt v12⟩,fun a878 _=>?_⟩
 have v878:=Emul (show e 878=toE (ofE (e 782)*ofE (e 12)) from a878) v782 v12
 refine ⟨E_lt v878,fun a926 _ a927 _=>?_⟩
 have v926:=rtE (show e 926=toE (rtV (ofE (e 878))) from a926) v878
 have v927:=sqE (show e 927=bj (sqV (ofE (e 878))) from a927) v878
 refine ⟨fun h=>?_,fun h=>?_⟩
 ·exact tailW_says (T:=[kE2To f1,kTwRoot f2,kTwLess f3,kENeg f4,kE2Norm f5,kEInv f6,kEAdd f7,kEOne f8,kEMul f9]) rfl rfl rfl rfl 926 1502 1550 1598 1694 hss' hB0 v3 v926 (bj_nz v927 h)
 have n2:=bj_z v927 h
 refine ⟨E_lt v637,fun a1262 _=>?_⟩
 refine (root2V_f (fun hq2=>?_)).symm
 obtain ⟨n,c,d,h1,h2,_⟩:=sq2_norm hq2 invB_two
 rcases sq_pm (hss.trans h1) with hn | hn
 ·exact n1 (sq_of ((mdE_mul (mdE_add (p:=bP) (a:=A) (A:=A) rfl hn) rfl).trans h2))
 ·have hn':(-s)%bP=n%bP:=by have:=mdE_neg hn;rwa [Int.neg_neg] at this
  exact n2 (sq_of ((mdE_mul (mdE_add (p:=bP) (a:=A) (A:=A) rfl hn') rfl).trans h2))
def tAt2:Tree:=(.req 0 [.lit 4]
(.lett 2 .num (.app 0 0 [.lit 4])
(.req 0 [.lit 4]
(.lett 3 .num (.app 0 0 [.lit 4])
(.req 3 [.var 0,.var 1,.var 0,.var 1]
(.lett 100 .num (.app 3 0 [.var 0,.var 1,.var 0,.var 1])
(.lett 101 .num (.app 3 1 [.var 0,.var 1,.var 0,.var 1])
(.req 3 [.var 100,.var 101,.var 0,.var 1]
(.lett 196 .num (.app 3 0 [.var 100,.var 101,.var 0,.var 1])
(.lett 197 .num (.app 3 1 [.var 100,.var 101,.var 0,.var 1])
(.req 2 [.var 196,.var 197,.var 2,.var 3]
(.lett 292 .num (.app 2 0 [.var 196,.var 197,.var 2,.var 3])
(.lett 293 .num (.app 2 1 [.var 196,.var 197,.var 2,.var 3])
(.req 1 [.var 292,.var 293]
(.lett 340 .num (.app 1 0 [.var 292,.var 293])
(.lett 341 .num (.app 1 1 [.var 292,.var 293])
(.lett 342 (.int .i64) (.app 1 2 [.var 292,.var 293])
(.lett 676 .bit (.cmp .eql (.var 342) (.lit 0))
(.ret [.var 0,.var 1,.var 340,.var 341,.lit 0,.var 676])))))))))))))))))))
theorem law_at2 (f1 f2 f3 f4 f:FuncId) (e:Nat->Int):tAt2.says [kOf f1,kTwRoot2 f2,kTwAdd2 f3,kTwMul2 f4] ⟨fun ys=>ys=(kAt2 f).sem [e 0,e 1],[]⟩ e:=by
 show tAt2.says _ ⟨fun ys=>ys=[e 0,e 1,(rt2 (side2 (e 0,e 1))).1,(rt2 (side2 (e 0,e 1))).2,0,bj (isSq2 (side2 (e 0,e 1)))],[]⟩ e
 refine ⟨trivial,fun a2 _=>⟨trivial,fun a3 _=>⟨trivial,fun a4 _ a5 _=>⟨trivial,fun a6 _ a7 _=>⟨trivial,fun a8 _ a9 _=>⟨trivial,fun a10 _ a11 _ a12 _ a13 _=>?_⟩⟩⟩⟩⟩⟩
 have q1:S2 (e 100,e 101) (R2.mul (e 0,e 1) (e 0,e 1)):=⟨by rw [show e 100=_ from a4];exact md_self _,by rw [show e 101=_ from a5];exact md_self _⟩
 have q2:S2 (e 196,e 197) (R2.mul (R2.mul (e 0,e 1) (e 0,e 1)) (e 0,e 1)):=S2_trans ⟨by rw [show e 196=_ from a6];exact md_self _,by rw [show e 197=_ from a7];exact md_self _⟩ (S2R_mul q1 (S2_refl _))
 have q3:S2 (e 292,e 293) (side2 (e 0,e 1)):=by
  refine S2_trans (b:=R2.add (e 196,e 197) (e 2,e 3)) ⟨by rw [show e 292=_ from a8];exact md_self _,by rw [show e 293=_ from a9];exact md_self _⟩ ?_
  rw [show e 2=4 from a2,show e 3=4 from a3]
  exact S2R_add q2 (S2_refl _)
 obtain ⟨r1,r2⟩:=rt2_S q3
 have b13:=c_eq a13
 simp only [ev_var,ev_lit] at b13
 have hv:[e 340,e 341,e 342]=root2V (e 292,e 293):=by
  have hl:∃ a b c,root2V (e 292,e 293)=[a,b,c]:=by
   by_cases h:isSq2 (e 292,e 293)
   ·exact ⟨_,_,_,root2V_t h⟩
   ·exact ⟨_,_,_,root2V_f h⟩
  rw [show e 340=(root2V (e 292,e 293)).getD 0 0 from a10,show e 341=(root2V (e 292,e 293)).getD 1 0 from a11,show e 342=(root2V (e 292,e 293)).getD 2 0 from a12]
  obtain ⟨a,b,c,h⟩:=hl
  rw [h];rfl
 show [e 0,e 1,e 340,e 341,0,e 676]=_
 by_cases h:isSq2 (side2 (e 0,e 1))
 ·rw [root2V_t (r2.2 h),r1] at hv
  injection hv with h1 hv
  injection hv with h2 hv
  injection hv with h3 hv
  rw [h1,h2,bj_t h]
  rcases b13 with ⟨g,_⟩ | ⟨_,g⟩
  ·rw [g]
  ·exact absurd h3 g
 ·rw [root2V_f (fun hc=>h (r2.1 hc))] at hv
  injection hv with h1 hv
  injection hv with h2 hv
  injection hv with h3 hv
  rw [rt2_no h,bj_f h,h1,h2]
  rcases b13 with ⟨_,g⟩ | ⟨g,_⟩
  ·rw [h3] at g;exact absurd g (by decide)
  ·rw [g]
def hP:Int:=(bP+1)/2
noncomputable def kGreat2 (f:FuncId):K:={fn:=f,ext:=false,ins:=[iE2],outs:=[oB],pre:=fun _=>True,sem:=fun | [a,b]=>[bj (great2 (a,b))] | _=>[] }
def tAbove2:Tree:=(.req 0 [.var 1]
(.lett 2 .bit (.app 0 0 [.var 1])
(.split 2
(.ret [.lit 1])
(.lett 3 .bit (.eqs [((.limb 1 0),(.lit 0)),((.limb 1 1),(.lit 0)),((.limb 1 2),(.lit 0)),((.limb 1 3),(.lit 0)),((.limb 1 4),(.lit 0)),((.limb 1 5),(.lit 0))])
(.split 3
 (.req 0 [.var 0]
 (.lett 4 .bit (.app 0 0 [.var 0])
 (.ret [.var 4])))
 (.ret [.lit 0]))))))
theorem law_great2 (f1 f:FuncId) (e:Nat->Int) (hk:kkHas [.num,.num] [e 0,e 1]):tAbove2.says [kAbove f1] ⟨fun ys=>ys=(kGreat2 f).sem [e 0,e 1],[]⟩ e:=by
 show tAbove2.says _ ⟨fun ys=>ys=[bj (great2 (e 0,e 1))],[]⟩ e
 refine ⟨trivial,fun a2 _=>?_⟩
 have v2:e 2=bj (bP/2<e 1):=a2
 refine ⟨fun h=>?_,fun h=>?_⟩
 ·show [(1:Int)]=_
  rw [bj_t (.inl (bj_nz v2 h))]
 have n1:=bj_z v2 h
 intro a3 _
 have b3:=c_num0 a3 hk.2.1
 refine ⟨fun h=>⟨trivial,fun a4 _=>?_⟩,fun h=>?_⟩
 ·have z:=b_yes b3 h
  show [e 4]=_
  rw [show e 4=bj (bP/2<e 0) from a4]
  exact congrArg (fun x=>[x]) (bj_iff ⟨fun h=>.inr ⟨z,h⟩,fun h=>h.elim (fun h=>absurd h n1) (fun h=>h.2)⟩)
 ·show [(0:Int)]=_
  rw [bj_f (fun hg=>hg.elim (fun h=>n1 h) (fun hg=>b_no b3 h hg.1))]
def flag2 (c d z:Int):Int:=if z=0 then (if great2 (c,d) then 160 else 128) else 192
def bytes2V (a b c d z:Int):List Int:=(bytesV b++bytesV a).set 0 (byteAt b 47+flag2 c d z)
open Classical in
noncomputable def bytesR2 (a b c d z:Int):List Int:=if onV2 a b c d z then [enc (bytes2V a b c d z),0] else [0,5]
theorem bytesR2_t {a b c d z:Int} (h:onV2 a b c d z):bytesR2 a b c d z=[enc (bytes2V a b c d z),0]:=if_pos h
theorem bytesR2_f {a b c d z:Int} (h:¬ onV2 a b c d z):bytesR2 a b c d z=[0,5]:=if_neg h
noncomputable def kBytes2 (te:TypeId) (f:FuncId):K:={fn:=f,ext:=false,ins:=[.agg lsQ2],outs:=[.lst te (.int .u8),oI],pre:=fun _=>True,sem:=fun | [a,b,c,d,z]=>bytesR2 a b c d z | _=>[] }
theorem cat_len (a b:Int):(bytesV b++bytesV a).length=96:=by rw [List.length_append,bytesV_len,bytesV_len]
theorem cat_0 (a b:Int):(bytesV b++bytesV a).getD 0 0=byteAt b 47:=by
 rw [<- bytesV_0 b,List.getD_eq_getElem?_getD,List.getD_eq_getElem?_getD,List.getElem?_append_left (by rw [bytesV_len];decide)]
def tBytes2:Tree:=(.req 0 [.var 0,.var 1,.var 2,.var 3,.var 4]
(.lett 5 .bit (.app 0 0 [.var 0,.var 1,.var 2,.var 3,.var 4])
(.lett 6 .bit (.not (.var 5))
(.split 6
(.ret [.lit 0,.lit 5])
(.req 1 [.var 1]
(.lett 151 (.lst (.int .u8)) (.app 1 0 [.var 1])
(.req 1 [.var 0]
(.lett 343 (.lst (.int .u8)) (.app 1 0 [.var 0])
(.lett 391 (.int .i64) (.llen (.var 151))
(.lett 392 .bit (.cmp .lss (.var 391) (.lit 2147483648))
(.lett 393 (.int .i64) (.llen (.var 343))
(.lett 394 .bit (.cmp .lss (.var 393) (.lit 2147483648))
(.nz (.var 392)
(.nz (.var 394)
(.lett 395 (.lst (.int .u8)) (.lcat (.var 151) (.var 343))
(.req 2 [.var 2,.var 3]
(.lett 631 .bit (.app 2 0 [.var 2,.var 3])
(.lett 823 (.int .i64) (.llen (.var 395))
(.lett 824 .bit (.cmp .leq (.lit 0) (.lit 0))
(.lett 825 .bit (.cmp .lss (.lit 0) (.var 823))
(.nz (.var 824)
(.nz (.var 825)
(.lett 826 (.int .u8) (.lget (.var 395) (.lit 0))
(.lett 827 (.int .u8) (.bin .or .u8 (.var 826) (.lit 128))
(.lett 828 (.int .i64) (.llen (.var 395))
(.lett 829 .bit (.cmp .leq (.lit 0) (.lit 0))
(.lett 830 .bit (.cmp .lss (.lit 0) (.var 828))
(.nz (.var 829)
(.nz (.var 830)
(.lett 831 (.lst (.int .u8)) (.lput (.var 395) (.lit 0) (.var 827))
(.split 4
 (.lett 832 (.int .i64) (.llen (.var 395))
 (.lett 833 .bit (.cmp .leq (.lit 0) (.lit 0))
 (.lett 834 .bit (.cmp .lss (.lit 0) (.var 832))
 (.nz (.var 833)
 (.nz (.var 834)
 (.lett 835 (.int .u8) (.lget (.var 831) (.lit 0))
 (.lett 836 (.int .u8) (.bin .or .u8 (.var 835) (.lit 64))
 (.lett 837 (.int .i64) (.llen (.var 395))
 (.lett 838 .bit (.cmp .leq (.lit 0) (.lit 0))
 (.lett 839 .bit (.cmp .lss (.lit 0) (.var 837))
 (.nz (.var 838)
 (.nz (.var 839)
 (.lett 840 (.lst (.int .u8)) (.lput (.var 831) (.lit 0) (.var 836))
 (.ret [.var 840,.lit 0]))))))))))))))
 (.split 631
 (.lett 832 (.int .i64) (.llen (.var 395))
 (.lett 833 .bit (.cmp .leq (.lit 0) (.lit 0))
 (.lett 834 .bit (.cmp .lss (.lit 0) (.var 832))
 (.nz (.var 833)
 (.nz (.var 834)
 (.lett 835 (.int .u8) (.lget (.var 831) (.lit 0))
 (.lett 836 (.int .u8) (.bin .or .u8 (.var 835) (.lit 32))
 (.lett 837 (.int .i64) (.llen (.var 395))
 (.lett 838 .bit (.cmp .leq (.lit 0) (.lit 0))
 (.lett 839 .bit (.cmp .lss (.lit 0) (.var 837))
 (.nz (.var 838)
 (.nz (.var 839)
 (.lett 840 (.lst (.int .u8)) (.lput (.var 831) (.lit 0) (.var 836))
 (.ret [.var 840,.lit 0]))))))))))))))
 (.ret [.var 831,.lit 0])))))))))))))))))))))))))))))))))
theorem law_bytes2 (te:TypeId) (f1 f2 f3 f:FuncId) (e:Nat->Int) (hk:kkHas [.num,.num,.num,.num,.bit] [e 0,e 1,e 2,e 3,e 4]):tBytes2.says [kCheck2 f1,kWBytes te f2,kGreat2 f3] ⟨fun ys=>ys=(kBytes2 te f).sem [e 0,e 1,e 2,e 3,e 4],[]⟩ e:=by
 have h1:0<=e 1:=hk.2.1.1
 show tBytes2.says _ ⟨fun ys=>ys=bytesR2 (e 0) (e 1) (e 2) (e 3) (e 4),[]⟩ e
 refine ⟨trivial,fun a5 _ a6 _=>?_⟩
 have v5:e 5=bj (onV2 (e 0) (e 1) (e 2) (e 3) (e 4)):=a5
 have b6:=c_not a6
 simp only [ev_var] at b6
 refine ⟨fun h=>?_,fun h=>?_⟩
 ·rw [bytesR2_f (bj_z v5 (b_yes b6 h))];rfl
 have hon:=bj_nz v5 (b_no b6 h)
 rw [bytesR2_t hon]
 have ht:=top_byte h1 hon.1.1.2
 have ho:=or8 ht
 refine ⟨trivial,fun a151 _=>⟨trivial,fun a343 _ a391 _ a392 _ a393 _ a394 _=>?_⟩⟩
 have d151:dec (e 151)=bytesV (e 1):=by rw [show e 151=enc (bytesV (e 1)) from a151,dec_enc]
 have d343:dec (e 343)=bytesV (e 0):=by rw [show e 343=enc (bytesV (e 0)) from a343,dec_enc]
 have v391:e 391=48:=by rw [show e 391=((dec (e 151)).length:Int) from a391,d151,bytesV_len];rfl
 have v393:e 393=48:=by rw [show e 393=((dec (e 343)).length:Int) from a393,d343,bytesV_len];rfl
 refine ⟨lt_nz a392 (by show e 391<2147483648;omega),lt_nz a394 (by show e 393<2147483648;omega),fun a395 _=>⟨trivial,fun a631 _ a823 _ a824 _ a825 _=>?_⟩⟩
 have d395:dec (e 395)=bytesV (e 1)++bytesV (e 0):=by rw [show e 395=enc (dec (e 151)++dec (e 343)) from a395,dec_enc,d151,d343]
 have v631:e 631=bj (great2 (e 2,e 3)):=a631
 have hlen:∀ {v:Int},v=((dec (e 395)).length:Int)->0<v:=fun h=>by rw [h,d395,cat_len];decide
 have hl0:0<(bytesV (e 1)++bytesV (e 0)).length:=by rw [cat_len];decide
 refine ⟨bit_nz a824 (Int.le_refl _),lt_nz a825 (hlen a823),fun a826 _ a827 _ a828 _ a829 _ a830 _=>⟨bit_nz a829 (Int.le_refl _),lt_nz a830 (hlen a828),fun a831 _=>?_⟩⟩
 have v826:e 826=byteAt (e 1) 47:=by rw [show e 826=(dec (e 395)).getD 0 0 from a826,d395,cat_0]
 have v827:e 827=byteAt (e 1) 47+128:=by rw [show e 827=binE .or .u8 (e 826) 128 from a827,v826,ho.1]
 have q831:e 831=enc ((bytesV (e 1)++bytesV (e 0)).set 0 (byteAt (e 1) 47+128)):=by rw [show e 831=enc ((dec (e 395)).set 0 (e 827)) from a831,d395,v827]
 have d831:=(congrArg dec q831).trans (dec_enc _)
 refine ⟨fun h=>?_,fun h=>⟨fun h2=>?_,fun h2=>?_⟩⟩
 ·intro a832 _ a833 _ a834 _
  refine ⟨bit_nz a833 (Int.le_refl _),lt_nz a834 (hlen a832),fun a835 _ a836 _ a837 _ a838 _ a839 _=>⟨bit_nz a838 (Int.le_refl _),lt_nz a839 (hlen a837),fun a840 _=>?_⟩⟩
  have v836:e 836=byteAt (e 1) 47+192:=by rw [show e 836=binE .or .u8 (e 835) 64 from a836,show e 835=(dec (e 831)).getD 0 0 from a835,d831,getD_set0 hl0,ho.2.1]
  show [e 840,0]=[enc (bytes2V (e 0) (e 1) (e 2) (e 3) (e 4)),0]
  rw [show e 840=enc ((dec (e 831)).set 0 (e 836)) from a840,d831,v836,set_0]
  unfold bytes2V flag2
  rw [if_neg h]
 ·intro a832 _ a833 _ a834 _
  refine ⟨bit_nz a833 (Int.le_refl _),lt_nz a834 (hlen a832),fun a835 _ a836 _ a837 _ a838 _ a839 _=>⟨bit_nz a838 (Int.le_refl _),lt_nz a839 (hlen a837),fun a840 _=>?_⟩⟩
  have v836:e 836=byteAt (e 1) 47+160:=by rw [show e 836=binE .or .u8 (e 835) 32 from a836,show e 835=(dec (e 831)).getD 0 0 from a835,d831,getD_set0 hl0,ho.2.2.1]
  show [e 840,0]=[enc (bytes2V (e 0) (e 1) (e 2) (e 3) (e 4)),0]
  rw [show e 840=enc ((dec (e 831)).set 0 (e 836)) from a840,d831,v836,set_0]
  unfold bytes2V flag2
  rw [if_pos h,if_pos (bj_nz v631 h2)]
 ·show [e 831,0]=[enc (bytes2V (e 0) (e 1) (e 2) (e 3) (e 4)),0]
  rw [q831]
  unfold bytes2V flag2
  rw [if_pos h,if_neg (bj_z v631 h2)]
end Go.Sx
namespace Go.Sx
open Go Go.RowKit
set_option maxRecDepth 100000
open Classical in
noncomputable def fin2V (l:List Int) (a b c d z:Int):List Int:=if bytes2V a b c d z=l then (if inG2 a b c d z then [a,b,c,d,z,0] else [0,0,0,0,0,5]) else [0,0,0,0,0,4]
def bi0 (b:List Int):Int:=readV ((b.set 0 (binE .and .u8 (b.getD 0 0) 31)).take 48)
def br0 (b:List Int):Int:=readV (b.drop 48)
noncomputable def sd0 (b:List Int):E2:=side2 (br0 b,bi0 b)
open Classical in
noncomputable def read2V (b:List Int):List Int :=
 if b.length≠96 then [0,0,0,0,0,4]
 else if binE .and .u8 (b.getD 0 0) 64=0 then
  if (br0 b<bP/\bi0 b<bP)/\isSq2 (sd0 b) then
   if binE .and .u8 (b.getD 0 0) 32=0 then fin2V b (br0 b) (bi0 b) (rt2 (sd0 b)).1 (rt2 (sd0 b)).2 0 else fin2V b (br0 b) (bi0 b) (ng2 (rt2 (sd0 b))).1 (ng2 (rt2 (sd0 b))).2 0
  else [0,0,0,0,0,4]
 else fin2V b 0 0 0 0 1
theorem read2V_len {b:List Int} (h:b.length≠96):read2V b=[0,0,0,0,0,4]:=if_pos h
theorem read2V_z {b:List Int} (h:b.length=96) (h2:¬ binE .and .u8 (b.getD 0 0) 64=0):read2V b=fin2V b 0 0 0 0 1:=by
 unfold read2V;rw [if_neg (fun hc=>hc h),if_neg h2]
theorem read2V_n {b:List Int} (h:b.length=96) (h2:binE .and .u8 (b.getD 0 0) 64=0) (h3:¬ ((br0 b<bP/\bi0 b<bP)/\isSq2 (sd0 b))):read2V b=[0,0,0,0,0,4]:=by
 unfold read2V;rw [if_neg (fun hc=>hc h),if_pos h2,if_neg h3]
theorem read2V_p {b:List Int} (h:b.length=96) (h2:binE .and .u8 (b.getD 0 0) 64=0) (h3:(br0 b<bP/\bi0 b<bP)/\isSq2 (sd0 b)):read2V b=if binE .and .u8 (b.getD 0 0) 32=0 then fin2V b (br0 b) (bi0 b) (rt2 (sd0 b)).1 (rt2 (sd0 b)).2 0 else fin2V b (br0 b) (bi0 b) (ng2 (rt2 (sd0 b))).1 (ng2 (rt2 (sd0 b))).2 0:=by
 unfold read2V;rw [if_neg (fun hc=>hc h),if_pos h2,if_pos h3]
noncomputable def kRead2 (f:FuncId):K:={fn:=f,ext:=false,ins:=[.lst (.int .u8)],outs:=[.agg lsQ2,oI],pre:=fun _=>True,sem:=fun | [l]=>read2V (dec l) | _=>[] }
theorem ng_sq (c:E2):S2 (R2.mul (ng2 c) (ng2 c)) (R2.mul c c):=by
 have h:S2 (ng2 c) (-c.1,-c.2):=⟨md_self _,md_self _⟩
 refine S2_trans (S2R_mul h h) (S2_eq (Prod.ext ?_ ?_))
 ·show -c.1 * -c.1 - -c.2 * -c.2=c.1*c.1-c.2*c.2;rw [Int.neg_mul_neg,Int.neg_mul_neg]
 ·show -c.1 * -c.2 + -c.2 * -c.1=c.1*c.2+c.2*c.1;rw [Int.neg_mul_neg,Int.neg_mul_neg]
theorem les2_sq (c:E2):S2 (R2.mul (les2 c) (les2 c)) (R2.mul c c):=by
 unfold les2;split
 ·exact ng_sq c
 ·exact S2_refl _
theorem rt2_sq {a:E2} (h:isSq2 a):S2 (R2.mul (rt2 a) (rt2 a)) a:=by
 obtain ⟨y,hy⟩:=h
 have h1:S2 (R2.mul (R2.md y) (R2.md y)) a:=S2_trans (S2R_mul (S2_md y) (S2_md y)) hy
 rw [rt2_of (md_cn y) h1]
 exact S2_trans (les2_sq _) h1
theorem on_rt2 {x y:Int} (hx:x<bP) (hy:y<bP) (h:isSq2 (side2 (x,y))):onV2 x y (rt2 (side2 (x,y))).1 (rt2 (side2 (x,y))).2 0 :=
 (onV2_0 rfl).2 ⟨⟨⟨hx,hy⟩,(rt2_cn _).1.2,(rt2_cn _).2.2⟩,md_of_S2 (rt2_sq h)⟩
theorem on_neg2 {a b c d:Int} (h:onV2 a b c d 0):onV2 a b (ng2 (c,d)).1 (ng2 (c,d)).2 0:=by
 obtain ⟨h1,h2⟩:=(onV2_0 rfl).1 h
 exact (onV2_0 rfl).2 ⟨⟨h1.1,(cn_ng _).1.2,(cn_ng _).2.2⟩,(md_of_S2 (ng_sq (c,d))).trans h2⟩
theorem on_zero2:onV2 0 0 0 0 1:=(onV2_1 (by decide)).2 ⟨⟨⟨bP_pos,bP_pos⟩,bP_pos,bP_pos⟩,⟨rfl,rfl⟩,rfl,rfl⟩
def tailP2 (n:Nat) (x y u v z:A):Tree:=.req 5 [x,y,u,v,z] (.lett n (.lst (.int .u8)) (.app 5 0 [x,y,u,v,z]) (.lett (n+1) (.int .i64) (.app 5 1 [x,y,u,v,z]) (.lett (n+2) .bit (.cmp .neq (.var (n+1)) (.lit 0)) (.split (n+2)
 (.ret [.lit 0,.lit 0,.lit 0,.lit 0,.lit 0,.lit 4])
 (.lett (n+3) .bit (.lsame (.var n) (.var 0)) (.lett (n+4) .bit (.not (.var (n+3))) (.split (n+4)
 (.ret [.lit 0,.lit 0,.lit 0,.lit 0,.lit 0,.lit 4])
 (.req 6 [x,y,u,v,z] (.lett (n+5) .bit (.app 6 0 [x,y,u,v,z]) (.lett (n+6) .bit (.not (.var (n+5))) (.split (n+6) (.ret [.lit 0,.lit 0,.lit 0,.lit 0,.lit 0,.lit 5]) (.ret [x,y,u,v,z,.lit 0]))))))))))))
theorem tailP2_says {T:List K} {e:Nat->Int} {te:TypeId} {f1 f2:FuncId} (h5:T[5]?=some (kBytes2 te f1)) (h6:T[6]?=some (kInG2 f2)) (n:Nat) (x y u v z:A) {b:List Int} (hb:dec (e 0)=b) (hon:onV2 (x.ev e) (y.ev e) (u.ev e) (v.ev e) (z.ev e)) :
  (tailP2 n x y u v z).says T ⟨fun ys=>ys=fin2V b (x.ev e) (y.ev e) (u.ev e) (v.ev e) (z.ev e),[]⟩ e:=by
 unfold fin2V
 refine ⟨by rw [h5];trivial,fun a0 _ a1 _ a2 _=>?_⟩
 have v0:e n=enc (bytes2V (x.ev e) (y.ev e) (u.ev e) (v.ev e) (z.ev e)):=by
  have:e n=(bytesR2 (x.ev e) (y.ev e) (u.ev e) (v.ev e) (z.ev e)).getD 0 0:=by
   have:=a0;simp only [D.ev,h5] at this;exact this
  rw [bytesR2_t hon] at this;exact this
 have v1:e (n+1)=0:=by
  have:e (n+1)=(bytesR2 (x.ev e) (y.ev e) (u.ev e) (v.ev e) (z.ev e)).getD 1 0:=by
   have:=a1;simp only [D.ev,h5] at this;exact this
  rw [bytesR2_t hon] at this;exact this
 have b2:=c_ne a2
 simp only [ev_var,ev_lit] at b2
 refine ⟨fun h=>by rcases b2 with ⟨_,h2⟩ | ⟨h2,_⟩;exact absurd v1 h2;exact absurd h2 h,fun _=>fun a3 _ a4 _=>?_⟩
 have b3:=c_same a3
 have b4:=c_not a4
 simp only [ev_var] at b3 b4
 rw [v0,dec_enc,hb] at b3
 refine ⟨fun h=>?_,fun h=>?_⟩
 ·have:¬ bytes2V (x.ev e) (y.ev e) (u.ev e) (v.ev e) (z.ev e)=b:=by
   have:=b_yes b4 h
   rcases b3 with ⟨h1,_⟩ | ⟨_,h2⟩
   ·omega
   ·exact h2
  rw [if_neg this];rfl
 ·have:bytes2V (x.ev e) (y.ev e) (u.ev e) (v.ev e) (z.ev e)=b:=by
   have:=b_no b4 h
   rcases b3 with ⟨_,h2⟩ | ⟨h1,_⟩
   ·exact h2
   ·exact absurd h1 this
  rw [if_pos this]
  refine ⟨by rw [h6];trivial,fun a5 _ a6 _=>?_⟩
  have v5:e (n+5)=bj (inG2 (x.ev e) (y.ev e) (u.ev e) (v.ev e) (z.ev e)):=by
   have:=a5;simp only [D.ev,h6] at this;exact this
  have b6:=c_not a6
  simp only [ev_var] at b6
  refine ⟨fun h=>?_,fun h=>?_⟩
  ·rw [if_neg (bj_z v5 (b_yes b6 h))];rfl
  ·rw [if_pos (bj_nz v5 (b_no b6 h))];rfl
def tRead2:Tree:=(.lett 1 (.int .i64) (.llen (.var 0))
(.lett 2 .bit (.cmp .neq (.var 1) (.lit 96))
(.split 2
(.ret [.lit 0,.lit 0,.lit 0,.lit 0,.lit 0,.lit 4])
(.lett 3 (.int .i64) (.llen (.var 0))
(.lett 4 .bit (.cmp .leq (.lit 0) (.lit 0))
(.lett 5 .bit (.cmp .lss (.lit 0) (.var 3))
(.nz (.var 4)
(.nz (.var 5)
(.lett 6 (.int .u8) (.lget (.var 0) (.lit 0))
(.lett 7 (.int .u8) (.bin .and .u8 (.var 6) (.lit 64))
(.lett 8 .bit (.cmp .eql (.var 7) (.lit 0))
(.split 8
 (.lett 9 (.int .i64) (.llen (.var 0))
 (.lett 10 .bit (.cmp .lss (.lit 0) (.var 9))
 (.nz (.var 10)
 (.lett 11 (.int .i64) (.llen (.lit 0))
 (.lett 12 .bit (.cmp .lss (.var 11) (.lit 2147483648))
 (.lett 13 (.int .i64) (.llen (.var 0))
 (.lett 14 .bit (.cmp .lss (.var 13) (.lit 2147483648))
 (.nz (.var 12)
 (.nz (.var 14)
 (.lett 15 (.lst (.int .u8)) (.lcat (.lit 0) (.var 0))
 (.lett 16 (.int .i64) (.llen (.var 15))
 (.lett 17 .bit (.cmp .leq (.lit 0) (.lit 0))
 (.lett 18 .bit (.cmp .lss (.lit 0) (.var 16))
 (.nz (.var 17)
 (.nz (.var 18)
 (.lett 19 (.int .u8) (.lget (.var 15) (.lit 0))
 (.lett 20 (.int .u8) (.bin .and .u8 (.var 19) (.lit 31))
 (.lett 21 (.int .i64) (.llen (.var 15))
 (.lett 22 .bit (.cmp .leq (.lit 0) (.lit 0))
 (.lett 23 .bit (.cmp .lss (.lit 0) (.var 21))
 (.nz (.var 22)
 (.nz (.var 23)
 (.lett 24 (.lst (.int .u8)) (.lput (.var 15) (.lit 0) (.var 20))
 (.lett 25 (.int .i64) (.llen (.var 15))
 (.lett 26 .bit (.cmp .leq (.lit 0) (.lit 0))
 (.lett 27 .bit (.cmp .leq (.lit 0) (.lit 48))
 (.lett 28 .bit (.cmp .leq (.lit 48) (.var 25))
 (.nz (.var 26)
 (.nz (.var 27)
 (.nz (.var 28)
 (.lett 29 (.lst (.int .u8)) (.lsub (.var 24) (.lit 0) (.lit 48))
 (.req 0 [.var 29]
 (.lett 30 .num (.app 0 0 [.var 29])
 (.lett 31 (.int .i64) (.app 0 1 [.var 29])
 (.lett 32 (.int .i64) (.llen (.var 0))
 (.lett 33 .bit (.cmp .leq (.lit 0) (.lit 48))
 (.lett 34 .bit (.cmp .leq (.lit 48) (.var 32))
 (.lett 35 .bit (.cmp .leq (.var 32) (.var 32))
 (.nz (.var 33)
 (.nz (.var 34)
 (.nz (.var 35)
 (.lett 36 (.lst (.int .u8)) (.lsub (.var 0) (.lit 48) (.var 32))
 (.req 0 [.var 36]
 (.lett 37 .num (.app 0 0 [.var 36])
 (.lett 38 (.int .i64) (.app 0 1 [.var 36])
 (.req 1 [.var 37,.var 30]
 (.lett 39 .num (.app 1 0 [.var 37,.var 30])
 (.lett 40 .num (.app 1 1 [.var 37,.var 30])
 (.lett 41 .num (.app 1 2 [.var 37,.var 30])
 (.lett 42 .num (.app 1 3 [.var 37,.var 30])
 (.lett 43 .bit (.app 1 4 [.var 37,.var 30])
 (.lett 44 .bit (.app 1 5 [.var 37,.var 30])
 (.lett 93 .bit (.not (.var 44))
 (.split 93
 (.ret [.lit 0,.lit 0,.lit 0,.lit 0,.lit 0,.lit 4])
 (.req 3 []
 (.lett 237 .num (.app 3 0 [])
 (.req 2 [.var 37,.var 237]
 (.lett 285 (.int .i64) (.app 2 0 [.var 37,.var 237])
 (.lett 333 .bit (.cmp .geq (.var 285) (.lit 0))
 (.split 333
 (.ret [.lit 0,.lit 0,.lit 0,.lit 0,.lit 0,.lit 4])
 (.req 3 []
 (.lett 525 .num (.app 3 0 [])
 (.req 2 [.var 30,.var 525]
 (.lett 573 (.int .i64) (.app 2 0 [.var 30,.var 525])
 (.lett 621 .bit (.cmp .geq (.var 573) (.lit 0))
 (.split 621
 (.ret [.lit 0,.lit 0,.lit 0,.lit 0,.lit 0,.lit 4])
 (.lett 717 (.int .i64) (.llen (.var 0))
 (.lett 718 .bit (.cmp .leq (.lit 0) (.lit 0))
 (.lett 719 .bit (.cmp .lss (.lit 0) (.var 717))
 (.nz (.var 718)
 (.nz (.var 719)
 (.lett 720 (.int .u8) (.lget (.var 0) (.lit 0))
 (.lett 721 (.int .u8) (.bin .and .u8 (.var 720) (.lit 32))
 (.lett 722 .bit (.cmp .neq (.var 721) (.lit 0))
 (.split 722
 (.req 4 [.var 39,.var 40,.var 41,.var 42,.var 43]
 (.lett 723 .num (.app 4 0 [.var 39,.var 40,.var 41,.var 42,.var 43])
 (.lett 724 .num (.app 4 1 [.var 39,.var 40,.var 41,.var 42,.var 43])
 (.lett 725 .num (.app 4 2 [.var 39,.var 40,.var 41,.var 42,.var 43])
 (.lett 726 .num (.app 4 3 [.var 39,.var 40,.var 41,.var 42,.var 43])
 (.lett 727 .bit (.app 4 4 [.var 39,.var 40,.var 41,.var 42,.var 43])
 (.lett 728 (.int .i64) (.app 4 5 [.var 39,.var 40,.var 41,.var 42,.var 43])
 (.req 5 [.var 723,.var 724,.var 725,.var 726,.var 727]
 (.lett 729 (.lst (.int .u8)) (.app 5 0 [.var 723,.var 724,.var 725,.var 726,.var 727])
 (.lett 730 (.int .i64) (.app 5 1 [.var 723,.var 724,.var 725,.var 726,.var 727])
 (.lett 731 .bit (.cmp .neq (.var 730) (.lit 0))
 (.split 731
 (.ret [.lit 0,.lit 0,.lit 0,.lit 0,.lit 0,.lit 4])
 (.lett 732 .bit (.lsame (.var 729) (.var 0))
 (.lett 733 .bit (.not (.var 732))
 (.split 733
 (.ret [.lit 0,.lit 0,.lit 0,.lit 0,.lit 0,.lit 4])
 (.req 6 [.var 723,.var 724,.var 725,.var 726,.var 727]
 (.lett 734 .bit (.app 6 0 [.var 723,.var 724,.var 725,.var 726,.var 727])
 (.lett 735 .bit (.not (.var 734))
 (.split 735
 (.ret [.lit 0,.lit 0,.lit 0,.lit 0,.lit 0,.lit 5])
 (.ret [.var 723,.var 724,.var 725,.var 726,.var 727,.lit 0]))))))))))))))))))))
 (.req 5 [.var 39,.var 40,.var 41,.var 42,.var 43]
 (.lett 723 (.lst (.int .u8)) (.app 5 0 [.var 39,.var 40,.var 41,.var 42,.var 43])
 (.lett 724 (.int .i64) (.app 5 1 [.var 39,.var 40,.var 41,.var 42,.var 43])
 (.lett 725 .bit (.cmp .neq (.var 724) (.lit 0))
 (.split 725
 (.ret [.lit 0,.lit 0,.lit 0,.lit 0,.lit 0,.lit 4])
 (.lett 726 .bit (.lsame (.var 723) (.var 0))
 (.lett 727 .bit (.not (.var 726))
 (.split 727
 (.ret [.lit 0,.lit 0,.lit 0,.lit 0,.lit 0,.lit 4])
 (.req 6 [.var 39,.var 40,.var 41,.var 42,.var 43]
 (.lett 728 .bit (.app 6 0 [.var 39,.var 40,.var 41,.var 42,.var 43])
 (.lett 729 .bit (.not (.var 728))
 (.split 729
 (.ret [.lit 0,.lit 0,.lit 0,.lit 0,.lit 0,.lit 5])
 (.ret [.var 39,.var 40,.var 41,.var 42,.var 43,.lit 0]))))))))))))))))))))))))))))))))))))))))))))))))))))))))))))))))))))))))))))))))))))))))
 (.req 5 [.lit 0,.lit 0,.lit 0,.lit 0,.lit 1]
 (.lett 9 (.lst (.int .u8)) (.app 5 0 [.lit 0,.lit 0,.lit 0,.lit 0,.lit 1])
 (.lett 10 (.int .i64) (.app 5 1 [.lit 0,.lit 0,.lit 0,.lit 0,.lit 1])
 (.lett 11 .bit (.cmp .neq (.var 10) (.lit 0))
 (.split 11
 (.ret [.lit 0,.lit 0,.lit 0,.lit 0,.lit 0,.lit 4])
 (.lett 12 .bit (.lsame (.var 9) (.var 0))
 (.lett 13 .bit (.not (.var 12))
 (.split 13
 (.ret [.lit 0,.lit 0,.lit 0,.lit 0,.lit 0,.lit 4])
 (.req 6 [.lit 0,.lit 0,.lit 0,.lit 0,.lit 1]
 (.lett 14 .bit (.app 6 0 [.lit 0,.lit 0,.lit 0,.lit 0,.lit 1])
 (.lett 15 .bit (.not (.var 14))
 (.split 15
 (.ret [.lit 0,.lit 0,.lit 0,.lit 0,.lit 0,.lit 5])
 (.ret [.lit 0,.lit 0,.lit 0,.lit 0,.lit 1,.lit 0])))))))))))))))))))))))))
theorem law_read2 (te:TypeId) (f1 f2 f3 f4 f5 f6 f7 f:FuncId) (e:Nat->Int):tRead2.says [kWRead f1,kAt2 f2,kWCmp f3,kMBase f4,kNeg2 f5,kBytes2 te f6,kInG2 f7] ⟨fun ys=>ys=(kRead2 f).sem [e 0],[]⟩ e:=by
 obtain ⟨b,d0⟩:∃ b,dec (e 0)=b:=⟨_,rfl⟩
 show tRead2.says _ ⟨fun ys=>ys=read2V (dec (e 0)),[]⟩ e
 rw [d0]
 have len:∀ {v:Int},v=((dec (e 0)).length:Int)->v=(b.length:Int):=fun h=>by rw [h,d0]
 intro a1 _ a2 _
 have v1:=len a1
 have b2:=c_ne a2
 simp only [ev_var,ev_lit] at b2
 refine ⟨fun h=>?_,fun h=>?_⟩
 ·rw [read2V_len (by omega)];rfl
 have hn:b.length=96:=by omega
 have pos:∀ {v:Int},v=((dec (e 0)).length:Int)->0<v:=fun h=>by rw [len h,hn];decide
 clear b2 h v1 a1 a2
 intro a3 _ a4 _ a5 _
 refine ⟨bit_nz a4 (Int.le_refl _),lt_nz a5 (pos a3),fun a6 _ a7 _ a8 _=>?_⟩
 have v6:e 6=b.getD 0 0:=by rw [<- d0];exact a6
 have v7:e 7=binE .and .u8 (b.getD 0 0) 64:=by rw [<- v6];exact a7
 have b8:=c_eq a8
 simp only [ev_var,ev_lit] at b8
 rw [v7] at b8
 clear a3 a4 a5 a6 a7 a8 v7
 refine ⟨fun h=>?_,fun h=>?_⟩
 ·have h64:=b_yes b8 h
  clear b8 h
  intro a9 _ a10 _
  refine ⟨lt_nz a10 (pos a9),fun a11 _ a12 _ a13 _ a14 _=>?_⟩
  have v11:e 11=0:=by rw [show e 11=((dec 0).length:Int) from a11,dec_zero];rfl
  have v13:=len a13
  refine ⟨lt_nz a12 (by show e 11<2147483648;omega),lt_nz a14 (by show e 13<2147483648;omega),fun a15 _ a16 _ a17 _ a18 _=>?_⟩
  have d15:dec (e 15)=b:=by rw [show e 15=enc (dec 0++dec (e 0)) from a15,dec_enc,dec_zero,d0];rfl
  have v16:e 16=(b.length:Int):=by rw [<- d15];exact a16
  refine ⟨bit_nz a17 (Int.le_refl _),lt_nz a18 (by show 0<e 16;omega),fun a19 _ a20 _ a21 _ a22 _ a23 _=>?_⟩
  have v19:e 19=b.getD 0 0:=by rw [<- d15];exact a19
  have v20:e 20=binE .and .u8 (b.getD 0 0) 31:=by rw [<- v19];exact a20
  have v21:e 21=(b.length:Int):=by rw [<- d15];exact a21
  refine ⟨bit_nz a22 (Int.le_refl _),lt_nz a23 (by show 0<e 21;omega),fun a24 _ a25 _ a26 _ a27 _ a28 _=>?_⟩
  have d24:dec (e 24)=b.set 0 (binE .and .u8 (b.getD 0 0) 31):=by rw [show e 24=enc ((dec (e 15)).set 0 (e 20)) from a24,dec_enc,d15,v20]
  have v25:e 25=(b.length:Int):=by rw [<- d15];exact a25
  refine ⟨bit_nz a26 (Int.le_refl _),bit_nz a27 (show (0:Int)<=48 by decide),le_nz a28 (by show 48<=e 25;omega),fun a29 _=>⟨trivial,fun a30 _ a31 _ a32 _ a33 _ a34 _ a35 _=>?_⟩⟩
  have d29:dec (e 29)=(b.set 0 (binE .and .u8 (b.getD 0 0) 31)).take 48:=by
   rw [show e 29=enc (((dec (e 24)).take 48).drop 0) from a29,dec_enc,List.drop_zero,d24]
  have v30:e 30=bi0 b:=by
   rw [show e 30=(if (dec (e 29)).length<=48 then [readV (dec (e 29)),0] else [0,3]:List Int).getD 0 0 from a30,d29,if_pos (List.length_take_le _ _)];rfl
  have v32:=len a32
  refine ⟨bit_nz a33 (show (0:Int)<=48 by decide),le_nz a34 (by show 48<=e 32;omega),le_nz a35 (Int.le_refl _),fun a36 _=>⟨trivial,fun a37 _ a38 _=>?_⟩⟩
  have d36:dec (e 36)=b.drop 48:=by
   rw [show e 36=enc (((dec (e 0)).take (e 32).toNat).drop 48) from a36,dec_enc,d0,v32,Int.toNat_natCast,List.take_of_length_le (Nat.le_refl _)]
  have v37:e 37=br0 b:=by
   rw [show e 37=(if (dec (e 36)).length<=48 then [readV (dec (e 36)),0] else [0,3]:List Int).getD 0 0 from a37,d36,if_pos (by rw [List.length_drop,hn];decide)];rfl
  clear a9 a10 a11 a12 a13 a14 a15 a16 a17 a18 a19 a20 a21 a22 a23 a24 a25 a26 a27 a28 a29 a30 a31 a32 a33 a34 a35 a36 a37 a38 v11 v13 d15 v16 v19 v20 v21 d24 v25 d29 v32 d36
  refine ⟨trivial,fun a39 _ a40 _ a41 _ a42 _ a43 _ a44 _ a93 _=>?_⟩
  have hs:side2 (e 37,e 30)=sd0 b:=by rw [v37,v30];rfl
  have v39:e 39=br0 b:=by rw [<- v37];exact a39
  have v40:e 40=bi0 b:=by rw [<- v30];exact a40
  have v41:e 41=(rt2 (sd0 b)).1:=by rw [<- hs];exact a41
  have v42:e 42=(rt2 (sd0 b)).2:=by rw [<- hs];exact a42
  have v43:e 43=0:=a43
  have v44:e 44=bj (isSq2 (sd0 b)):=by rw [<- hs];exact a44
  have b93:=c_not a93
  simp only [ev_var] at b93
  clear a39 a40 a41 a42 a43 a44 a93
  refine ⟨fun h=>?_,fun h=>?_⟩
  ·rw [read2V_n hn h64 (fun hc=>bj_z v44 (b_yes b93 h) hc.2)];rfl
  have hsq:=bj_nz v44 (b_no b93 h)
  clear b93 h v44
  refine ⟨trivial,fun a237 _=>⟨trivial,fun a285 _ a333 _=>?_⟩⟩
  have v237:e 237=bP:=a237
  have v285:e 285<0↔e 37<e 237:=cmpV_lt a285
  rw [v37,v237] at v285
  have b333:=c_ge a333
  simp only [ev_var,ev_lit] at b333
  refine ⟨fun h=>?_,fun h=>?_⟩
  ·have:¬ br0 b<bP:=by rw [<- v285];omega
   rw [read2V_n hn h64 (fun hc=>this hc.1.1)];rfl
  have hlt:br0 b<bP:=by rw [<- v285];omega
  refine ⟨trivial,fun a525 _=>⟨trivial,fun a573 _ a621 _=>?_⟩⟩
  have v525:e 525=bP:=a525
  have v573:e 573<0↔e 30<e 525:=cmpV_lt a573
  rw [v30,v525] at v573
  have b621:=c_ge a621
  simp only [ev_var,ev_lit] at b621
  refine ⟨fun h=>?_,fun h=>?_⟩
  ·have:¬ bi0 b<bP:=by rw [<- v573];omega
   rw [read2V_n hn h64 (fun hc=>this hc.1.2)];rfl
  have hlt2:bi0 b<bP:=by rw [<- v573];omega
  rw [read2V_p hn h64 ⟨⟨hlt,hlt2⟩,hsq⟩]
  have hon:onV2 (br0 b) (bi0 b) (rt2 (sd0 b)).1 (rt2 (sd0 b)).2 0:=on_rt2 hlt hlt2 hsq
  clear a237 a285 a333 v237 v285 b333 a525 a573 a621 v525 v573 b621 h
  intro a717 _ a718 _ a719 _
  refine ⟨bit_nz a718 (Int.le_refl _),lt_nz a719 (pos a717),fun a720 _ a721 _ a722 _=>?_⟩
  have v720:e 720=b.getD 0 0:=by rw [<- d0];exact a720
  have v721:e 721=binE .and .u8 (b.getD 0 0) 32:=by rw [<- v720];exact a721
  have b722:=c_ne a722
  simp only [ev_var,ev_lit] at b722
  rw [v721] at b722
  refine ⟨fun h=>?_,fun h=>?_⟩
  ·have h32:¬ binE .and .u8 (b.getD 0 0) 32=0:=by
    rcases b722 with ⟨_,h2⟩ | ⟨h1,_⟩
    ·exact h2
    ·exact absurd h1 h
   rw [if_neg h32]
   refine ⟨trivial,fun a1 _ a2 _ a3 _ a4 _ a5 _ a6 _=>?_⟩
   have hnv:=negV2_t hon
   have v1:e 723=br0 b:=by rw [show e 723=(negV2 (e 39) (e 40) (e 41) (e 42) (e 43)).getD 0 0 from a1,v39,v40,v41,v42,v43,hnv];rfl
   have v2:e 724=bi0 b:=by rw [show e 724=(negV2 (e 39) (e 40) (e 41) (e 42) (e 43)).getD 1 0 from a2,v39,v40,v41,v42,v43,hnv];rfl
   have v3:e 725=(ng2 (rt2 (sd0 b))).1:=by rw [show e 725=(negV2 (e 39) (e 40) (e 41) (e 42) (e 43)).getD 2 0 from a3,v39,v40,v41,v42,v43,hnv];rfl
   have v4:e 726=(ng2 (rt2 (sd0 b))).2:=by rw [show e 726=(negV2 (e 39) (e 40) (e 41) (e 42) (e 43)).getD 3 0 from a4,v39,v40,v41,v42,v43,hnv];rfl
   have v5:e 727=0:=by rw [show e 727=(negV2 (e 39) (e 40) (e 41) (e 42) (e 43)).getD 4 0 from a5,v39,v40,v41,v42,v43,hnv];rfl
   have h5:=tailP2_says (T:=[kWRead f1,kAt2 f2,kWCmp f3,kMBase f4,kNeg2 f5,kBytes2 te f6,kInG2 f7]) (f1:=f6) (f2:=f7) (e:=e) rfl rfl 729 (.var 723) (.var 724) (.var 725) (.var 726) (.var 727) d0 (by show onV2 (e 723) (e 724) (e 725) (e 726) (e 727);rw [v1,v2,v3,v4,v5];exact on_neg2 hon)
   rw [show (A.var 723).ev e=_ from v1,show (A.var 724).ev e=_ from v2,show (A.var 725).ev e=_ from v3,show (A.var 726).ev e=_ from v4,show (A.var 727).ev e=_ from v5] at h5
   exact h5
  ·have h32:binE .and .u8 (b.getD 0 0) 32=0:=by
    rcases b722 with ⟨h1,_⟩ | ⟨_,h2⟩
    ·omega
    ·exact h2
   rw [if_pos h32]
   have h5:=tailP2_says (T:=[kWRead f1,kAt2 f2,kWCmp f3,kMBase f4,kNeg2 f5,kBytes2 te f6,kInG2 f7]) (f1:=f6) (f2:=f7) (e:=e) rfl rfl 723 (.var 39) (.var 40) (.var 41) (.var 42) (.var 43) d0 (by show onV2 (e 39) (e 40) (e 41) (e 42) (e 43);rw [v39,v40,v41,v42,v43];exact hon)
   rw [show (A.var 39).ev e=_ from v39,show (A.var 40).ev e=_ from v40,show (A.var 41).ev e=_ from v41,show (A.var 42).ev e=_ from v42,show (A.var 43).ev e=_ from v43] at h5
   exact h5
 ·rw [read2V_z hn (b_no b8 h)]
  exact tailP2_says (T:=[kWRead f1,kAt2 f2,kWCmp f3,kMBase f4,kNeg2 f5,kBytes2 te f6,kInG2 f7]) (f1:=f6) (f2:=f7) rfl rfl 9 (.lit 0) (.lit 0) (.lit 0) (.lit 0) (.lit 1) d0 on_zero2
end Go.Sx
namespace Go.Sx
open Go Go.RowKit
set_option maxRecDepth 100000
section
variable {T:List K} {g1 g2 g4 g5 g6 g7 g8:FuncId}
end
abbrev lsSg:List L:=[.int .i64,.num,.num,.num,.num,.bool,.int .u64,.int .u64,.bool]
theorem c_p2 {T:List K} {e:Nat->Int} {v:Int} {i j i' j' k:Nat} (h:v=(D.eqs [((.limb i 0),(.lit 0)),((.limb i 1),(.lit 0)),((.limb i 2),(.lit 0)),((.limb i 3),(.lit 0)),((.limb i 4),(.lit 0)),((.limb i 5),(.lit 0)),((.limb j 0),(.lit 0)),((.limb j 1),(.lit 0)),((.limb j 2),(.lit 0)),((.limb j 3),(.lit 0)),((.limb j 4),(.lit 0)),((.limb j 5),(.lit 0)),((.limb i' 0),(.lit 0)),((.limb i' 1),(.lit 0)),((.limb i' 2),(.lit 0)),((.limb i' 3),(.lit 0)),((.limb i' 4),(.lit 0)),((.limb i' 5),(.lit 0)),((.limb j' 0),(.lit 0)),((.limb j' 1),(.lit 0)),((.limb j' 2),(.lit 0)),((.limb j' 3),(.lit 0)),((.limb j' 4),(.lit 0)),((.limb j' 5),(.lit 0)),((.var k),(.lit 0))]).ev T e)
  (hi:0<=e i/\e i<N384) (hj:0<=e j/\e j<N384) (hi':0<=e i'/\e i'<N384) (hj':0<=e j'/\e j'<N384):(v=1/\((e i=0/\e j=0)/\(e i'=0/\e j'=0)/\e k=0))∨(v=0/\¬ ((e i=0/\e j=0)/\(e i'=0/\e j'=0)/\e k=0)):=by
 simp only [D.ev,List.all_cons,List.all_nil,ev_limb,ev_lit,ev_var,Bool.and_true,b2i_bi,Bool.and_eq_true,beq_iff_eq] at h
 by_cases hc:(e i=0/\e j=0)/\(e i'=0/\e j'=0)/\e k=0
 ·left;rw [hc.1.1,hc.1.2,hc.2.1.1,hc.2.1.2,hc.2.2] at h;simp [lim] at h;exact ⟨h,hc⟩
 ·right
  rw [if_neg (fun hh=>hc (by
   obtain ⟨a0,a1,a2,a3,a4,a5,b0,b1,b2,b3,b4,b5,c0,c1,c2,c3,c4,c5,d0,d1,d2,d3,d4,d5,z0⟩:=hh
   have z:∀ {x:Int},0<=x/\x<N384->lim x 0=0->lim x 1=0->lim x 2=0->lim x 3=0->lim x 4=0->lim x 5=0->x=0:=fun hx h0 h1 h2 h3 h4 h5=>by have:=lim_eq hx;omega
   exact ⟨⟨z hi a0 a1 a2 a3 a4 a5,z hj b0 b1 b2 b3 b4 b5⟩,⟨z hi' c0 c1 c2 c3 c4 c5,z hj' d0 d1 d2 d3 d4 d5⟩,z0⟩))] at h
  exact ⟨h,hc⟩
def sigOk (s a b c d z x y w:Int):Prop:=(s=0/\(x=0/\y=0/\w=0)/\inG2 a b c d z)∨(isL s/\((a=0/\b=0)/\(c=0/\d=0)/\z=0)/\inP (pL s) (rOf s) x y w)
theorem sigOk_0 {s a b c d z x y w:Int} (h:sigOk s a b c d z x y w) (h0:s=0):(x=0/\y=0/\w=0)/\inG2 a b c d z:=by
 rcases h with h | h
 ·exact h.2
 ·rcases h.1 with h1 | h1 <;> omega
theorem sigOk_L {s a b c d z x y w:Int} (h:sigOk s a b c d z x y w) (h0:¬ s=0):isL s/\((a=0/\b=0)/\(c=0/\d=0)/\z=0)/\inP (pL s) (rOf s) x y w:=by
 rcases h with h | h
 ·exact absurd h.1 h0
 ·exact h
noncomputable def kSigChk (f:FuncId):K:={fn:=f,ext:=false,ins:=[.agg lsSg],outs:=[oB],pre:=fun _=>True,sem:=fun | [s,a,b,c,d,z,x,y,w]=>[bj (sigOk s a b c d z x y w)] | _=>[] }
def tSigChk2:Tree:=(.lett 9 .bit (.cmp .eql (.var 0) (.lit 0))
(.split 9
(.lett 10 .bit (.eqs [((.var 6),(.lit 0)),((.var 7),(.lit 0)),((.var 8),(.lit 0))])
(.split 10
 (.req 0 [.var 1,.var 2,.var 3,.var 4,.var 5]
 (.lett 11 .bit (.app 0 0 [.var 1,.var 2,.var 3,.var 4,.var 5])
 (.ret [.var 11])))
 (.ret [.lit 0])))
(.lett 10 .bit (.cmp .eql (.var 0) (.lit 1))
(.split 10
 (.lett 11 .bit (.eqs [((.limb 1 0),(.lit 0)),((.limb 1 1),(.lit 0)),((.limb 1 2),(.lit 0)),((.limb 1 3),(.lit 0)),((.limb 1 4),(.lit 0)),((.limb 1 5),(.lit 0)),((.limb 2 0),(.lit 0)),((.limb 2 1),(.lit 0)),((.limb 2 2),(.lit 0)),((.limb 2 3),(.lit 0)),((.limb 2 4),(.lit 0)),((.limb 2 5),(.lit 0)),((.limb 3 0),(.lit 0)),((.limb 3 1),(.lit 0)),((.limb 3 2),(.lit 0)),((.limb 3 3),(.lit 0)),((.limb 3 4),(.lit 0)),((.limb 3 5),(.lit 0)),((.limb 4 0),(.lit 0)),((.limb 4 1),(.lit 0)),((.limb 4 2),(.lit 0)),((.limb 4 3),(.lit 0)),((.limb 4 4),(.lit 0)),((.limb 4 5),(.lit 0)),((.var 5),(.lit 0))])
 (.split 11
 (.req 1 [.var 0,.var 6,.var 7,.var 8]
 (.lett 12 .bit (.app 1 0 [.var 0,.var 6,.var 7,.var 8])
 (.ret [.var 12])))
 (.ret [.lit 0])))
 (.lett 11 .bit (.cmp .eql (.var 0) (.lit 2))
 (.split 11
 (.lett 12 .bit (.eqs [((.limb 1 0),(.lit 0)),((.limb 1 1),(.lit 0)),((.limb 1 2),(.lit 0)),((.limb 1 3),(.lit 0)),((.limb 1 4),(.lit 0)),((.limb 1 5),(.lit 0)),((.limb 2 0),(.lit 0)),((.limb 2 1),(.lit 0)),((.limb 2 2),(.lit 0)),((.limb 2 3),(.lit 0)),((.limb 2 4),(.lit 0)),((.limb 2 5),(.lit 0)),((.limb 3 0),(.lit 0)),((.limb 3 1),(.lit 0)),((.limb 3 2),(.lit 0)),((.limb 3 3),(.lit 0)),((.limb 3 4),(.lit 0)),((.limb 3 5),(.lit 0)),((.limb 4 0),(.lit 0)),((.limb 4 1),(.lit 0)),((.limb 4 2),(.lit 0)),((.limb 4 3),(.lit 0)),((.limb 4 4),(.lit 0)),((.limb 4 5),(.lit 0)),((.var 5),(.lit 0))])
 (.split 12
 (.req 1 [.var 0,.var 6,.var 7,.var 8]
 (.lett 13 .bit (.app 1 0 [.var 0,.var 6,.var 7,.var 8])
 (.ret [.var 13])))
 (.ret [.lit 0])))
 (.ret [.lit 0])))))))
theorem law_sigChk (f1 f2 f:FuncId) (e:Nat->Int) (hk:kkHas [.int .i64,.num,.num,.num,.num,.bit,.int .u64,.int .u64,.bit] [e 0,e 1,e 2,e 3,e 4,e 5,e 6,e 7,e 8]):tSigChk2.says [kInG2 f1,kLIn2 f2] ⟨fun ys=>ys=(kSigChk f).sem [e 0,e 1,e 2,e 3,e 4,e 5,e 6,e 7,e 8],[]⟩ e:=by
 obtain ⟨_,u1,u2,u3,u4,_⟩:=hk
 show tSigChk2.says _ ⟨fun ys=>ys=[bj (sigOk (e 0) (e 1) (e 2) (e 3) (e 4) (e 5) (e 6) (e 7) (e 8))],[]⟩ e
 intro a9 _
 have b9:=c_eq a9
 simp only [ev_var,ev_lit] at b9
 refine ⟨fun h9=>?_,fun h9=>?_⟩
 ·have e0:e 0=0:=b_yes b9 h9
  intro a10 _
  have b10:=c_l1 a10
  refine ⟨fun h10=>⟨trivial,fun a11 _=>?_⟩,fun h10=>?_⟩
  ·have v11:e 11=bj (inG2 (e 1) (e 2) (e 3) (e 4) (e 5)):=a11
   show [e 11]=_
   rw [v11]
   exact congrArg (fun x=>[x]) (bj_iff ⟨fun h=>.inl ⟨e0,b_yes b10 h10,h⟩,fun h=>(sigOk_0 h e0).2⟩)
  ·show [(0:Int)]=_
   rw [bj_f (fun h=>b_no b10 h10 (sigOk_0 h e0).1)]
 ·have n0:¬ e 0=0:=b_no b9 h9
  have key:∀ (v:Int),isL (e 0)->v=bj (isL (e 0)/\inP (pL (e 0)) (rOf (e 0)) (e 6) (e 7) (e 8))->((e 1=0/\e 2=0)/\(e 3=0/\e 4=0)/\e 5=0)->[v]=[bj (sigOk (e 0) (e 1) (e 2) (e 3) (e 4) (e 5) (e 6) (e 7) (e 8))]:=fun v hl hv hz=>by
   rw [hv]
   exact congrArg (fun x=>[x]) (bj_iff ⟨fun h=>.inr ⟨hl,hz,h.2⟩,fun h=>⟨hl,(sigOk_L h n0).2.2⟩⟩)
  have none:¬ ((e 1=0/\e 2=0)/\(e 3=0/\e 4=0)/\e 5=0)->[(0:Int)]=[bj (sigOk (e 0) (e 1) (e 2) (e 3) (e 4) (e 5) (e 6) (e 7) (e 8))]:=fun hz=>by
   rw [bj_f (fun h=>hz (sigOk_L h n0).2.1)]
  intro a10 _
  have b10:=c_eq a10
  simp only [ev_var,ev_lit] at b10
  refine ⟨fun h10=>?_,fun h10=>?_⟩
  ·intro a11 _
   have b11:=c_p2 a11 u1 u2 u3 u4
   exact ⟨fun h11=>⟨trivial,fun a12 _=>key _ (.inl (b_yes b10 h10)) a12 (b_yes b11 h11)⟩,fun h11=>none (b_no b11 h11)⟩
  ·intro a11 _
   have b11:=c_eq a11
   simp only [ev_var,ev_lit] at b11
   refine ⟨fun h11=>?_,fun h11=>?_⟩
   ·intro a12 _
    have b12:=c_p2 a12 u1 u2 u3 u4
    exact ⟨fun h12=>⟨trivial,fun a13 _=>key _ (.inr (b_yes b11 h11)) a13 (b_yes b12 h12)⟩,fun h12=>none (b_no b12 h12)⟩
   ·show [(0:Int)]=_
    rw [bj_f (fun h=>by
     rcases (sigOk_L h n0).1 with h1 | h1
     ·exact b_no b10 h10 h1
     ·exact b_no b11 h11 h1)]
def sigP (r:List Int):List Int:=if r.getD 5 0≠0 then [0,0,0,0,0,0,0,0,0,r.getD 5 0] else [0,r.getD 0 0,r.getD 1 0,r.getD 2 0,r.getD 3 0,r.getD 4 0,0,0,0,0]
def sigL (s:Int) (r:List Int):List Int:=if r.getD 3 0≠0 then [0,0,0,0,0,0,0,0,0,r.getD 3 0] else [s,0,0,0,0,0,r.getD 0 0,r.getD 1 0,r.getD 2 0,0]
noncomputable def readSig (s:Int) (b:List Int):List Int :=
 if s=0 then sigP (read2V b) else if s=1∨s=2 then sigL s (readLV (pL s) (rOf s) b) else [0,0,0,0,0,0,0,0,0,2]
def sigB (s a b c d z x y w:Int):List Int:=if s=0 then bytes2V a b c d z else bytesL x y w
noncomputable def kReadSig (f:FuncId):K:={fn:=f,ext:=false,ins:=[iI,.lst (.int .u8)],outs:=[.agg lsSg,oI],pre:=fun _=>True,sem:=fun | [s,l]=>readSig s (dec l) | _=>[] }
theorem readSig_0 {s:Int} (h:s=0) (b:List Int):readSig s b=sigP (read2V b):=if_pos h
theorem readSig_L {s:Int} (h:isL s) (b:List Int):readSig s b=sigL s (readLV (pL s) (rOf s) b):=by
 unfold readSig
 rw [if_neg (by rcases h with h | h <;> omega),if_pos (show s=1∨s=2 from h)]
theorem readSig_n {s:Int} (h0:¬ s=0) (h:¬ isL s) (b:List Int):readSig s b=[0,0,0,0,0,0,0,0,0,2]:=by
 unfold readSig
 rw [if_neg h0,if_neg (show ¬ (s=1∨s=2) from h)]
theorem endQ_g {T:List K} {e:Nat->Int} {f:FuncId} (g:Nat) (h0:T[g]?=some (kRead2 f)) (w n:Nat) (v:Nat) (hv:e v=0) {b:List Int} (hb:dec (e w)=b) :
  (Tree.req g [.var w] (.lett n .num (.app g 0 [.var w]) (.lett (n+1) .num (.app g 1 [.var w]) (.lett (n+2) .num (.app g 2 [.var w]) (.lett (n+3) .num (.app g 3 [.var w]) (.lett (n+4) .bit (.app g 4 [.var w]) (.lett (n+5) (.int .i64) (.app g 5 [.var w]) (.lett (n+6) .bit (.cmp .neq (.var (n+5)) (.lit 0)) (.split (n+6) (.ret [.lit 0,.lit 0,.lit 0,.lit 0,.lit 0,.lit 0,.lit 0,.lit 0,.lit 0,.var (n+5)]) (.ret [.var v,.var n,.var (n+1),.var (n+2),.var (n+3),.var (n+4),.lit 0,.lit 0,.lit 0,.lit 0])))))))))).says T ⟨fun ys=>ys=sigP (read2V b),[]⟩ e:=by
 refine ⟨by rw [h0];trivial,fun a0 _ a1 _ a2 _ a3 _ a4 _ a5 _ a6 _=>?_⟩
 simp only [D.ev,h0] at a0 a1 a2 a3 a4 a5
 have v0:e n=(read2V b).getD 0 0:=by rw [<- hb];exact a0
 have v1:e (n+1)=(read2V b).getD 1 0:=by rw [<- hb];exact a1
 have v2:e (n+2)=(read2V b).getD 2 0:=by rw [<- hb];exact a2
 have v3:e (n+3)=(read2V b).getD 3 0:=by rw [<- hb];exact a3
 have v4:e (n+4)=(read2V b).getD 4 0:=by rw [<- hb];exact a4
 have v5:e (n+5)=(read2V b).getD 5 0:=by rw [<- hb];exact a5
 have b6:=c_ne a6
 simp only [ev_var,ev_lit] at b6
 unfold sigP
 rw [<- v0,<- v1,<- v2,<- v3,<- v4,<- v5]
 refine ⟨fun h=>?_,fun h=>?_⟩
 ·rw [if_pos (show e (n+5)≠0 by omega)];rfl
 ·rw [if_neg (fun hc=>hc (show e (n+5)=0 by omega))]
  show [e v,e n,e (n+1),e (n+2),e (n+3),e (n+4),0,0,0,0]=_
  rw [hv]
theorem endM_at {T:List K} {e:Nat->Int} {f:FuncId} (h0:T[1]?=some (kLRead f)) (w n:Nat) (hl:isL (e 0)) {b:List Int} (hb:dec (e w)=b) :
  (Tree.req 1 [.var 0,.var w] (.lett n (.int .u64) (.app 1 0 [.var 0,.var w]) (.lett (n+1) (.int .u64) (.app 1 1 [.var 0,.var w]) (.lett (n+2) .bit (.app 1 2 [.var 0,.var w]) (.lett (n+3) (.int .i64) (.app 1 3 [.var 0,.var w]) (.lett (n+4) .bit (.cmp .neq (.var (n+3)) (.lit 0)) (.split (n+4) (.ret [.lit 0,.lit 0,.lit 0,.lit 0,.lit 0,.lit 0,.lit 0,.lit 0,.lit 0,.var (n+3)]) (.ret [.var 0,.lit 0,.lit 0,.lit 0,.lit 0,.lit 0,.var n,.var (n+1),.var (n+2),.lit 0])))))))).says T ⟨fun ys=>ys=sigL (e 0) (readLV (pL (e 0)) (rOf (e 0)) b),[]⟩ e:=by
 refine ⟨by rw [h0];exact hl,fun a0 _ a1 _ a2 _ a3 _ a4 _=>?_⟩
 simp only [D.ev,h0] at a0 a1 a2 a3
 have v0:e n=(readLV (pL (e 0)) (rOf (e 0)) b).getD 0 0:=by rw [<- hb];exact a0
 have v1:e (n+1)=(readLV (pL (e 0)) (rOf (e 0)) b).getD 1 0:=by rw [<- hb];exact a1
 have v2:e (n+2)=(readLV (pL (e 0)) (rOf (e 0)) b).getD 2 0:=by rw [<- hb];exact a2
 have v3:e (n+3)=(readLV (pL (e 0)) (rOf (e 0)) b).getD 3 0:=by rw [<- hb];exact a3
 have b4:=c_ne a4
 simp only [ev_var,ev_lit] at b4
 unfold sigL
 rw [<- v0,<- v1,<- v2,<- v3]
 refine ⟨fun h=>?_,fun h=>?_⟩
 ·rw [if_pos (show e (n+3)≠0 by omega)];rfl
 ·rw [if_neg (fun hc=>hc (show e (n+3)=0 by omega))];rfl
def tReadSig:Tree:=(.lett 2 .bit (.cmp .eql (.var 0) (.lit 0))
(.split 2
(.lett 3 .bit (.cmp .eql (.var 0) (.lit 0))
(.split 3
 (.req 0 [.var 1]
 (.lett 4 .num (.app 0 0 [.var 1])
 (.lett 5 .num (.app 0 1 [.var 1])
 (.lett 6 .num (.app 0 2 [.var 1])
 (.lett 7 .num (.app 0 3 [.var 1])
 (.lett 8 .bit (.app 0 4 [.var 1])
 (.lett 9 (.int .i64) (.app 0 5 [.var 1])
 (.lett 10 .bit (.cmp .neq (.var 9) (.lit 0))
 (.split 10
 (.ret [.lit 0,.lit 0,.lit 0,.lit 0,.lit 0,.lit 0,.lit 0,.lit 0,.lit 0,.var 9])
 (.ret [.var 0,.var 4,.var 5,.var 6,.var 7,.var 8,.lit 0,.lit 0,.lit 0,.lit 0]))))))))))
 (.req 1 [.var 0,.var 1]
 (.lett 4 (.int .u64) (.app 1 0 [.var 0,.var 1])
 (.lett 5 (.int .u64) (.app 1 1 [.var 0,.var 1])
 (.lett 6 .bit (.app 1 2 [.var 0,.var 1])
 (.lett 7 (.int .i64) (.app 1 3 [.var 0,.var 1])
 (.lett 8 .bit (.cmp .neq (.var 7) (.lit 0))
 (.split 8
 (.ret [.lit 0,.lit 0,.lit 0,.lit 0,.lit 0,.lit 0,.lit 0,.lit 0,.lit 0,.var 7])
 (.ret [.var 0,.lit 0,.lit 0,.lit 0,.lit 0,.lit 0,.var 4,.var 5,.var 6,.lit 0]))))))))))
(.lett 3 .bit (.cmp .eql (.var 0) (.lit 1))
(.split 3
 (.lett 4 .bit (.cmp .eql (.var 0) (.lit 0))
 (.split 4
 (.req 0 [.var 1]
 (.lett 5 .num (.app 0 0 [.var 1])
 (.lett 6 .num (.app 0 1 [.var 1])
 (.lett 7 .num (.app 0 2 [.var 1])
 (.lett 8 .num (.app 0 3 [.var 1])
 (.lett 9 .bit (.app 0 4 [.var 1])
 (.lett 10 (.int .i64) (.app 0 5 [.var 1])
 (.lett 11 .bit (.cmp .neq (.var 10) (.lit 0))
 (.split 11
 (.ret [.lit 0,.lit 0,.lit 0,.lit 0,.lit 0,.lit 0,.lit 0,.lit 0,.lit 0,.var 10])
 (.ret [.var 0,.var 5,.var 6,.var 7,.var 8,.var 9,.lit 0,.lit 0,.lit 0,.lit 0]))))))))))
 (.req 1 [.var 0,.var 1]
 (.lett 5 (.int .u64) (.app 1 0 [.var 0,.var 1])
 (.lett 6 (.int .u64) (.app 1 1 [.var 0,.var 1])
 (.lett 7 .bit (.app 1 2 [.var 0,.var 1])
 (.lett 8 (.int .i64) (.app 1 3 [.var 0,.var 1])
 (.lett 9 .bit (.cmp .neq (.var 8) (.lit 0))
 (.split 9
 (.ret [.lit 0,.lit 0,.lit 0,.lit 0,.lit 0,.lit 0,.lit 0,.lit 0,.lit 0,.var 8])
 (.ret [.var 0,.lit 0,.lit 0,.lit 0,.lit 0,.lit 0,.var 5,.var 6,.var 7,.lit 0]))))))))))
 (.lett 4 .bit (.cmp .eql (.var 0) (.lit 2))
 (.lett 5 .bit (.not (.var 4))
 (.split 5
 (.ret [.lit 0,.lit 0,.lit 0,.lit 0,.lit 0,.lit 0,.lit 0,.lit 0,.lit 0,.lit 2])
 (.lett 6 .bit (.cmp .eql (.var 0) (.lit 0))
 (.split 6
 (.req 0 [.var 1]
 (.lett 7 .num (.app 0 0 [.var 1])
 (.lett 8 .num (.app 0 1 [.var 1])
 (.lett 9 .num (.app 0 2 [.var 1])
 (.lett 10 .num (.app 0 3 [.var 1])
 (.lett 11 .bit (.app 0 4 [.var 1])
 (.lett 12 (.int .i64) (.app 0 5 [.var 1])
 (.lett 13 .bit (.cmp .neq (.var 12) (.lit 0))
 (.split 13
 (.ret [.lit 0,.lit 0,.lit 0,.lit 0,.lit 0,.lit 0,.lit 0,.lit 0,.lit 0,.var 12])
 (.ret [.var 0,.var 7,.var 8,.var 9,.var 10,.var 11,.lit 0,.lit 0,.lit 0,.lit 0]))))))))))
 (.req 1 [.var 0,.var 1]
 (.lett 7 (.int .u64) (.app 1 0 [.var 0,.var 1])
 (.lett 8 (.int .u64) (.app 1 1 [.var 0,.var 1])
 (.lett 9 .bit (.app 1 2 [.var 0,.var 1])
 (.lett 10 (.int .i64) (.app 1 3 [.var 0,.var 1])
 (.lett 11 .bit (.cmp .neq (.var 10) (.lit 0))
 (.split 11
 (.ret [.lit 0,.lit 0,.lit 0,.lit 0,.lit 0,.lit 0,.lit 0,.lit 0,.lit 0,.var 10])
 (.ret [.var 0,.lit 0,.lit 0,.lit 0,.lit 0,.lit 0,.var 7,.var 8,.var 9,.lit 0])))))))))))))))))
theorem law_readSig (f1 f2 f:FuncId) (e:Nat->Int):tReadSig.says [kRead2 f1,kLRead f2] ⟨fun ys=>ys=(kReadSig f).sem [e 0,e 1],[]⟩ e:=by
 obtain ⟨b,hb⟩:∃ b,dec (e 1)=b:=⟨_,rfl⟩
 show tReadSig.says _ ⟨fun ys=>ys=readSig (e 0) (dec (e 1)),[]⟩ e
 rw [hb]
 intro a2 _
 have b2:=c_eq a2
 simp only [ev_var,ev_lit] at b2
 refine ⟨fun h=>?_,fun h=>?_⟩
 ·have e0:e 0=0:=b_yes b2 h
  intro a3 _
  have b3:=c_eq a3
  simp only [ev_var,ev_lit] at b3
  refine ⟨fun _=>?_,fun h=>absurd e0 (b_no b3 h)⟩
  rw [readSig_0 e0]
  exact endQ_g (T:=[kRead2 f1,kLRead f2]) 0 rfl 1 4 0 e0 hb
 have n0:=b_no b2 h
 intro a3 _
 have b3:=c_eq a3
 simp only [ev_var,ev_lit] at b3
 refine ⟨fun h=>?_,fun h=>?_⟩
 ·have e1:e 0=1:=b_yes b3 h
  intro a4 _
  have b4:=c_eq a4
  simp only [ev_var,ev_lit] at b4
  refine ⟨fun h=>absurd (b_yes b4 h) n0,fun _=>?_⟩
  rw [readSig_L (.inl e1)]
  exact endM_at (T:=[kRead2 f1,kLRead f2]) rfl 1 5 (.inl e1) hb
 have n1:=b_no b3 h
 intro a4 _ a5 _
 have b4:=c_eq a4
 have b5:=c_not a5
 simp only [ev_var,ev_lit] at b4 b5
 refine ⟨fun h=>?_,fun h=>?_⟩
 ·have:¬ isL (e 0):=fun hc=>by
   have:=b_yes b5 h
   rcases hc with h1 | h1 <;> omega
  rw [readSig_n n0 this];rfl
 ·have e2:e 0=2:=by have:=b_no b5 h;omega
  intro a6 _
  have b6:=c_eq a6
  simp only [ev_var,ev_lit] at b6
  refine ⟨fun h=>absurd (b_yes b6 h) n0,fun _=>?_⟩
  rw [readSig_L (.inr e2)]
  exact endM_at (T:=[kRead2 f1,kLRead f2]) rfl 1 7 (.inr e2) hb
section
variable {te tb:TypeId} {f0 f1 f2 f3 f4 f5 f6 f7 f8 f9 f10 f11 f12 f13 f14:FuncId} {e:Nat->Int}
end
set_option exponentiation.threshold 500 in
theorem readV_bytesV {x:Int} (h0:0<=x) (h1:x<N384):readV (bytesV x)=x:=by
 have key:∀ i,i<=48->readV ((bytesV x).take i)=x/2^(8*(48-i)):=by
  intro i
  induction i with
  | zero =>
   intro _
   rw [List.take_zero,show readV []=0 from rfl,Int.ediv_eq_zero_of_lt h0 (Int.lt_of_lt_of_le h1 (by decide +kernel))]
  | succ i ih =>
   intro hi
   have hl:i<(bytesV x).length:=by rw [bytesV_len];omega
   rw [readV_take hl,ih (by omega),List.getD_eq_getElem?_getD,List.getElem?_eq_getElem hl,Option.getD_some,bytesV_get x (by omega)]
   unfold byteAt
   have e1:(2:Int)^(8*(48-i))=2^(8*(47-i))*256:=by
    rw [show 8*(48-i)=8*(47-i)+8 by omega,Int.pow_add];rfl
   rw [e1,show 48-(i+1)=47-i by omega,<- Int.ediv_ediv_of_nonneg (Int.pow_nonneg (by decide))]
   generalize x/2^(8*(47-i))=q
   omega
 have:=key 48 (Nat.le_refl _)
 rw [List.take_of_length_le (by rw [bytesV_len];exact Nat.le_refl _)] at this
 rw [this]
 simp
theorem bP_384:bP<N384:=by have:=bP_lt;have:=bP_pos;omega
theorem fl_128:∀ t:Fin 32,binE .and .u8 ((t.val:Int)+128) 64=0/\binE .and .u8 ((t.val:Int)+128) 32=0/\binE .and .u8 ((t.val:Int)+128) 31=t.val:=by decide +kernel
theorem fl_160:∀ t:Fin 32,binE .and .u8 ((t.val:Int)+160) 64=0/\¬ binE .and .u8 ((t.val:Int)+160) 32=0/\binE .and .u8 ((t.val:Int)+160) 31=t.val:=by decide +kernel
theorem fl_192:∀ t:Fin 32,¬ binE .and .u8 ((t.val:Int)+192) 64=0:=by decide +kernel
theorem fin_of {t:Int} (h0:0<=t) (h1:t<32):∃ i:Fin 32,t=(i.val:Int):=⟨⟨t.toNat,by omega⟩,by simp;omega⟩
theorem setg_0 {l:List Int} (h:0<l.length) (c:Int):(l.set 0 c).getD 0 0=c:=by
 match l,h with
 | _::_,_=>rfl
theorem set_set0 {l:List Int} {b c:Int} (h:l.getD 0 0=c) (hl:0<l.length):(l.set 0 b).set 0 c=l:=by
 match l,hl with
 | x::r,_=>show c::r=x::r;rw [<- h];rfl
theorem back1 {x y z:Int} (h:inG x y z) (hz:0<=z/\z<=1) (hx:0<=x) (hy:0<=y):read1V (bytes1V x y z)=[x,y,z,0]:=by
 have hlen:(bytes1V x y z).length=48:=by unfold bytes1V;rw [List.length_set,bytesV_len]
 have l0:0<(bytesV x).length:=by rw [bytesV_len];decide
 have g0:(bytes1V x y z).getD 0 0=byteAt x 47+flagV y z:=setg_0 l0 _
 obtain ⟨⟨hx1,hy1⟩,hon⟩:=h.1
 obtain ⟨t,ht⟩:=fin_of (top_byte hx hx1).1 (top_byte hx hx1).2
 by_cases h0:z=0
 ·rw [if_pos h0] at hon
  subst h0
  have fl:flagV y 0=if bP/2<y then 160 else 128:=if_pos rfl
  have hb31:binE .and .u8 ((bytes1V x y 0).getD 0 0) 31=byteAt x 47:=by
   rw [g0,ht,fl];split
   ·exact (fl_160 t).2.2
   ·exact (fl_128 t).2.2
  have hb64:binE .and .u8 ((bytes1V x y 0).getD 0 0) 64=0:=by
   rw [g0,ht,fl];split
   ·exact (fl_160 t).1
   ·exact (fl_128 t).1
  have hbx:bx0 (bytes1V x y 0)=x:=by
   unfold bx0
   rw [hb31]
   unfold bytes1V
   rw [set_set0 (bytesV_0 x) l0]
   exact readV_bytesV hx (Int.lt_trans hx1 bP_384)
  have hs:side1V x%bP=y*y%bP:=by unfold side1V;rw [Int.emod_emod_of_dvd _ (Int.dvd_refl _),hon]
  obtain ⟨hsq,hr⟩:=rt_of hs
  have hrr:=rt_rng (side1V x)
  have hyy:y%bP=y:=Int.emod_eq_of_lt hy hy1
  rw [hyy,Int.emod_eq_of_lt hrr.1 hrr.2] at hr
  rw [read1V_p hlen hb64 ⟨by rw [hbx];exact hx1,by rw [hbx];exact hsq⟩,hbx]
  have hroot:(if binE .and .u8 ((bytes1V x y 0).getD 0 0) 32=0 then lesV (rtV (side1V x)) else (-lesV (rtV (side1V x)))%bP)=y:=by
   have hodd:=bP_odd
   have hles:lesV (rtV (side1V x))=lesV y:=by
    rcases hr with hr | hr
    ·rw [hr]
    ·rw [hr]
     rcases ng_1 ⟨hy,hy1⟩ with ⟨a,b⟩ | ⟨a,b⟩
     ·rw [b,a]
     ·rw [b]
      unfold lesV
      by_cases hc:bP/2<y
      ·rw [if_pos hc,if_neg (by omega),neg_md a hy1]
      ·rw [if_neg hc,if_pos (by omega),neg_md (by omega) (by omega)];omega
   rw [hles,g0,ht,fl]
   unfold lesV
   by_cases hc:bP/2<y
   ·rw [if_pos hc,if_neg (fl_160 t).2.1,if_pos hc,neg_md (c:=y) (by have:=bP_pos;omega) hy1,neg_md (by omega) (by have:=bP_pos;omega)];omega
   ·rw [if_neg hc,if_pos (fl_128 t).2.1,if_neg hc]
  rw [hroot]
  unfold fin1V
  rw [if_pos rfl,if_pos h]
 ·rw [if_neg h0] at hon
  have fl:flagV y z=192:=if_neg h0
  rw [read1V_z hlen (by rw [g0,ht,fl];exact fl_192 t)]
  have hz1:z=1:=by omega
  rw [hon.1,hon.2,hz1] at h ⊢
  unfold fin1V
  rw [if_pos rfl,if_pos h]
theorem back2 {a b c d z:Int} (h:inG2 a b c d z) (hz:0<=z/\z<=1) (ha:0<=a) (hb:0<=b) (hc:0<=c) (hd:0<=d):read2V (bytes2V a b c d z)=[a,b,c,d,z,0]:=by
 have hlen:(bytes2V a b c d z).length=96:=by unfold bytes2V;rw [List.length_set,cat_len]
 have l0:0<(bytesV b++bytesV a).length:=by rw [cat_len];decide
 have g0:(bytes2V a b c d z).getD 0 0=byteAt b 47+flag2 c d z:=setg_0 l0 _
 obtain ⟨⟨ha1,hb1⟩,hc1,hd1⟩:=h.1.1
 obtain ⟨t,ht⟩:=fin_of (top_byte hb hb1).1 (top_byte hb hb1).2
 by_cases h0:z=0
 ·have hon:=((onV2_0 h0).1 h.1).2
  subst h0
  have fl:flag2 c d 0=if great2 (c,d) then 160 else 128:=if_pos rfl
  have hb31:binE .and .u8 ((bytes2V a b c d 0).getD 0 0) 31=byteAt b 47:=by
   rw [g0,ht,fl];split
   ·exact (fl_160 t).2.2
   ·exact (fl_128 t).2.2
  have hb64:binE .and .u8 ((bytes2V a b c d 0).getD 0 0) 64=0:=by
   rw [g0,ht,fl];split
   ·exact (fl_160 t).1
   ·exact (fl_128 t).1
  have hset:(bytes2V a b c d 0).set 0 (binE .and .u8 ((bytes2V a b c d 0).getD 0 0) 31)=bytesV b++bytesV a:=by
   rw [hb31]
   unfold bytes2V
   exact set_set0 (cat_0 a b) l0
  have hbi:bi0 (bytes2V a b c d 0)=b:=by
   unfold bi0
   rw [hset,List.take_append_of_le_length (by rw [bytesV_len];exact Nat.le_refl _),List.take_of_length_le (by rw [bytesV_len];exact Nat.le_refl _)]
   exact readV_bytesV hb (Int.lt_trans hb1 bP_384)
  have hbr:br0 (bytes2V a b c d 0)=a:=by
   unfold br0 bytes2V
   rw [List.drop_set_of_lt (by decide),List.drop_left' (bytesV_len b)]
   exact readV_bytesV ha (Int.lt_trans ha1 bP_384)
  have hsd:sd0 (bytes2V a b c d 0)=side2 (a,b):=by unfold sd0;rw [hbi,hbr]
  have hcn:cn (c,d):=⟨⟨hc,hc1⟩,hd,hd1⟩
  have hS:S2 (R2.mul (c,d) (c,d)) (side2 (a,b)):=⟨congrArg Prod.fst hon,congrArg Prod.snd hon⟩
  have hrt:=rt2_of hcn hS
  rw [read2V_p hlen hb64 ⟨⟨by rw [hbr];exact ha1,by rw [hbi];exact hb1⟩,by rw [hsd];exact ⟨_,hS⟩⟩,hsd,hbr,hbi,hrt,g0,ht,fl]
  unfold les2
  by_cases hg:great2 (c,d)
  ·rw [if_pos hg,if_neg (fl_160 t).2.1,if_pos hg,ng_ng hcn]
   unfold fin2V
   rw [if_pos rfl,if_pos h]
  ·rw [if_neg hg,if_pos (fl_128 t).2.1,if_neg hg]
   unfold fin2V
   rw [if_pos rfl,if_pos h]
 ·obtain ⟨_,⟨qa,qb⟩,qc,qd⟩:=(onV2_1 h0).1 h.1
  have fl:flag2 c d z=192:=if_neg h0
  rw [read2V_z hlen (by rw [g0,ht,fl];exact fl_192 t)]
  have hz1:z=1:=by omega
  rw [qa,qb,qc,qd,hz1] at h ⊢
  unfold fin2V
  rw [if_pos rfl,if_pos h]
theorem by8_eq {x:Int}:by8 x=[x/72057594037927936%256,x/281474976710656%256,x/1099511627776%256,x/4294967296%256,x/16777216%256,x/65536%256,x/256%256,x%256]:=by
 have h:∀ (c d:Int),((2^(min c.toNat IntKind.u64.bits):Nat):Int)=d->0<=d->wr .u8 (binE .shr .u64 x c)=x/d%256:=fun c d hd h0=>by
  rw [shr_d (v:=binE .shr .u64 x c) d rfl hd h0];rfl
 unfold by8
 rw [h 56 72057594037927936 (by decide) (by decide),h 48 281474976710656 (by decide) (by decide),h 40 1099511627776 (by decide) (by decide),h 32 4294967296 (by decide) (by decide),h 24 16777216 (by decide) (by decide),h 16 65536 (by decide) (by decide),h 8 256 (by decide) (by decide),h 0 1 (by decide) (by decide),Int.ediv_one]
theorem rd_step {v acc c:Int} (ha:0<=acc/\acc<72057594037927936) (hc:0<=c/\c<256) (h:v=binE .or .u64 (binE .shl .u64 acc 8) c):v=acc*256+c:=by
 have h1:binE .shl .u64 acc 8=acc*2^(8:Int).toNat:=shl_sm ha.1 (by decide) rfl (by show acc*256<_;omega)
 have h2:binE .shl .u64 acc 8=acc*256:=h1
 rw [h2] at h
 exact or_dis (k:=8) (q:=acc) h rfl ha.1 hc (by omega)
theorem rdF_by8 {b:List Int} {o:Nat} {x:Int} (hx:0<=x/\x<18446744073709551616) (h:∀ i,i<8->b.getD (o+i) 0=(by8 x).getD i 0):rdF b o 8=x:=by
 rw [by8_eq] at h
 have g0:b.getD (o+0) 0=x/72057594037927936%256:=h 0 (by decide)
 have g1:b.getD (o+1) 0=x/281474976710656%256:=h 1 (by decide)
 have g2:b.getD (o+2) 0=x/1099511627776%256:=h 2 (by decide)
 have g3:b.getD (o+3) 0=x/4294967296%256:=h 3 (by decide)
 have g4:b.getD (o+4) 0=x/16777216%256:=h 4 (by decide)
 have g5:b.getD (o+5) 0=x/65536%256:=h 5 (by decide)
 have g6:b.getD (o+6) 0=x/256%256:=h 6 (by decide)
 have g7:b.getD (o+7) 0=x%256:=h 7 (by decide)
 clear h
 have r0:rdF b o 0=0:=rfl
 have r1:=rd_step (v:=rdF b o 1) (by rw [r0];decide) (c:=b.getD (o+0) 0) (by omega) rfl
 rw [r0,g0] at r1
 have r2:=rd_step (v:=rdF b o 2) (acc:=rdF b o 1) (by omega) (c:=b.getD (o+1) 0) (by omega) rfl
 have r3:=rd_step (v:=rdF b o 3) (acc:=rdF b o 2) (by omega) (c:=b.getD (o+2) 0) (by omega) rfl
 have r4:=rd_step (v:=rdF b o 4) (acc:=rdF b o 3) (by omega) (c:=b.getD (o+3) 0) (by omega) rfl
 have r5:=rd_step (v:=rdF b o 5) (acc:=rdF b o 4) (by omega) (c:=b.getD (o+4) 0) (by omega) rfl
 have r6:=rd_step (v:=rdF b o 6) (acc:=rdF b o 5) (by omega) (c:=b.getD (o+5) 0) (by omega) rfl
 have r7:=rd_step (v:=rdF b o 7) (acc:=rdF b o 6) (by omega) (c:=b.getD (o+6) 0) (by omega) rfl
 have r8:=rd_step (v:=rdF b o 8) (acc:=rdF b o 7) (by omega) (c:=b.getD (o+7) 0) (by omega) rfl
 omega
theorem back_L {p r x y z:Int} (h:inP p r x y z) (hx:0<=x/\x<18446744073709551616) (hy:0<=y/\y<18446744073709551616) (hz:0<=z/\z<=1):readLV p r (bytesL x y z)=[x,y,z,0]:=by
 have l8:∀ x,(by8 x).length=8:=fun _=>rfl
 have hlen:(bytesL x y z).length=17:=rfl
 have gx:rdF (bytesL x y z) 1 8=x:=rdF_by8 hx fun i hi=>by
  unfold bytesL
  rw [Nat.add_comm 1 i,List.getD_cons_succ,List.getD_eq_getElem?_getD,List.getD_eq_getElem?_getD,List.getElem?_append_left (by rw [l8];exact hi)]
 have gy:rdF (bytesL x y z) 9 8=y:=rdF_by8 hy fun i hi=>by
  unfold bytesL
  rw [show 9+i=(8+i)+1 by omega,List.getD_cons_succ,List.getD_eq_getElem?_getD,List.getD_eq_getElem?_getD,List.getElem?_append_right (by rw [l8];omega),l8,show 8+i-8=i by omega]
 have g0:(bytesL x y z).getD 0 0=if z=0 then 0 else 1:=rfl
 have gz:bi ((bytesL x y z).getD 0 0=1)=z:=by
  rw [g0]
  by_cases h0:z=0
  ·rw [if_pos h0,h0];rfl
  ·rw [if_neg h0,show z=1 by omega];rfl
 unfold readLV
 rw [if_neg (fun hc=>hc hlen),gx,gy,gz,if_neg (fun hc=>?_),if_pos h]
 rcases hc with hc | hc
 ·rw [g0] at hc;split at hc <;> omega
 ·exact hc h.1
theorem back_key {s a b z x y w:Int} (h:keyOk s a b z x y w) (ha:0<=a) (hb:0<=b) (hz:0<=z/\z<=1) (hx:0<=x/\x<18446744073709551616) (hy:0<=y/\y<18446744073709551616) (hw:0<=w/\w<=1) :
  readKey s (keyB s a b z x y w)=[s,a,b,z,x,y,w,0]:=by
 by_cases h0:s=0
 ·obtain ⟨⟨qx,qy,qw⟩,hg⟩:=keyOk_0 h h0
  rw [readKey_0 h0,keyB,if_pos h0,back1 hg hz ha hb,qx,qy,qw,h0];rfl
 ·obtain ⟨hl,⟨qa,qb,qz⟩,hg⟩:=keyOk_L h h0
  rw [readKey_L hl,keyB,if_neg h0,back_L hg hx hy hw,qa,qb,qz];rfl
theorem back_sig {s a b c d z x y w:Int} (h:sigOk s a b c d z x y w) (ha:0<=a) (hb:0<=b) (hc:0<=c) (hd:0<=d) (hz:0<=z/\z<=1) (hx:0<=x/\x<18446744073709551616) (hy:0<=y/\y<18446744073709551616) (hw:0<=w/\w<=1) :
  readSig s (sigB s a b c d z x y w)=[s,a,b,c,d,z,x,y,w,0]:=by
 by_cases h0:s=0
 ·obtain ⟨⟨qx,qy,qw⟩,hg⟩:=sigOk_0 h h0
  rw [readSig_0 h0,sigB,if_pos h0,back2 hg hz ha hb hc hd,qx,qy,qw,h0];rfl
 ·obtain ⟨hl,⟨⟨qa,qb⟩,⟨qc,qd⟩,qz⟩,hg⟩:=sigOk_L h h0
  rw [readSig_L hl,sigB,if_neg h0,back_L hg hx hy hw,qa,qb,qc,qd,qz];rfl
end Go.Sx
