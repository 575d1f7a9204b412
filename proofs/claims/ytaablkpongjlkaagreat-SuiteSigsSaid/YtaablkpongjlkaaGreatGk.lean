/- Part Gk of the proof. -/
import Derived.Test.YtaablkpongjlkaaGreatGj
import Derived.Test.YtaablkpongjlkaaGreatGi
set_option linter.unusedVariables false
set_option linter.unusedSimpArgs false
namespace Go.Sx
open Go Go.RowKit
set_option maxRecDepth 100000
def lowP:Int:=9940570264628428797
def sqP:Int:=2708263910654730174793787626328176511836455197166317677006154293982164122222515399004018013397331347120527951271750
theorem goodP:mGood bP lowP sqP:=by unfold mGood mOk wideOf;decide +kernel
theorem bP_382:bP<2^382:=goodP.1.2.2
abbrev iE2:Sh:=.agg [.num,.num]
abbrev oE2:Oh:=.agg [.num,.num]
def kRP (f:FuncId):K:={fn:=f,ext:=false,ins:=[],outs:=[.agg [.num,.int .u64,.num]],pre:=fun _=>True,sem:=fun _=>[bP,lowP,sqP] }
def kFNeg (f:FuncId):K:={fn:=f,ext:=false,ins:=[iF,iN],outs:=[oN],pre:=fun | [n,_,_,a]=>a<n | _=>False,sem:=fun | [n,_,_,a]=>[(-a)%n] | _=>[] }
def kFSub (f:FuncId):K:={fn:=f,ext:=false,ins:=[iF,iN,iN],outs:=[oN],pre:=fun | [n,_,_,a,b]=>n<2^382/\a<n/\b<n | _=>False,sem:=fun | [n,_,_,a,b]=>[(a-b)%n] | _=>[] }
def kRAdd2 (f:FuncId):K:={fn:=f,ext:=false,ins:=[iE2,iE2],outs:=[oE2],pre:=fun | [a,b,c,d]=>a<bP/\b<bP/\c<bP/\d<bP | _=>False,sem:=fun | [a,b,c,d]=>[(a+c)%bP,(b+d)%bP] | _=>[] }
def kRSub2 (f:FuncId):K:={fn:=f,ext:=false,ins:=[iE2,iE2],outs:=[oE2],pre:=fun | [a,b,c,d]=>a<bP/\b<bP/\c<bP/\d<bP | _=>False,sem:=fun | [a,b,c,d]=>[(a-c)%bP,(b-d)%bP] | _=>[] }
def kRMul2 (f:FuncId):K:={fn:=f,ext:=false,ins:=[iE2,iE2],outs:=[oE2],pre:=fun | [a,b,c,d]=>a<bP/\b<bP/\c<bP/\d<bP | _=>False,sem:=fun | [a,b,c,d]=>[(a*c-b*d)%bP,(a*d+b*c)%bP] | _=>[] }
def kRNeg2 (f:FuncId):K:={fn:=f,ext:=false,ins:=[iE2],outs:=[oE2],pre:=fun | [a,b]=>a<bP/\b<bP | _=>False,sem:=fun | [a,b]=>[(-a)%bP,(-b)%bP] | _=>[] }
def nrm (a b:Int):Int:=(a*a+b*b)^(bP-2).toNat
def kRInv2 (f:FuncId):K:={fn:=f,ext:=false,ins:=[iE2],outs:=[oE2],pre:=fun | [a,b]=>a<bP/\b<bP | _=>False,sem:=fun | [a,b]=>[a*nrm a b%bP,(-(b*nrm a b))%bP] | _=>[] }
theorem M_self {a:Int} (h0:0<=a) (h1:a<bP):a=a%bP:=(Int.emod_eq_of_lt h0 h1).symm
theorem M_lt {a A:Int} (h:a=A%bP):a<bP:=by rw [h];exact (md_lt bP_pos).2
theorem M_mm {a A:Int} (h:a=A%bP):a%bP=A%bP:=by rw [h];exact Int.emod_emod_of_dvd _ (Int.dvd_refl _)
theorem mdE_neg {p a A:Int} (h:a%p=A%p):(-a)%p=(-A)%p:=by
 rw [<- Int.zero_sub a,<- Int.zero_sub A];exact mdE_sub rfl h
theorem M_add {v a b A B:Int} (h:v=(a+b)%bP) (ha:a=A%bP) (hb:b=B%bP):v=(A+B)%bP:=h.trans (mdE_add (M_mm ha) (M_mm hb))
theorem M_sub {v a b A B:Int} (h:v=(a-b)%bP) (ha:a=A%bP) (hb:b=B%bP):v=(A-B)%bP:=h.trans (mdE_sub (M_mm ha) (M_mm hb))
theorem M_mul {v a b A B:Int} (h:v=a*b%bP) (ha:a=A%bP) (hb:b=B%bP):v=A*B%bP:=h.trans (mdE_mul (M_mm ha) (M_mm hb))
theorem M_neg {v a A:Int} (h:v=(-a)%bP) (ha:a=A%bP):v=(-A)%bP:=h.trans (mdE_neg (M_mm ha))
theorem M_pow {v a A:Int} {n:Nat} (h:v=a^n%bP) (ha:a=A%bP):v=A^n%bP:=h.trans (mdE_pow (M_mm ha) n)
theorem F_add {n v a b A B:Int} (hn:n=bP) (h:v=(a+b)%n) (ha:a=A%bP) (hb:b=B%bP):v=(A+B)%bP:=M_add (h.trans (by rw [hn])) ha hb
theorem F_sub {n v a b A B:Int} (hn:n=bP) (h:v=(a-b)%n) (ha:a=A%bP) (hb:b=B%bP):v=(A-B)%bP:=M_sub (h.trans (by rw [hn])) ha hb
theorem F_mul {n v a b A B:Int} (hn:n=bP) (h:v=a*b%n) (ha:a=A%bP) (hb:b=B%bP):v=A*B%bP:=M_mul (h.trans (by rw [hn])) ha hb
theorem F_neg {n v a A:Int} (hn:n=bP) (h:v=(-a)%n) (ha:a=A%bP):v=(-A)%bP:=M_neg (h.trans (by rw [hn])) ha
theorem F_inv {n v a A:Int} (hn:n=bP) (h:v=a^(n-2).toNat%n) (ha:a=A%bP):v=A^(bP-2).toNat%bP:=M_pow (h.trans (by rw [hn])) ha
theorem F_382 {n:Int} (hn:n=bP):n<2^382:=by rw [hn];exact bP_382
theorem F_lt {n a A:Int} (hn:n=bP) (h:a=A%bP):a<n:=by rw [hn];exact M_lt h
theorem F_good {n l w:Int} (hn:n=bP) (hl:l=lowP) (hw:w=sqP):mGood n l w:=by rw [hn,hl,hw];exact goodP
def tRP:Tree:=(.ret [.lit 4002409555221667393417789825735904156556882819939007885332058136124031650490837864442687629129015664037894272559787,.lit 9940570264628428797,.lit 2708263910654730174793787626328176511836455197166317677006154293982164122222515399004018013397331347120527951271750])
theorem law_rP (f:FuncId) (e:Nat->Int):tRP.says [] ⟨fun ys=>ys=(kRP f).sem [],[]⟩ e:=by
 show [_,_,_]=[bP,lowP,sqP]
 rfl
def tFNeg:Tree:=(.lett 4 .bit (.eqs [((.limb 3 0),(.lit 0)),((.limb 3 1),(.lit 0)),((.limb 3 2),(.lit 0)),((.limb 3 3),(.lit 0)),((.limb 3 4),(.lit 0)),((.limb 3 5),(.lit 0))])
(.split 4
(.ret [.var 3])
(.req 0 [.var 0,.var 3]
(.lett 5 .num (.app 0 0 [.var 0,.var 3])
(.lett 6 .bit (.app 0 1 [.var 0,.var 3])
(.ret [.var 5]))))))
theorem law_fNeg (f1 f:FuncId) (e:Nat->Int) (hk:kkHas [.num,.int .u64,.num,.num] [e 0,e 1,e 2,e 3]) (hp:(kFNeg f).pre [e 0,e 1,e 2,e 3]):tFNeg.says [kWSub f1] ⟨fun ys=>ys=(kFNeg f).sem [e 0,e 1,e 2,e 3],[]⟩ e:=by
 have hp:e 3<e 0:=hp
 obtain ⟨h0,_,_,h3,_⟩:=hk
 have h0:0<=e 0/\e 0<N384:=h0
 have k3:0<=e 3/\e 3<N384:=h3
 show tFNeg.says _ ⟨fun ys=>ys=[(-e 3)%e 0],[]⟩ e
 intro a4 k4
 have b4:=c_num0 a4 k3
 clear a4 k4
 refine ⟨fun h=>?_,fun h=>?_⟩
 ·have c4:=h
  have z1:=b_yes b4 c4
  show [e 3]=_
  rw [z1];simp
 ·have c4:=h
  have z1:=b_no b4 c4
  refine ⟨trivial,?_⟩
  intro a5 k5
  have s5:e 5=((kWSub f1).sem [e 0,e 3]).getD 0 0:=a5
  clear a5 k5
  have v5:e 5=(e 0-e 3)%N384:=s5
  intro a6 k6
  have s6:e 6=((kWSub f1).sem [e 0,e 3]).getD 1 0:=a6
  clear a6 k6
  clear s5 s6
  show [e 5]=_
  rw [v5,Int.emod_eq_of_lt (by omega) (by omega)]
  rw [md_eq (x:=-e 3) (n:=e 0) (r:=e 0-e 3) (-1) (by omega) (by omega) (by omega)]
def tFSub:Tree:=(.req 1 [.var 0,.var 1,.var 2,.var 4]
(.lett 197 .num (.app 1 0 [.var 0,.var 1,.var 2,.var 4])
(.req 0 [.var 0,.var 1,.var 2,.var 3,.var 197]
(.lett 245 .num (.app 0 0 [.var 0,.var 1,.var 2,.var 3,.var 197])
(.ret [.var 245])))))
theorem law_fSub (f1 f2 f:FuncId) (e:Nat->Int) (hk:kkHas [.num,.int .u64,.num,.num,.num] [e 0,e 1,e 2,e 3,e 4]) (hp:(kFSub f).pre [e 0,e 1,e 2,e 3,e 4]):tFSub.says [kFAdd f1,kFNeg f2] ⟨fun ys=>ys=(kFSub f).sem [e 0,e 1,e 2,e 3,e 4],[]⟩ e:=by
 obtain ⟨p0,p1,p2⟩:e 0<2^382/\e 3<e 0/\e 4<e 0:=hp
 obtain ⟨h0,_,_,h3,h4,_⟩:=hk
 have h4:0<=e 4/\e 4<N384:=h4
 have hn:0<e 0:=by omega
 show tFSub.says _ ⟨fun ys=>ys=[(e 3-e 4)%e 0],[]⟩ e
 refine ⟨p2,?_⟩
 intro a197 k197
 have s197:e 197=((kFNeg f2).sem [e 0,e 1,e 2,e 4]).getD 0 0:=a197
 clear a197 k197
 have v197:e 197=(-e 4)%e 0:=s197
 clear s197
 refine ⟨⟨p0,p1,(show e 197<e 0 by rw [v197];exact Int.emod_lt_of_pos _ hn)⟩,?_⟩
 intro a245 k245
 have s245:e 245=((kFAdd f1).sem [e 0,e 1,e 2,e 3,e 197]).getD 0 0:=a245
 clear a245 k245
 have v245:e 245=(e 3+e 197)%e 0:=s245
 clear s245
 show [e 245]=_
 rw [v245,v197,Int.add_emod,Int.emod_emod_of_dvd _ (Int.dvd_refl _),<- Int.add_emod];rfl
def tRAdd2:Tree:=(.req 0 []
(.lett 4 .num (.app 0 0 [])
(.lett 5 (.int .u64) (.app 0 1 [])
(.lett 6 .num (.app 0 2 [])
(.req 1 [.var 4,.var 5,.var 6,.var 0,.var 2]
(.lett 247 .num (.app 1 0 [.var 4,.var 5,.var 6,.var 0,.var 2])
(.req 1 [.var 4,.var 5,.var 6,.var 1,.var 3]
(.lett 535 .num (.app 1 0 [.var 4,.var 5,.var 6,.var 1,.var 3])
(.ret [.var 247,.var 535])))))))))
theorem law_rAdd2 (f1 f2 f:FuncId) (e:Nat->Int) (hk:kkHas [.num,.num,.num,.num] [e 0,e 1,e 2,e 3]) (hp:(kRAdd2 f).pre [e 0,e 1,e 2,e 3]):tRAdd2.says [kRP f1,kFAdd f2] ⟨fun ys=>ys=(kRAdd2 f).sem [e 0,e 1,e 2,e 3],[]⟩ e:=by
 obtain ⟨u0,u1,u2,u3⟩:e 0<bP/\e 1<bP/\e 2<bP/\e 3<bP:=hp
 obtain ⟨h0,h1,h2,h3,_⟩:=hk
 have q0:=M_self h0.1 u0
 have q1:=M_self h1.1 u1
 have q2:=M_self h2.1 u2
 have q3:=M_self h3.1 u3
 clear u0 h0 u1 h1 u2 h2 u3 h3
 show tRAdd2.says _ ⟨fun ys=>ys=[(e 0+e 2)%bP,(e 1+e 3)%bP],[]⟩ e
 refine ⟨trivial,?_⟩
 intro a4 k4
 have q4:=(show e 4=bP from a4)
 clear a4 k4
 intro a5 k5
 have q5:=(show e 5=lowP from a5)
 clear a5 k5
 intro a6 k6
 have q6:=(show e 6=sqP from a6)
 clear a6 k6
 refine ⟨⟨F_382 q4,F_lt q4 q0,F_lt q4 q2⟩,?_⟩
 intro a247 k247
 have q247:=F_add q4 (show e 247=((e 0)+(e 2))%(e 4) from a247) q0 q2
 clear a247 k247
 refine ⟨⟨F_382 q4,F_lt q4 q1,F_lt q4 q3⟩,?_⟩
 intro a535 k535
 have q535:=F_add q4 (show e 535=((e 1)+(e 3))%(e 4) from a535) q1 q3
 clear a535 k535
 show [e 247,e 535]=_
 rw [q247,q535]
 all_goals rfl
def tRMul2:Tree:=(.req 0 []
(.lett 4 .num (.app 0 0 [])
(.lett 5 (.int .u64) (.app 0 1 [])
(.lett 6 .num (.app 0 2 [])
(.req 3 [.var 4,.var 5,.var 6,.var 0,.var 2]
(.lett 295 .num (.app 3 0 [.var 4,.var 5,.var 6,.var 0,.var 2])
(.req 3 [.var 4,.var 5,.var 6,.var 1,.var 3]
(.lett 583 .num (.app 3 0 [.var 4,.var 5,.var 6,.var 1,.var 3])
(.req 2 [.var 4,.var 5,.var 6,.var 295,.var 583]
(.lett 631 .num (.app 2 0 [.var 4,.var 5,.var 6,.var 295,.var 583])
(.req 3 [.var 4,.var 5,.var 6,.var 0,.var 3]
(.lett 1111 .num (.app 3 0 [.var 4,.var 5,.var 6,.var 0,.var 3])
(.req 3 [.var 4,.var 5,.var 6,.var 1,.var 2]
(.lett 1399 .num (.app 3 0 [.var 4,.var 5,.var 6,.var 1,.var 2])
(.req 1 [.var 4,.var 5,.var 6,.var 1111,.var 1399]
(.lett 1447 .num (.app 1 0 [.var 4,.var 5,.var 6,.var 1111,.var 1399])
(.ret [.var 631,.var 1447])))))))))))))))))
theorem law_rMul2 (f1 f2 f3 f4 f:FuncId) (e:Nat->Int) (hk:kkHas [.num,.num,.num,.num] [e 0,e 1,e 2,e 3]) (hp:(kRMul2 f).pre [e 0,e 1,e 2,e 3]):tRMul2.says [kRP f1,kFAdd f2,kFSub f3,kFMul f4] ⟨fun ys=>ys=(kRMul2 f).sem [e 0,e 1,e 2,e 3],[]⟩ e:=by
 obtain ⟨u0,u1,u2,u3⟩:e 0<bP/\e 1<bP/\e 2<bP/\e 3<bP:=hp
 obtain ⟨h0,h1,h2,h3,_⟩:=hk
 have q0:=M_self h0.1 u0
 have q1:=M_self h1.1 u1
 have q2:=M_self h2.1 u2
 have q3:=M_self h3.1 u3
 clear u0 h0 u1 h1 u2 h2 u3 h3
 show tRMul2.says _ ⟨fun ys=>ys=[(e 0*e 2-e 1*e 3)%bP,(e 0*e 3+e 1*e 2)%bP],[]⟩ e
 refine ⟨trivial,?_⟩
 intro a4 k4
 have q4:=(show e 4=bP from a4)
 clear a4 k4
 intro a5 k5
 have q5:=(show e 5=lowP from a5)
 clear a5 k5
 intro a6 k6
 have q6:=(show e 6=sqP from a6)
 clear a6 k6
 refine ⟨⟨F_good q4 q5 q6,Or.inl (F_lt q4 q0)⟩,?_⟩
 intro a295 k295
 have q295:=F_mul q4 (show e 295=(e 0)*(e 2)%(e 4) from a295) q0 q2
 clear a295 k295
 refine ⟨⟨F_good q4 q5 q6,Or.inl (F_lt q4 q1)⟩,?_⟩
 intro a583 k583
 have q583:=F_mul q4 (show e 583=(e 1)*(e 3)%(e 4) from a583) q1 q3
 clear a583 k583
 refine ⟨⟨F_382 q4,F_lt q4 q295,F_lt q4 q583⟩,?_⟩
 intro a631 k631
 have q631:=F_sub q4 (show e 631=((e 295)-(e 583))%(e 4) from a631) q295 q583
 clear a631 k631
 refine ⟨⟨F_good q4 q5 q6,Or.inl (F_lt q4 q0)⟩,?_⟩
 intro a1111 k1111
 have q1111:=F_mul q4 (show e 1111=(e 0)*(e 3)%(e 4) from a1111) q0 q3
 clear a1111 k1111
 refine ⟨⟨F_good q4 q5 q6,Or.inl (F_lt q4 q1)⟩,?_⟩
 intro a1399 k1399
 have q1399:=F_mul q4 (show e 1399=(e 1)*(e 2)%(e 4) from a1399) q1 q2
 clear a1399 k1399
 refine ⟨⟨F_382 q4,F_lt q4 q1111,F_lt q4 q1399⟩,?_⟩
 intro a1447 k1447
 have q1447:=F_add q4 (show e 1447=((e 1111)+(e 1399))%(e 4) from a1447) q1111 q1399
 clear a1447 k1447
 show [e 631,e 1447]=_
 rw [q631,q1447]
 all_goals rfl
def tRNeg2:Tree:=(.req 0 []
(.lett 2 .num (.app 0 0 [])
(.lett 3 (.int .u64) (.app 0 1 [])
(.lett 4 .num (.app 0 2 [])
(.req 1 [.var 2,.var 3,.var 4,.var 0]
(.lett 149 .num (.app 1 0 [.var 2,.var 3,.var 4,.var 0])
(.req 1 [.var 2,.var 3,.var 4,.var 1]
(.lett 341 .num (.app 1 0 [.var 2,.var 3,.var 4,.var 1])
(.ret [.var 149,.var 341])))))))))
theorem law_rNeg2 (f1 f2 f:FuncId) (e:Nat->Int) (hk:kkHas [.num,.num] [e 0,e 1]) (hp:(kRNeg2 f).pre [e 0,e 1]):tRNeg2.says [kRP f1,kFNeg f2] ⟨fun ys=>ys=(kRNeg2 f).sem [e 0,e 1],[]⟩ e:=by
 obtain ⟨u0,u1⟩:e 0<bP/\e 1<bP:=hp
 obtain ⟨h0,h1,_⟩:=hk
 have q0:=M_self h0.1 u0
 have q1:=M_self h1.1 u1
 clear u0 h0 u1 h1
 show tRNeg2.says _ ⟨fun ys=>ys=[(-e 0)%bP,(-e 1)%bP],[]⟩ e
 refine ⟨trivial,?_⟩
 intro a2 k2
 have q2:=(show e 2=bP from a2)
 clear a2 k2
 intro a3 k3
 have q3:=(show e 3=lowP from a3)
 clear a3 k3
 intro a4 k4
 have q4:=(show e 4=sqP from a4)
 clear a4 k4
 refine ⟨F_lt q2 q0,?_⟩
 intro a149 k149
 have q149:=F_neg q2 (show e 149=(-(e 0))%(e 2) from a149) q0
 clear a149 k149
 refine ⟨F_lt q2 q1,?_⟩
 intro a341 k341
 have q341:=F_neg q2 (show e 341=(-(e 1))%(e 2) from a341) q1
 clear a341 k341
 show [e 149,e 341]=_
 rw [q149,q341]
 all_goals rfl
def tRSub2:Tree:=(.req 1 [.var 2,.var 3]
(.lett 100 .num (.app 1 0 [.var 2,.var 3])
(.lett 101 .num (.app 1 1 [.var 2,.var 3])
(.req 0 [.var 0,.var 1,.var 100,.var 101]
(.lett 148 .num (.app 0 0 [.var 0,.var 1,.var 100,.var 101])
(.lett 149 .num (.app 0 1 [.var 0,.var 1,.var 100,.var 101])
(.ret [.var 148,.var 149])))))))
theorem law_rSub2 (f1 f2 f:FuncId) (e:Nat->Int) (hk:kkHas [.num,.num,.num,.num] [e 0,e 1,e 2,e 3]) (hp:(kRSub2 f).pre [e 0,e 1,e 2,e 3]):tRSub2.says [kRAdd2 f1,kRNeg2 f2] ⟨fun ys=>ys=(kRSub2 f).sem [e 0,e 1,e 2,e 3],[]⟩ e:=by
 obtain ⟨u0,u1,u2,u3⟩:e 0<bP/\e 1<bP/\e 2<bP/\e 3<bP:=hp
 obtain ⟨h0,h1,h2,h3,_⟩:=hk
 have q0:=M_self h0.1 u0
 have q1:=M_self h1.1 u1
 have q2:=M_self h2.1 u2
 have q3:=M_self h3.1 u3
 clear u0 h0 u1 h1 u2 h2 u3 h3
 show tRSub2.says _ ⟨fun ys=>ys=[(e 0-e 2)%bP,(e 1-e 3)%bP],[]⟩ e
 refine ⟨⟨M_lt q2,M_lt q3⟩,?_⟩
 intro a100 k100
 have q100:=M_neg (show e 100=(-(e 2))%bP from a100) q2
 clear a100 k100
 intro a101 k101
 have q101:=M_neg (show e 101=(-(e 3))%bP from a101) q3
 clear a101 k101
 refine ⟨⟨M_lt q0,M_lt q1,M_lt q100,M_lt q101⟩,?_⟩
 intro a148 k148
 have q148:=M_add (show e 148=((e 0)+(e 100))%bP from a148) q0 q100
 clear a148 k148
 intro a149 k149
 have q149:=M_add (show e 149=((e 1)+(e 101))%bP from a149) q1 q101
 clear a149 k149
 show [e 148,e 149]=_
 rw [q148,q149]
 all_goals rfl
def tRInv2:Tree:=(.req 0 []
(.lett 2 .num (.app 0 0 [])
(.lett 3 (.int .u64) (.app 0 1 [])
(.lett 4 .num (.app 0 2 [])
(.req 2 [.var 2,.var 3,.var 4,.var 0,.var 0]
(.lett 341 .num (.app 2 0 [.var 2,.var 3,.var 4,.var 0,.var 0])
(.req 2 [.var 2,.var 3,.var 4,.var 1,.var 1]
(.lett 629 .num (.app 2 0 [.var 2,.var 3,.var 4,.var 1,.var 1])
(.req 1 [.var 2,.var 3,.var 4,.var 341,.var 629]
(.lett 677 .num (.app 1 0 [.var 2,.var 3,.var 4,.var 341,.var 629])
(.req 4 [.var 2,.var 3,.var 4,.var 677]
(.lett 725 .num (.app 4 0 [.var 2,.var 3,.var 4,.var 677])
(.req 2 [.var 2,.var 3,.var 4,.var 0,.var 725]
(.lett 1061 .num (.app 2 0 [.var 2,.var 3,.var 4,.var 0,.var 725])
(.req 2 [.var 2,.var 3,.var 4,.var 1,.var 725]
(.lett 1349 .num (.app 2 0 [.var 2,.var 3,.var 4,.var 1,.var 725])
(.req 3 [.var 2,.var 3,.var 4,.var 1349]
(.lett 1397 .num (.app 3 0 [.var 2,.var 3,.var 4,.var 1349])
(.ret [.var 1061,.var 1397])))))))))))))))))))
theorem law_rInv2 (f1 f2 f3 f4 f5 f:FuncId) (e:Nat->Int) (hk:kkHas [.num,.num] [e 0,e 1]) (hp:(kRInv2 f).pre [e 0,e 1]):tRInv2.says [kRP f1,kFAdd f2,kFMul f3,kFNeg f4,kFInv f5] ⟨fun ys=>ys=(kRInv2 f).sem [e 0,e 1],[]⟩ e:=by
 obtain ⟨u0,u1⟩:e 0<bP/\e 1<bP:=hp
 obtain ⟨h0,h1,_⟩:=hk
 have q0:=M_self h0.1 u0
 have q1:=M_self h1.1 u1
 clear u0 h0 u1 h1
 show tRInv2.says _ ⟨fun ys=>ys=[e 0*nrm (e 0) (e 1)%bP,(-(e 1*nrm (e 0) (e 1)))%bP],[]⟩ e
 refine ⟨trivial,?_⟩
 intro a2 k2
 have q2:=(show e 2=bP from a2)
 clear a2 k2
 intro a3 k3
 have q3:=(show e 3=lowP from a3)
 clear a3 k3
 intro a4 k4
 have q4:=(show e 4=sqP from a4)
 clear a4 k4
 refine ⟨⟨F_good q2 q3 q4,Or.inl (F_lt q2 q0)⟩,?_⟩
 intro a341 k341
 have q341:=F_mul q2 (show e 341=(e 0)*(e 0)%(e 2) from a341) q0 q0
 clear a341 k341
 refine ⟨⟨F_good q2 q3 q4,Or.inl (F_lt q2 q1)⟩,?_⟩
 intro a629 k629
 have q629:=F_mul q2 (show e 629=(e 1)*(e 1)%(e 2) from a629) q1 q1
 clear a629 k629
 refine ⟨⟨F_382 q2,F_lt q2 q341,F_lt q2 q629⟩,?_⟩
 intro a677 k677
 have q677:=F_add q2 (show e 677=((e 341)+(e 629))%(e 2) from a677) q341 q629
 clear a677 k677
 refine ⟨⟨F_good q2 q3 q4,F_lt q2 q677⟩,?_⟩
 intro a725 k725
 have q725:=F_inv q2 (show e 725=(e 677)^((e 2)-2).toNat%(e 2) from a725) q677
 clear a725 k725
 refine ⟨⟨F_good q2 q3 q4,Or.inl (F_lt q2 q0)⟩,?_⟩
 intro a1061 k1061
 have q1061:=F_mul q2 (show e 1061=(e 0)*(e 725)%(e 2) from a1061) q0 q725
 clear a1061 k1061
 refine ⟨⟨F_good q2 q3 q4,Or.inl (F_lt q2 q1)⟩,?_⟩
 intro a1349 k1349
 have q1349:=F_mul q2 (show e 1349=(e 1)*(e 725)%(e 2) from a1349) q1 q725
 clear a1349 k1349
 refine ⟨F_lt q2 q1349,?_⟩
 intro a1397 k1397
 have q1397:=F_neg q2 (show e 1397=(-(e 1349))%(e 2) from a1397) q1349
 clear a1397 k1397
 show [e 1061,e 1397]=_
 rw [q1061,q1397]
 all_goals rfl
abbrev E2:Type:=Int×Int
def RT (o:Int):Rg E2:=⟨fun a b=>(a.1+b.1,a.2+b.2),fun a b=>(a.1-b.1,a.2-b.2),fun a b=>if o=0 then (a.1*b.1-a.2*b.2,a.1*b.2+a.2*b.1) else (a.1*b.1,0),(1,0),(0,0),fun a=>a.1%bP==0&&a.2%bP==0,fun a=>(a.1%bP,a.2%bP)⟩
def PQ (x y:Int) (Y:E2):Prop:=x=Y.1%bP/\y=Y.2%bP
theorem PQ.l1 {x y:Int} {Y:E2} (h:PQ x y Y):x<bP:=M_lt h.1
theorem PQ.l2 {x y:Int} {Y:E2} (h:PQ x y Y):y<bP:=M_lt h.2
theorem PQ_self {x y:Int} (h0:0<=x) (h1:x<bP) (k0:0<=y) (k1:y<bP):PQ x y (x,y):=⟨M_self h0 h1,M_self k0 k1⟩
theorem PQ_sub {x y a b c d:Int} {A C:E2} (o:Int) (h:x=(a-c)%bP) (k:y=(b-d)%bP) (ha:PQ a b A) (hc:PQ c d C):PQ x y ((RT o).sub A C):=⟨M_sub h ha.1 hc.1,M_sub k ha.2 hc.2⟩
def tmV (o a b c d:Int):List Int:=if o=0 then [(a*c-b*d)%bP,(a*d+b*c)%bP] else [a*c%bP,0]
theorem PQ_mul {o x y a b c d:Int} {A C:E2} (h:x=(tmV o a b c d).getD 0 0) (k:y=(tmV o a b c d).getD 1 0) (ha:PQ a b A) (hc:PQ c d C):PQ x y ((RT o).mul A C):=by
 unfold tmV at h k
 by_cases ho:o=0
 ·rw [if_pos ho] at h k
  have hm:(RT o).mul A C=(A.1*C.1-A.2*C.2,A.1*C.2+A.2*C.1):=if_pos ho
  rw [hm]
  have h:x=(a*c-b*d)%bP:=h
  have k:y=(a*d+b*c)%bP:=k
  exact ⟨h.trans (mdE_sub (mdE_mul (M_mm ha.1) (M_mm hc.1)) (mdE_mul (M_mm ha.2) (M_mm hc.2))),k.trans (mdE_add (mdE_mul (M_mm ha.1) (M_mm hc.2)) (mdE_mul (M_mm ha.2) (M_mm hc.1)))⟩
 ·rw [if_neg ho] at h k
  have hm:(RT o).mul A C=(A.1*C.1,0):=if_neg ho
  rw [hm]
  have h:x=a*c%bP:=h
  have k:y=0:=k
  exact ⟨h.trans (mdE_mul (M_mm ha.1) (M_mm hc.1)),k⟩
def Kk (k:Int) (F:Int->Int):Prop:=∀ x,k*x=F x
theorem k_2:Kk 2 (fun x=>x+x):=fun x=>by show 2*x=x+x;omega
theorem k_3:Kk 3 (fun x=>x+x+x):=fun x=>by show 3*x=x+x+x;omega
theorem k_4:Kk 4 (fun x=>x+x+(x+x)):=fun x=>by show 4*x=x+x+(x+x);omega
theorem k_8:Kk 8 (fun x=>x+x+(x+x)+(x+x+(x+x))):=fun x=>by show 8*x=x+x+(x+x)+(x+x+(x+x));omega
theorem PQ_k {x y a b n:Int} {A:E2} (h:x=n*a%bP) (k:y=n*b%bP) (ha:PQ a b A):PQ x y (n*A.1,n*A.2):=⟨M_mul' h ha.1,M_mul' k ha.2⟩
where M_mul' {v a A:Int} (h:v=n*a%bP) (ha:a=A%bP):v=n*A%bP:=h.trans (mdE_mul rfl (M_mm ha))
theorem PQ_2 {x y a b:Int} {A:E2} (o:Int) (h:x=2*a%bP) (k:y=2*b%bP) (ha:PQ a b A):PQ x y ((RT o).add A A):=by
 have:=PQ_k h k ha
 rw [k_2 A.1,k_2 A.2] at this;exact this
theorem PQ_3 {x y a b:Int} {A:E2} (o:Int) (h:x=3*a%bP) (k:y=3*b%bP) (ha:PQ a b A):PQ x y ((RT o).add ((RT o).add A A) A):=by
 have:=PQ_k h k ha
 rw [k_3 A.1,k_3 A.2] at this;exact this
theorem PQ_4 {x y a b:Int} {A:E2} (o:Int) (h:x=4*a%bP) (k:y=4*b%bP) (ha:PQ a b A):PQ x y ((RT o).add ((RT o).add A A) ((RT o).add A A)):=by
 have:=PQ_k h k ha
 rw [k_4 A.1,k_4 A.2] at this;exact this
theorem PQ_8 {x y a b:Int} {A:E2} (o:Int) (h:x=8*a%bP) (k:y=8*b%bP) (ha:PQ a b A):PQ x y ((RT o).add ((RT o).add ((RT o).add A A) ((RT o).add A A)) ((RT o).add ((RT o).add A A) ((RT o).add A A))):=by
 have:=PQ_k h k ha
 rw [k_8 A.1,k_8 A.2] at this;exact this
theorem q_2:(0:Int)<=2:=by decide
theorem q_3:(0:Int)<=3:=by decide
theorem q_4:(0:Int)<=4:=by decide
theorem q_8:(0:Int)<=8:=by decide
section
variable {α:Type}
def zJ (R:Rg α):J α:=⟨R.zero,R.zero,R.zero⟩
def dblT (R:Rg α) (P:J α):J α:=if R.isz P.z=true∨R.isz P.y=true then zJ R else dblJ R P
theorem dblT_z {R:Rg α} {P:J α} (h:R.isz P.z=true∨R.isz P.y=true):dblT R P=zJ R:=if_pos h
theorem dblT_n {R:Rg α} {P:J α} (h:¬ R.isz P.z=true) (k:¬ R.isz P.y=true):dblT R P=dblJ R P:=if_neg (fun x=>x.elim h k)
def adT (R:Rg α) (t u:J α):J α :=
 let zz:=R.mul t.z t.z
 let ux:=R.mul u.x zz
 let uy:=R.mul u.y (R.mul zz t.z)
 let h:=R.sub ux t.x
 let k:=R.sub uy t.y
 let hh:=R.mul h h
 let hhh:=R.mul hh h
 let v:=R.mul t.x hh
 let x:=R.sub (R.sub (R.mul k k) hhh) (R.add v v)
 ⟨x,R.sub (R.mul k (R.sub v x)) (R.mul t.y hhh),R.mul t.z h⟩
def hT (R:Rg α) (t u:J α):α:=R.sub (R.mul u.x (R.mul t.z t.z)) t.x
def kTJ (R:Rg α) (t u:J α):α:=R.sub (R.mul u.y (R.mul (R.mul t.z t.z) t.z)) t.y
def addT (R:Rg α) (t u:J α):J α:=if R.isz t.z=true then u else if R.isz (hT R t u)=true then (if R.isz (kTJ R t u)=true then dblT R t else zJ R) else adT R t u
end
def J.l2 (P:J E2):List Int:=[P.x.1%bP,P.x.2%bP,P.y.1%bP,P.y.2%bP,P.z.1%bP,P.z.2%bP]
def of2 (a b c d x y:Int):J E2:=⟨(a,b),(c,d),(x,y)⟩
theorem T_z {o x y:Int} {Y:E2} (h:PQ x y Y) (k:x=0/\y=0):(RT o).isz Y=true:=by
 show (Y.1%bP==0&&Y.2%bP==0)=true
 rw [<- h.1,<- h.2,k.1,k.2];rfl
theorem T_nz {o x y:Int} {Y:E2} (h:PQ x y Y) (k:¬ (x=0/\y=0)):¬ (RT o).isz Y=true:=by
 show ¬ (Y.1%bP==0&&Y.2%bP==0)=true
 rw [<- h.1,<- h.2,Bool.and_eq_true,beq_iff_eq,beq_iff_eq];exact k
theorem c_num00 {e:Nat->Int} {v:Int} {i j:Nat} (h:v=(D.eqs [(.limb i 0,.lit 0),(.limb i 1,.lit 0),(.limb i 2,.lit 0),(.limb i 3,.lit 0),(.limb i 4,.lit 0),(.limb i 5,.lit 0),(.limb j 0,.lit 0),(.limb j 1,.lit 0),(.limb j 2,.lit 0),(.limb j 3,.lit 0),(.limb j 4,.lit 0),(.limb j 5,.lit 0)]).ev [] e) (hi:0<=e i/\e i<N384) (hj:0<=e j/\e j<N384):(v=1/\(e i=0/\e j=0))∨(v=0/\¬ (e i=0/\e j=0)):=by
 simp only [D.ev,List.all_cons,List.all_nil,ev_limb,ev_lit,Bool.and_true,b2i_bi,Bool.and_eq_true,beq_iff_eq] at h
 by_cases hc:e i=0/\e j=0
 ·left;rw [hc.1,hc.2] at h;simp [lim] at h;exact ⟨h,hc⟩
 ·right
  rw [if_neg (fun hh=>hc (by have:=lim_eq hi;have:=lim_eq hj;omega))] at h
  exact ⟨h,hc⟩
abbrev lsT:List L:=[.num,.num,.num,.num,.num,.num,.bool]
def kT (f:FuncId):K:={fn:=f,ext:=false,ins:=[iE2,iI],outs:=[oE2],pre:=fun | [a,b,n]=>(a<bP/\b<bP)/\0<=n | _=>False,sem:=fun | [a,b,n]=>[n*a%bP,n*b%bP] | _=>[] }
def kTMul (f:FuncId):K:={fn:=f,ext:=false,ins:=[.agg lsT,iE2,iE2],outs:=[oE2],pre:=fun | [_,_,_,_,_,_,_,a,b,c,d]=>a<bP/\b<bP/\c<bP/\d<bP | _=>False,sem:=fun | [_,_,_,_,_,_,o,a,b,c,d]=>tmV o a b c d | _=>[] }
def kTDbl (f:FuncId):K:={fn:=f,ext:=false,ins:=[.agg lsT],outs:=[.agg lsT],pre:=fun | [a,b,c,d,x,y,_]=>(a<bP/\b<bP)/\(c<bP/\d<bP)/\(x<bP/\y<bP) | _=>False,sem:=fun | [a,b,c,d,x,y,o]=>(dblT (RT o) (of2 a b c d x y)).l2++[o] | _=>[] }
def kTAdd (f:FuncId):K:={fn:=f,ext:=false,ins:=[.agg lsT,.agg lsT],outs:=[.agg lsT],pre:=fun | [a,b,c,d,x,y,o,a',b',c',d',x',y',o']=>o'=o/\((a<bP/\b<bP)/\(c<bP/\d<bP)/\(x<bP/\y<bP))/\(a'<bP/\b'<bP)/\(c'<bP/\d'<bP)/\(x'<bP/\y'<bP) | _=>False,sem:=fun | [a,b,c,d,x,y,o,a',b',c',d',x',y',_]=>(addT (RT o) (of2 a b c d x y) (of2 a' b' c' d' x' y')).l2++[o] | _=>[] }
def tT:Tree:=(.loop [.var 2,.lit 0,.lit 0] [(.int .i64),.num,.num] 3
(.lett 6 .bit (.cmp .gtr (.var 3) (.lit 0))
(.split 6
(.req 0 [.var 4,.var 5,.var 0,.var 1]
(.lett 7 .num (.app 0 0 [.var 4,.var 5,.var 0,.var 1])
(.lett 8 .num (.app 0 1 [.var 4,.var 5,.var 0,.var 1])
(.lett 9 (.int .i64) (.bin .sub .i64 (.var 3) (.lit 1))
(.back 0 [.var 9,.var 7,.var 8])))))
(.ret [.var 4,.var 5]))))
theorem law_tT (f1 f:FuncId) (e:Nat->Int) (hk:kkHas [.num,.num,.int .i64] [e 0,e 1,e 2]) (hp:(kT f).pre [e 0,e 1,e 2]):tT.says [kRAdd2 f1] ⟨fun ys=>ys=(kT f).sem [e 0,e 1,e 2],[]⟩ e:=by
 obtain ⟨⟨u0,u1⟩,hn⟩:(e 0<bP/\e 1<bP)/\0<=e 2:=hp
 obtain ⟨h0,h1,h2,_⟩:=hk
 have q0:=M_self h0.1 u0
 have q1:=M_self h1.1 u1
 have h2:-9223372036854775808<=e 2/\e 2<=9223372036854775807:=h2
 clear u0 u1 h0 h1
 show tT.says _ ⟨fun ys=>ys=[e 2*e 0%bP,e 2*e 1%bP],[]⟩ e
 refine ⟨fun us=>∃ i,us=[i,(e 2-i)*e 0%bP,(e 2-i)*e 1%bP]/\0<=i/\i<=e 2,fun us=>(us.getD 0 0).toNat,⟨e 2,by rw [Int.sub_self,Int.zero_mul,Int.zero_mul];rfl,hn,Int.le_refl _⟩,fun e' he0 hkk0 hI0=>?_⟩
 obtain ⟨i,hi,i0,i1⟩:=hI0
 have hi:[e' 3,e' 4,e' 5]=_:=hi
 injection hi with j3 hi
 injection hi with q4 hi
 injection hi with q5 hi
 have g0:e' 0=e 0:=he0 0 (by decide)
 have g1:e' 1=e 1:=he0 1 (by decide)
 rw [<- g0] at q4 q0
 rw [<- g1] at q5 q1
 intro a6 k6
 have b6:=c_gt a6
 simp only [ev_var,ev_lit,ev_limb] at b6
 clear a6 k6
 refine ⟨fun h=>?_,fun h=>?_⟩
 ·have c6:=h
  have z1:0<e' 3:=b_yes b6 c6
  refine ⟨⟨M_lt q4,M_lt q5,M_lt q0,M_lt q1⟩,?_⟩
  intro a7 k7
  have q7:=M_add (show e' 7=((e' 4)+(e' 0))%bP from a7) q4 q0
  clear a7 k7
  intro a8 k8
  have q8:=M_add (show e' 8=((e' 5)+(e' 1))%bP from a8) q5 q1
  clear a8 k8
  intro a9 k9
  have v9:e' 9=(e' 3)-1:=by
   have h:e' 9=binE .sub .i64 (e' 3) 1:=a9
   rw [h];simp only [binE,wr];omega
  clear a9 k9
  have x1:∀ x,(e 2-i)*x+x=(e 2-(i-1))*x:=fun x=>by simp only [Int.sub_mul,Int.one_mul];omega
  rw [x1,g0] at q7
  rw [x1,g1] at q8
  refine ⟨⟨i-1,?_,by omega,by omega⟩,?_⟩
  ·show [e' 9,e' 7,e' 8]=_
   rw [q7,q8,v9,j3]
  ·show (e' 9).toNat<(e' 3).toNat
   omega
 ·have c6:=h
  have z1:¬ 0<e' 3:=b_no b6 c6
  show [e' 4,e' 5]=_
  have x0:i=0:=by omega
  rw [q4,q5,x0,Int.sub_zero,g0,g1]
def tTMul:Tree:=(.split 6
(.req 0 []
(.lett 11 .num (.app 0 0 [])
(.lett 12 (.int .u64) (.app 0 1 [])
(.lett 13 .num (.app 0 2 [])
(.req 1 [.var 11,.var 12,.var 13,.var 7,.var 9]
(.lett 251 .num (.app 1 0 [.var 11,.var 12,.var 13,.var 7,.var 9])
(.ret [.var 251,.lit 0])))))))
(.req 2 [.var 7,.var 8,.var 9,.var 10]
(.lett 11 .num (.app 2 0 [.var 7,.var 8,.var 9,.var 10])
(.lett 12 .num (.app 2 1 [.var 7,.var 8,.var 9,.var 10])
(.ret [.var 11,.var 12])))))
theorem law_tMul (f1 f2 f3 f:FuncId) (e:Nat->Int) (hk:kkHas [.num,.num,.num,.num,.num,.num,.bit,.num,.num,.num,.num] [e 0,e 1,e 2,e 3,e 4,e 5,e 6,e 7,e 8,e 9,e 10]) (hp:(kTMul f).pre [e 0,e 1,e 2,e 3,e 4,e 5,e 6,e 7,e 8,e 9,e 10]):tTMul.says [kRP f1,kFMul f2,kRMul2 f3] ⟨fun ys=>ys=(kTMul f).sem [e 0,e 1,e 2,e 3,e 4,e 5,e 6,e 7,e 8,e 9,e 10],[]⟩ e:=by
 obtain ⟨u7,u8,u9,u10⟩:e 7<bP/\e 8<bP/\e 9<bP/\e 10<bP:=hp
 obtain ⟨_,_,_,_,_,_,_,h7,h8,h9,h10,_⟩:=hk
 have q7:=M_self h7.1 u7
 have q8:=M_self h8.1 u8
 have q9:=M_self h9.1 u9
 have q10:=M_self h10.1 u10
 clear u7 u8 u9 u10 h7 h8 h9 h10
 show tTMul.says _ ⟨fun ys=>ys=tmV (e 6) (e 7) (e 8) (e 9) (e 10),[]⟩ e
 refine ⟨fun h=>?_,fun h=>?_⟩
 ·have c6:=h
  refine ⟨trivial,?_⟩
  intro a11 k11
  have q11:=(show e 11=bP from a11)
  clear a11 k11
  intro a12 k12
  have q12:=(show e 12=lowP from a12)
  clear a12 k12
  intro a13 k13
  have q13:=(show e 13=sqP from a13)
  clear a13 k13
  refine ⟨⟨F_good q11 q12 q13,Or.inl (F_lt q11 q7)⟩,?_⟩
  intro a251 k251
  have q251:=F_mul q11 (show e 251=(e 7)*(e 9)%(e 11) from a251) q7 q9
  clear a251 k251
  show [e 251,0]=_
  unfold tmV;rw [if_neg c6,q251]
 ·have c6:=h
  refine ⟨⟨M_lt q7,M_lt q8,M_lt q9,M_lt q10⟩,?_⟩
  intro a11 k11
  have q11:=(show e 11=((e 7)*(e 9)-(e 8)*(e 10))%bP from a11)
  clear a11 k11
  intro a12 k12
  have q12:=(show e 12=((e 7)*(e 10)+(e 8)*(e 9))%bP from a12)
  clear a12 k12
  show [e 11,e 12]=_
  unfold tmV;rw [if_pos c6,q11,q12]
def tTDbl:Tree:=(.lett 7 .bit (.eqs [((.limb 4 0),(.lit 0)),((.limb 4 1),(.lit 0)),((.limb 4 2),(.lit 0)),((.limb 4 3),(.lit 0)),((.limb 4 4),(.lit 0)),((.limb 4 5),(.lit 0)),((.limb 5 0),(.lit 0)),((.limb 5 1),(.lit 0)),((.limb 5 2),(.lit 0)),((.limb 5 3),(.lit 0)),((.limb 5 4),(.lit 0)),((.limb 5 5),(.lit 0))])
(.split 7
(.ret [.lit 0,.lit 0,.lit 0,.lit 0,.lit 0,.lit 0,.var 6])
(.lett 8 .bit (.eqs [((.limb 2 0),(.lit 0)),((.limb 2 1),(.lit 0)),((.limb 2 2),(.lit 0)),((.limb 2 3),(.lit 0)),((.limb 2 4),(.lit 0)),((.limb 2 5),(.lit 0)),((.limb 3 0),(.lit 0)),((.limb 3 1),(.lit 0)),((.limb 3 2),(.lit 0)),((.limb 3 3),(.lit 0)),((.limb 3 4),(.lit 0)),((.limb 3 5),(.lit 0))])
(.split 8
 (.ret [.lit 0,.lit 0,.lit 0,.lit 0,.lit 0,.lit 0,.var 6])
 (.req 0 [.var 0,.var 1,.var 2,.var 3,.var 4,.var 5,.var 6,.var 2,.var 3,.var 2,.var 3]
 (.lett 9 .num (.app 0 0 [.var 0,.var 1,.var 2,.var 3,.var 4,.var 5,.var 6,.var 2,.var 3,.var 2,.var 3])
 (.lett 10 .num (.app 0 1 [.var 0,.var 1,.var 2,.var 3,.var 4,.var 5,.var 6,.var 2,.var 3,.var 2,.var 3])
 (.req 0 [.var 0,.var 1,.var 2,.var 3,.var 4,.var 5,.var 6,.var 0,.var 1,.var 9,.var 10]
 (.lett 11 .num (.app 0 0 [.var 0,.var 1,.var 2,.var 3,.var 4,.var 5,.var 6,.var 0,.var 1,.var 9,.var 10])
 (.lett 12 .num (.app 0 1 [.var 0,.var 1,.var 2,.var 3,.var 4,.var 5,.var 6,.var 0,.var 1,.var 9,.var 10])
 (.req 2 [.var 11,.var 12,.lit 4]
 (.lett 13 .num (.app 2 0 [.var 11,.var 12,.lit 4])
 (.lett 14 .num (.app 2 1 [.var 11,.var 12,.lit 4])
 (.req 0 [.var 0,.var 1,.var 2,.var 3,.var 4,.var 5,.var 6,.var 0,.var 1,.var 0,.var 1]
 (.lett 15 .num (.app 0 0 [.var 0,.var 1,.var 2,.var 3,.var 4,.var 5,.var 6,.var 0,.var 1,.var 0,.var 1])
 (.lett 16 .num (.app 0 1 [.var 0,.var 1,.var 2,.var 3,.var 4,.var 5,.var 6,.var 0,.var 1,.var 0,.var 1])
 (.req 2 [.var 15,.var 16,.lit 3]
 (.lett 17 .num (.app 2 0 [.var 15,.var 16,.lit 3])
 (.lett 18 .num (.app 2 1 [.var 15,.var 16,.lit 3])
 (.req 0 [.var 0,.var 1,.var 2,.var 3,.var 4,.var 5,.var 6,.var 17,.var 18,.var 17,.var 18]
 (.lett 163 .num (.app 0 0 [.var 0,.var 1,.var 2,.var 3,.var 4,.var 5,.var 6,.var 17,.var 18,.var 17,.var 18])
 (.lett 164 .num (.app 0 1 [.var 0,.var 1,.var 2,.var 3,.var 4,.var 5,.var 6,.var 17,.var 18,.var 17,.var 18])
 (.req 2 [.var 13,.var 14,.lit 2]
 (.lett 259 .num (.app 2 0 [.var 13,.var 14,.lit 2])
 (.lett 260 .num (.app 2 1 [.var 13,.var 14,.lit 2])
 (.req 1 [.var 163,.var 164,.var 259,.var 260]
 (.lett 307 .num (.app 1 0 [.var 163,.var 164,.var 259,.var 260])
 (.lett 308 .num (.app 1 1 [.var 163,.var 164,.var 259,.var 260])
 (.req 1 [.var 13,.var 14,.var 307,.var 308]
 (.lett 643 .num (.app 1 0 [.var 13,.var 14,.var 307,.var 308])
 (.lett 644 .num (.app 1 1 [.var 13,.var 14,.var 307,.var 308])
 (.req 0 [.var 0,.var 1,.var 2,.var 3,.var 4,.var 5,.var 6,.var 17,.var 18,.var 643,.var 644]
 (.lett 691 .num (.app 0 0 [.var 0,.var 1,.var 2,.var 3,.var 4,.var 5,.var 6,.var 17,.var 18,.var 643,.var 644])
 (.lett 692 .num (.app 0 1 [.var 0,.var 1,.var 2,.var 3,.var 4,.var 5,.var 6,.var 17,.var 18,.var 643,.var 644])
 (.req 0 [.var 0,.var 1,.var 2,.var 3,.var 4,.var 5,.var 6,.var 9,.var 10,.var 9,.var 10]
 (.lett 883 .num (.app 0 0 [.var 0,.var 1,.var 2,.var 3,.var 4,.var 5,.var 6,.var 9,.var 10,.var 9,.var 10])
 (.lett 884 .num (.app 0 1 [.var 0,.var 1,.var 2,.var 3,.var 4,.var 5,.var 6,.var 9,.var 10,.var 9,.var 10])
 (.req 2 [.var 883,.var 884,.lit 8]
 (.lett 931 .num (.app 2 0 [.var 883,.var 884,.lit 8])
 (.lett 932 .num (.app 2 1 [.var 883,.var 884,.lit 8])
 (.req 1 [.var 691,.var 692,.var 931,.var 932]
 (.lett 979 .num (.app 1 0 [.var 691,.var 692,.var 931,.var 932])
 (.lett 980 .num (.app 1 1 [.var 691,.var 692,.var 931,.var 932])
 (.req 0 [.var 0,.var 1,.var 2,.var 3,.var 4,.var 5,.var 6,.var 2,.var 3,.var 4,.var 5]
 (.lett 1459 .num (.app 0 0 [.var 0,.var 1,.var 2,.var 3,.var 4,.var 5,.var 6,.var 2,.var 3,.var 4,.var 5])
 (.lett 1460 .num (.app 0 1 [.var 0,.var 1,.var 2,.var 3,.var 4,.var 5,.var 6,.var 2,.var 3,.var 4,.var 5])
 (.req 2 [.var 1459,.var 1460,.lit 2]
 (.lett 1507 .num (.app 2 0 [.var 1459,.var 1460,.lit 2])
 (.lett 1508 .num (.app 2 1 [.var 1459,.var 1460,.lit 2])
 (.ret [.var 307,.var 308,.var 979,.var 980,.var 1507,.var 1508,.var 6]))))))))))))))))))))))))))))))))))))))))))))))))))
theorem law_tDbl (f1 f2 f3 f:FuncId) (e:Nat->Int) (hk:kkHas [.num,.num,.num,.num,.num,.num,.bit] [e 0,e 1,e 2,e 3,e 4,e 5,e 6]) (hp:(kTDbl f).pre [e 0,e 1,e 2,e 3,e 4,e 5,e 6]):tTDbl.says [kTMul f1,kRSub2 f2,kT f3] ⟨fun ys=>ys=(kTDbl f).sem [e 0,e 1,e 2,e 3,e 4,e 5,e 6],[]⟩ e:=by
 obtain ⟨⟨u0,u1⟩,⟨u2,u3⟩,u4,u5⟩:(e 0<bP/\e 1<bP)/\(e 2<bP/\e 3<bP)/\(e 4<bP/\e 5<bP):=hp
 obtain ⟨h0,h1,h2,h3,h4,h5,_⟩:=hk
 have k2:=h2
 have k3:=h3
 have k4:=h4
 have k5:=h5
 have q1:=PQ_self h0.1 u0 h1.1 u1
 have q3:=PQ_self h2.1 u2 h3.1 u3
 have q5:=PQ_self h4.1 u4 h5.1 u5
 clear u0 u1 u2 u3 u4 u5 h0 h1 h2 h3 h4 h5
 show tTDbl.says _ ⟨fun ys=>ys=(dblT (RT (e 6)) (of2 (e 0) (e 1) (e 2) (e 3) (e 4) (e 5))).l2++[e 6],[]⟩ e
 intro a7 k7
 have b7:=c_num00 a7 k4 k5
 clear a7 k7
 refine ⟨fun h=>?_,fun h=>?_⟩
 ·have c7:=h
  have z1:=T_z (o:=e 6) q5 (b_yes b7 c7)
  show [0,0,0,0,0,0,e 6]=_
  rw [dblT_z (Or.inl z1)];rfl
 ·have c7:=h
  have z1:=T_nz (o:=e 6) q5 (b_no b7 c7)
  intro a8 k8
  have b8:=c_num00 a8 k2 k3
  clear a8 k8
  refine ⟨fun h=>?_,fun h=>?_⟩
  ·have c8:=h
   have z2:=T_z (o:=e 6) q3 (b_yes b8 c8)
   show [0,0,0,0,0,0,e 6]=_
   rw [dblT_z (Or.inr z2)];rfl
  ·have c8:=h
   have z2:=T_nz (o:=e 6) q3 (b_no b8 c8)
   refine ⟨⟨PQ.l1 q3,PQ.l2 q3,PQ.l1 q3,PQ.l2 q3⟩,?_⟩
   intro a9 k9
   have q9:=(show e 9=(tmV (e 6) (e 2) (e 3) (e 2) (e 3)).getD 0 0 from a9)
   clear a9 k9
   intro a10 k10
   have q10:=PQ_mul (o:=(e 6)) q9 (show e 10=(tmV (e 6) (e 2) (e 3) (e 2) (e 3)).getD 1 0 from a10) q3 q3
   clear a10 k10
   refine ⟨⟨PQ.l1 q1,PQ.l2 q1,PQ.l1 q10,PQ.l2 q10⟩,?_⟩
   intro a11 k11
   have q11:=(show e 11=(tmV (e 6) (e 0) (e 1) (e 9) (e 10)).getD 0 0 from a11)
   clear a11 k11
   intro a12 k12
   have q12:=PQ_mul (o:=(e 6)) q11 (show e 12=(tmV (e 6) (e 0) (e 1) (e 9) (e 10)).getD 1 0 from a12) q1 q10
   clear a12 k12
   refine ⟨⟨⟨PQ.l1 q12,PQ.l2 q12⟩,q_4⟩,?_⟩
   intro a13 k13
   have q13:=(show e 13=(4)*(e 11)%bP from a13)
   clear a13 k13
   intro a14 k14
   have q14:=PQ_4 (e 6) q13 (show e 14=(4)*(e 12)%bP from a14) q12
   clear a14 k14
   refine ⟨⟨PQ.l1 q1,PQ.l2 q1,PQ.l1 q1,PQ.l2 q1⟩,?_⟩
   intro a15 k15
   have q15:=(show e 15=(tmV (e 6) (e 0) (e 1) (e 0) (e 1)).getD 0 0 from a15)
   clear a15 k15
   intro a16 k16
   have q16:=PQ_mul (o:=(e 6)) q15 (show e 16=(tmV (e 6) (e 0) (e 1) (e 0) (e 1)).getD 1 0 from a16) q1 q1
   clear a16 k16
   refine ⟨⟨⟨PQ.l1 q16,PQ.l2 q16⟩,q_3⟩,?_⟩
   intro a17 k17
   have q17:=(show e 17=(3)*(e 15)%bP from a17)
   clear a17 k17
   intro a18 k18
   have q18:=PQ_3 (e 6) q17 (show e 18=(3)*(e 16)%bP from a18) q16
   clear a18 k18
   refine ⟨⟨PQ.l1 q18,PQ.l2 q18,PQ.l1 q18,PQ.l2 q18⟩,?_⟩
   intro a163 k163
   have q163:=(show e 163=(tmV (e 6) (e 17) (e 18) (e 17) (e 18)).getD 0 0 from a163)
   clear a163 k163
   intro a164 k164
   have q164:=PQ_mul (o:=(e 6)) q163 (show e 164=(tmV (e 6) (e 17) (e 18) (e 17) (e 18)).getD 1 0 from a164) q18 q18
   clear a164 k164
   refine ⟨⟨⟨PQ.l1 q14,PQ.l2 q14⟩,q_2⟩,?_⟩
   intro a259 k259
   have q259:=(show e 259=(2)*(e 13)%bP from a259)
   clear a259 k259
   intro a260 k260
   have q260:=PQ_2 (e 6) q259 (show e 260=(2)*(e 14)%bP from a260) q14
   clear a260 k260
   refine ⟨⟨PQ.l1 q164,PQ.l2 q164,PQ.l1 q260,PQ.l2 q260⟩,?_⟩
   intro a307 k307
   have q307:=(show e 307=((e 163)-(e 259))%bP from a307)
   clear a307 k307
   intro a308 k308
   have q308:=PQ_sub (e 6) q307 (show e 308=((e 164)-(e 260))%bP from a308) q164 q260
   clear a308 k308
   refine ⟨⟨PQ.l1 q14,PQ.l2 q14,PQ.l1 q308,PQ.l2 q308⟩,?_⟩
   intro a643 k643
   have q643:=(show e 643=((e 13)-(e 307))%bP from a643)
   clear a643 k643
   intro a644 k644
   have q644:=PQ_sub (e 6) q643 (show e 644=((e 14)-(e 308))%bP from a644) q14 q308
   clear a644 k644
   refine ⟨⟨PQ.l1 q18,PQ.l2 q18,PQ.l1 q644,PQ.l2 q644⟩,?_⟩
   intro a691 k691
   have q691:=(show e 691=(tmV (e 6) (e 17) (e 18) (e 643) (e 644)).getD 0 0 from a691)
   clear a691 k691
   intro a692 k692
   have q692:=PQ_mul (o:=(e 6)) q691 (show e 692=(tmV (e 6) (e 17) (e 18) (e 643) (e 644)).getD 1 0 from a692) q18 q644
   clear a692 k692
   refine ⟨⟨PQ.l1 q10,PQ.l2 q10,PQ.l1 q10,PQ.l2 q10⟩,?_⟩
   intro a883 k883
   have q883:=(show e 883=(tmV (e 6) (e 9) (e 10) (e 9) (e 10)).getD 0 0 from a883)
   clear a883 k883
   intro a884 k884
   have q884:=PQ_mul (o:=(e 6)) q883 (show e 884=(tmV (e 6) (e 9) (e 10) (e 9) (e 10)).getD 1 0 from a884) q10 q10
   clear a884 k884
   refine ⟨⟨⟨PQ.l1 q884,PQ.l2 q884⟩,q_8⟩,?_⟩
   intro a931 k931
   have q931:=(show e 931=(8)*(e 883)%bP from a931)
   clear a931 k931
   intro a932 k932
   have q932:=PQ_8 (e 6) q931 (show e 932=(8)*(e 884)%bP from a932) q884
   clear a932 k932
   refine ⟨⟨PQ.l1 q692,PQ.l2 q692,PQ.l1 q932,PQ.l2 q932⟩,?_⟩
   intro a979 k979
   have q979:=(show e 979=((e 691)-(e 931))%bP from a979)
   clear a979 k979
   intro a980 k980
   have q980:=PQ_sub (e 6) q979 (show e 980=((e 692)-(e 932))%bP from a980) q692 q932
   clear a980 k980
   refine ⟨⟨PQ.l1 q3,PQ.l2 q3,PQ.l1 q5,PQ.l2 q5⟩,?_⟩
   intro a1459 k1459
   have q1459:=(show e 1459=(tmV (e 6) (e 2) (e 3) (e 4) (e 5)).getD 0 0 from a1459)
   clear a1459 k1459
   intro a1460 k1460
   have q1460:=PQ_mul (o:=(e 6)) q1459 (show e 1460=(tmV (e 6) (e 2) (e 3) (e 4) (e 5)).getD 1 0 from a1460) q3 q5
   clear a1460 k1460
   refine ⟨⟨⟨PQ.l1 q1460,PQ.l2 q1460⟩,q_2⟩,?_⟩
   intro a1507 k1507
   have q1507:=(show e 1507=(2)*(e 1459)%bP from a1507)
   clear a1507 k1507
   intro a1508 k1508
   have q1508:=PQ_2 (e 6) q1507 (show e 1508=(2)*(e 1460)%bP from a1508) q1460
   clear a1508 k1508
   show [e 307,e 308,e 979,e 980,e 1507,e 1508,e 6]=_
   rw [dblT_n z1 z2,q308.1,q308.2,q980.1,q980.2,q1508.1,q1508.2];rfl
section
variable {α:Type} {R:Rg α} {t u:J α}
theorem addT_0 (h:R.isz t.z=true):addT R t u=u:=if_pos h
theorem addT_d (h:¬ R.isz t.z=true) (h2:R.isz (hT R t u)=true) (h3:R.isz (kTJ R t u)=true):addT R t u=dblT R t:=by unfold addT;rw [if_neg h,if_pos h2,if_pos h3]
theorem addT_o (h:¬ R.isz t.z=true) (h2:R.isz (hT R t u)=true) (h3:¬ R.isz (kTJ R t u)=true):addT R t u=zJ R:=by unfold addT;rw [if_neg h,if_pos h2,if_neg h3]
theorem addT_g (h:¬ R.isz t.z=true) (h2:¬ R.isz (hT R t u)=true):addT R t u=adT R t u:=by unfold addT;rw [if_neg h,if_neg h2]
end
theorem l2_self {a b c d x y:Int} (h:PQ a b (a,b)) (k:PQ c d (c,d)) (l:PQ x y (x,y)):(of2 a b c d x y).l2=[a,b,c,d,x,y]:=by
 show [a%bP,b%bP,c%bP,d%bP,x%bP,y%bP]=_
 have h1:a=a%bP:=h.1
 have h2:b=b%bP:=h.2
 have h3:c=c%bP:=k.1
 have h4:d=d%bP:=k.2
 have h5:x=x%bP:=l.1
 have h6:y=y%bP:=l.2
 rw [<- h1,<- h2,<- h3,<- h4,<- h5,<- h6]
def tTAdd:Tree:=(.lett 14 .bit (.eqs [((.limb 4 0),(.lit 0)),((.limb 4 1),(.lit 0)),((.limb 4 2),(.lit 0)),((.limb 4 3),(.lit 0)),((.limb 4 4),(.lit 0)),((.limb 4 5),(.lit 0)),((.limb 5 0),(.lit 0)),((.limb 5 1),(.lit 0)),((.limb 5 2),(.lit 0)),((.limb 5 3),(.lit 0)),((.limb 5 4),(.lit 0)),((.limb 5 5),(.lit 0))])
(.split 14
(.ret [.var 7,.var 8,.var 9,.var 10,.var 11,.var 12,.var 13])
(.req 0 [.var 0,.var 1,.var 2,.var 3,.var 4,.var 5,.var 6,.var 4,.var 5,.var 4,.var 5]
(.lett 15 .num (.app 0 0 [.var 0,.var 1,.var 2,.var 3,.var 4,.var 5,.var 6,.var 4,.var 5,.var 4,.var 5])
(.lett 16 .num (.app 0 1 [.var 0,.var 1,.var 2,.var 3,.var 4,.var 5,.var 6,.var 4,.var 5,.var 4,.var 5])
(.req 0 [.var 0,.var 1,.var 2,.var 3,.var 4,.var 5,.var 6,.var 7,.var 8,.var 15,.var 16]
(.lett 17 .num (.app 0 0 [.var 0,.var 1,.var 2,.var 3,.var 4,.var 5,.var 6,.var 7,.var 8,.var 15,.var 16])
(.lett 18 .num (.app 0 1 [.var 0,.var 1,.var 2,.var 3,.var 4,.var 5,.var 6,.var 7,.var 8,.var 15,.var 16])
(.req 0 [.var 0,.var 1,.var 2,.var 3,.var 4,.var 5,.var 6,.var 15,.var 16,.var 4,.var 5]
(.lett 355 .num (.app 0 0 [.var 0,.var 1,.var 2,.var 3,.var 4,.var 5,.var 6,.var 15,.var 16,.var 4,.var 5])
(.lett 356 .num (.app 0 1 [.var 0,.var 1,.var 2,.var 3,.var 4,.var 5,.var 6,.var 15,.var 16,.var 4,.var 5])
(.req 0 [.var 0,.var 1,.var 2,.var 3,.var 4,.var 5,.var 6,.var 9,.var 10,.var 355,.var 356]
(.lett 403 .num (.app 0 0 [.var 0,.var 1,.var 2,.var 3,.var 4,.var 5,.var 6,.var 9,.var 10,.var 355,.var 356])
(.lett 404 .num (.app 0 1 [.var 0,.var 1,.var 2,.var 3,.var 4,.var 5,.var 6,.var 9,.var 10,.var 355,.var 356])
(.req 1 [.var 17,.var 18,.var 0,.var 1]
(.lett 547 .num (.app 1 0 [.var 17,.var 18,.var 0,.var 1])
(.lett 548 .num (.app 1 1 [.var 17,.var 18,.var 0,.var 1])
(.req 1 [.var 403,.var 404,.var 2,.var 3]
(.lett 549 .num (.app 1 0 [.var 403,.var 404,.var 2,.var 3])
(.lett 550 .num (.app 1 1 [.var 403,.var 404,.var 2,.var 3])
(.lett 551 .bit (.eqs [((.limb 547 0),(.lit 0)),((.limb 547 1),(.lit 0)),((.limb 547 2),(.lit 0)),((.limb 547 3),(.lit 0)),((.limb 547 4),(.lit 0)),((.limb 547 5),(.lit 0)),((.limb 548 0),(.lit 0)),((.limb 548 1),(.lit 0)),((.limb 548 2),(.lit 0)),((.limb 548 3),(.lit 0)),((.limb 548 4),(.lit 0)),((.limb 548 5),(.lit 0))])
(.split 551
 (.lett 552 .bit (.eqs [((.limb 549 0),(.lit 0)),((.limb 549 1),(.lit 0)),((.limb 549 2),(.lit 0)),((.limb 549 3),(.lit 0)),((.limb 549 4),(.lit 0)),((.limb 549 5),(.lit 0)),((.limb 550 0),(.lit 0)),((.limb 550 1),(.lit 0)),((.limb 550 2),(.lit 0)),((.limb 550 3),(.lit 0)),((.limb 550 4),(.lit 0)),((.limb 550 5),(.lit 0))])
 (.split 552
 (.req 2 [.var 0,.var 1,.var 2,.var 3,.var 4,.var 5,.var 6]
 (.lett 553 .num (.app 2 0 [.var 0,.var 1,.var 2,.var 3,.var 4,.var 5,.var 6])
 (.lett 554 .num (.app 2 1 [.var 0,.var 1,.var 2,.var 3,.var 4,.var 5,.var 6])
 (.lett 555 .num (.app 2 2 [.var 0,.var 1,.var 2,.var 3,.var 4,.var 5,.var 6])
 (.lett 556 .num (.app 2 3 [.var 0,.var 1,.var 2,.var 3,.var 4,.var 5,.var 6])
 (.lett 557 .num (.app 2 4 [.var 0,.var 1,.var 2,.var 3,.var 4,.var 5,.var 6])
 (.lett 558 .num (.app 2 5 [.var 0,.var 1,.var 2,.var 3,.var 4,.var 5,.var 6])
 (.lett 559 .bit (.app 2 6 [.var 0,.var 1,.var 2,.var 3,.var 4,.var 5,.var 6])
 (.ret [.var 553,.var 554,.var 555,.var 556,.var 557,.var 558,.var 559])))))))))
 (.ret [.lit 0,.lit 0,.lit 0,.lit 0,.lit 0,.lit 0,.var 6])))
 (.req 0 [.var 0,.var 1,.var 2,.var 3,.var 4,.var 5,.var 6,.var 547,.var 548,.var 547,.var 548]
 (.lett 552 .num (.app 0 0 [.var 0,.var 1,.var 2,.var 3,.var 4,.var 5,.var 6,.var 547,.var 548,.var 547,.var 548])
 (.lett 553 .num (.app 0 1 [.var 0,.var 1,.var 2,.var 3,.var 4,.var 5,.var 6,.var 547,.var 548,.var 547,.var 548])
 (.req 0 [.var 0,.var 1,.var 2,.var 3,.var 4,.var 5,.var 6,.var 552,.var 553,.var 547,.var 548]
 (.lett 554 .num (.app 0 0 [.var 0,.var 1,.var 2,.var 3,.var 4,.var 5,.var 6,.var 552,.var 553,.var 547,.var 548])
 (.lett 555 .num (.app 0 1 [.var 0,.var 1,.var 2,.var 3,.var 4,.var 5,.var 6,.var 552,.var 553,.var 547,.var 548])
 (.req 0 [.var 0,.var 1,.var 2,.var 3,.var 4,.var 5,.var 6,.var 0,.var 1,.var 552,.var 553]
 (.lett 556 .num (.app 0 0 [.var 0,.var 1,.var 2,.var 3,.var 4,.var 5,.var 6,.var 0,.var 1,.var 552,.var 553])
 (.lett 557 .num (.app 0 1 [.var 0,.var 1,.var 2,.var 3,.var 4,.var 5,.var 6,.var 0,.var 1,.var 552,.var 553])
 (.req 0 [.var 0,.var 1,.var 2,.var 3,.var 4,.var 5,.var 6,.var 549,.var 550,.var 549,.var 550]
 (.lett 702 .num (.app 0 0 [.var 0,.var 1,.var 2,.var 3,.var 4,.var 5,.var 6,.var 549,.var 550,.var 549,.var 550])
 (.lett 703 .num (.app 0 1 [.var 0,.var 1,.var 2,.var 3,.var 4,.var 5,.var 6,.var 549,.var 550,.var 549,.var 550])
 (.req 1 [.var 702,.var 703,.var 554,.var 555]
 (.lett 798 .num (.app 1 0 [.var 702,.var 703,.var 554,.var 555])
 (.lett 799 .num (.app 1 1 [.var 702,.var 703,.var 554,.var 555])
 (.req 3 [.var 556,.var 557,.lit 2]
 (.lett 894 .num (.app 3 0 [.var 556,.var 557,.lit 2])
 (.lett 895 .num (.app 3 1 [.var 556,.var 557,.lit 2])
 (.req 1 [.var 798,.var 799,.var 894,.var 895]
 (.lett 942 .num (.app 1 0 [.var 798,.var 799,.var 894,.var 895])
 (.lett 943 .num (.app 1 1 [.var 798,.var 799,.var 894,.var 895])
 (.req 1 [.var 556,.var 557,.var 942,.var 943]
 (.lett 1278 .num (.app 1 0 [.var 556,.var 557,.var 942,.var 943])
 (.lett 1279 .num (.app 1 1 [.var 556,.var 557,.var 942,.var 943])
 (.req 0 [.var 0,.var 1,.var 2,.var 3,.var 4,.var 5,.var 6,.var 549,.var 550,.var 1278,.var 1279]
 (.lett 1326 .num (.app 0 0 [.var 0,.var 1,.var 2,.var 3,.var 4,.var 5,.var 6,.var 549,.var 550,.var 1278,.var 1279])
 (.lett 1327 .num (.app 0 1 [.var 0,.var 1,.var 2,.var 3,.var 4,.var 5,.var 6,.var 549,.var 550,.var 1278,.var 1279])
 (.req 0 [.var 0,.var 1,.var 2,.var 3,.var 4,.var 5,.var 6,.var 2,.var 3,.var 554,.var 555]
 (.lett 1566 .num (.app 0 0 [.var 0,.var 1,.var 2,.var 3,.var 4,.var 5,.var 6,.var 2,.var 3,.var 554,.var 555])
 (.lett 1567 .num (.app 0 1 [.var 0,.var 1,.var 2,.var 3,.var 4,.var 5,.var 6,.var 2,.var 3,.var 554,.var 555])
 (.req 1 [.var 1326,.var 1327,.var 1566,.var 1567]
 (.lett 1614 .num (.app 1 0 [.var 1326,.var 1327,.var 1566,.var 1567])
 (.lett 1615 .num (.app 1 1 [.var 1326,.var 1327,.var 1566,.var 1567])
 (.req 0 [.var 0,.var 1,.var 2,.var 3,.var 4,.var 5,.var 6,.var 4,.var 5,.var 547,.var 548]
 (.lett 2046 .num (.app 0 0 [.var 0,.var 1,.var 2,.var 3,.var 4,.var 5,.var 6,.var 4,.var 5,.var 547,.var 548])
 (.lett 2047 .num (.app 0 1 [.var 0,.var 1,.var 2,.var 3,.var 4,.var 5,.var 6,.var 4,.var 5,.var 547,.var 548])
 (.ret [.var 942,.var 943,.var 1614,.var 1615,.var 2046,.var 2047,.var 6])))))))))))))))))))))))))))))))))))))))))))))))))))))))))))
theorem law_tAdd (f1 f2 f3 f4 f:FuncId) (e:Nat->Int) (hk:kkHas [.num,.num,.num,.num,.num,.num,.bit,.num,.num,.num,.num,.num,.num,.bit] [e 0,e 1,e 2,e 3,e 4,e 5,e 6,e 7,e 8,e 9,e 10,e 11,e 12,e 13]) (hp:(kTAdd f).pre [e 0,e 1,e 2,e 3,e 4,e 5,e 6,e 7,e 8,e 9,e 10,e 11,e 12,e 13]):tTAdd.says [kTMul f1,kRSub2 f2,kTDbl f3,kT f4] ⟨fun ys=>ys=(kTAdd f).sem [e 0,e 1,e 2,e 3,e 4,e 5,e 6,e 7,e 8,e 9,e 10,e 11,e 12,e 13],[]⟩ e:=by
 obtain ⟨ho,⟨⟨u0,u1⟩,⟨u2,u3⟩,u4,u5⟩,⟨u7,u8⟩,⟨u9,u10⟩,u11,u12⟩:e 13=e 6/\((e 0<bP/\e 1<bP)/\(e 2<bP/\e 3<bP)/\(e 4<bP/\e 5<bP))/\(e 7<bP/\e 8<bP)/\(e 9<bP/\e 10<bP)/\(e 11<bP/\e 12<bP):=hp
 obtain ⟨h0,h1,h2,h3,h4,h5,_,h7,h8,h9,h10,h11,h12,_⟩:=hk
 have k4:=h4
 have k5:=h5
 have q1:=PQ_self h0.1 u0 h1.1 u1
 have q3:=PQ_self h2.1 u2 h3.1 u3
 have q5:=PQ_self h4.1 u4 h5.1 u5
 have q8:=PQ_self h7.1 u7 h8.1 u8
 have q10:=PQ_self h9.1 u9 h10.1 u10
 have q12:=PQ_self h11.1 u11 h12.1 u12
 clear u0 u1 u2 u3 u4 u5 u7 u8 u9 u10 u11 u12 h0 h1 h2 h3 h4 h5 h7 h8 h9 h10 h11 h12
 show tTAdd.says _ ⟨fun ys=>ys=(addT (RT (e 6)) (of2 (e 0) (e 1) (e 2) (e 3) (e 4) (e 5)) (of2 (e 7) (e 8) (e 9) (e 10) (e 11) (e 12))).l2++[e 6],[]⟩ e
 intro a14 k14
 have b14:=c_num00 a14 k4 k5
 clear a14 k14
 refine ⟨fun h=>?_,fun h=>?_⟩
 ·have c14:=h
  have z1:=T_z (o:=e 6) q5 (b_yes b14 c14)
  show [e 7,e 8,e 9,e 10,e 11,e 12,e 13]=_
  rw [addT_0 z1,ho]
  exact congrArg (·++ [e 6]) (l2_self q8 q10 q12).symm
 ·have c14:=h
  have z1:=T_nz (o:=e 6) q5 (b_no b14 c14)
  refine ⟨⟨PQ.l1 q5,PQ.l2 q5,PQ.l1 q5,PQ.l2 q5⟩,?_⟩
  intro a15 k15
  have q15:=(show e 15=(tmV (e 6) (e 4) (e 5) (e 4) (e 5)).getD 0 0 from a15)
  clear a15 k15
  intro a16 k16
  have q16:=PQ_mul (o:=(e 6)) q15 (show e 16=(tmV (e 6) (e 4) (e 5) (e 4) (e 5)).getD 1 0 from a16) q5 q5
  clear a16 k16
  refine ⟨⟨PQ.l1 q8,PQ.l2 q8,PQ.l1 q16,PQ.l2 q16⟩,?_⟩
  intro a17 k17
  have q17:=(show e 17=(tmV (e 6) (e 7) (e 8) (e 15) (e 16)).getD 0 0 from a17)
  clear a17 k17
  intro a18 k18
  have q18:=PQ_mul (o:=(e 6)) q17 (show e 18=(tmV (e 6) (e 7) (e 8) (e 15) (e 16)).getD 1 0 from a18) q8 q16
  clear a18 k18
  refine ⟨⟨PQ.l1 q16,PQ.l2 q16,PQ.l1 q5,PQ.l2 q5⟩,?_⟩
  intro a355 k355
  have q355:=(show e 355=(tmV (e 6) (e 15) (e 16) (e 4) (e 5)).getD 0 0 from a355)
  clear a355 k355
  intro a356 k356
  have q356:=PQ_mul (o:=(e 6)) q355 (show e 356=(tmV (e 6) (e 15) (e 16) (e 4) (e 5)).getD 1 0 from a356) q16 q5
  clear a356 k356
  refine ⟨⟨PQ.l1 q10,PQ.l2 q10,PQ.l1 q356,PQ.l2 q356⟩,?_⟩
  intro a403 k403
  have q403:=(show e 403=(tmV (e 6) (e 9) (e 10) (e 355) (e 356)).getD 0 0 from a403)
  clear a403 k403
  intro a404 k404
  have q404:=PQ_mul (o:=(e 6)) q403 (show e 404=(tmV (e 6) (e 9) (e 10) (e 355) (e 356)).getD 1 0 from a404) q10 q356
  clear a404 k404
  refine ⟨⟨PQ.l1 q18,PQ.l2 q18,PQ.l1 q1,PQ.l2 q1⟩,?_⟩
  intro a547 k547
  have q547:=(show e 547=((e 17)-(e 0))%bP from a547)
  clear a547
  intro a548 k548
  have q548:=PQ_sub (e 6) q547 (show e 548=((e 18)-(e 1))%bP from a548) q18 q1
  clear a548
  refine ⟨⟨PQ.l1 q404,PQ.l2 q404,PQ.l1 q3,PQ.l2 q3⟩,?_⟩
  intro a549 k549
  have q549:=(show e 549=((e 403)-(e 2))%bP from a549)
  clear a549
  intro a550 k550
  have q550:=PQ_sub (e 6) q549 (show e 550=((e 404)-(e 3))%bP from a550) q404 q3
  clear a550
  intro a551 k551
  have b551:=c_num00 a551 k547 k548
  clear a551 k551
  refine ⟨fun h=>?_,fun h=>?_⟩
  ·have c551:=h
   have z2:=T_z (o:=e 6) q548 (b_yes b551 c551)
   intro a552 k552
   have b552:=c_num00 a552 k549 k550
   clear a552 k552
   refine ⟨fun h=>?_,fun h=>?_⟩
   ·have c552:=h
    have z3:=T_z (o:=e 6) q550 (b_yes b552 c552)
    refine ⟨⟨⟨PQ.l1 q1,PQ.l2 q1⟩,⟨PQ.l1 q3,PQ.l2 q3⟩,PQ.l1 q5,PQ.l2 q5⟩,?_⟩
    intro a553 k553
    have q553:=(show e 553=((dblT (RT (e 6)) (of2 (e 0) (e 1) (e 2) (e 3) (e 4) (e 5))).l2++[e 6]).getD 0 0 from a553)
    clear a553 k553
    intro a554 k554
    have q554:=(show e 554=((dblT (RT (e 6)) (of2 (e 0) (e 1) (e 2) (e 3) (e 4) (e 5))).l2++[e 6]).getD 1 0 from a554)
    clear a554 k554
    intro a555 k555
    have q555:=(show e 555=((dblT (RT (e 6)) (of2 (e 0) (e 1) (e 2) (e 3) (e 4) (e 5))).l2++[e 6]).getD 2 0 from a555)
    clear a555 k555
    intro a556 k556
    have q556:=(show e 556=((dblT (RT (e 6)) (of2 (e 0) (e 1) (e 2) (e 3) (e 4) (e 5))).l2++[e 6]).getD 3 0 from a556)
    clear a556 k556
    intro a557 k557
    have q557:=(show e 557=((dblT (RT (e 6)) (of2 (e 0) (e 1) (e 2) (e 3) (e 4) (e 5))).l2++[e 6]).getD 4 0 from a557)
    clear a557 k557
    intro a558 k558
    have q558:=(show e 558=((dblT (RT (e 6)) (of2 (e 0) (e 1) (e 2) (e 3) (e 4) (e 5))).l2++[e 6]).getD 5 0 from a558)
    clear a558 k558
    intro a559 k559
    have q559:=(show e 559=((dblT (RT (e 6)) (of2 (e 0) (e 1) (e 2) (e 3) (e 4) (e 5))).l2++[e 6]).getD 6 0 from a559)
    clear a559 k559
    show [e 553,e 554,e 555,e 556,e 557,e 558,e 559]=_
    rw [addT_d z1 z2 z3,q553,q554,q555,q556,q557,q558,q559];rfl
   ·have c552:=h
    have z3:=T_nz (o:=e 6) q550 (b_no b552 c552)
    show [0,0,0,0,0,0,e 6]=_
    rw [addT_o z1 z2 z3];rfl
  ·have c551:=h
   have z2:=T_nz (o:=e 6) q548 (b_no b551 c551)
   refine ⟨⟨PQ.l1 q548,PQ.l2 q548,PQ.l1 q548,PQ.l2 q548⟩,?_⟩
   intro a552 k552
   have q552:=(show e 552=(tmV (e 6) (e 547) (e 548) (e 547) (e 548)).getD 0 0 from a552)
   clear a552 k552
   intro a553 k553
   have q553:=PQ_mul (o:=(e 6)) q552 (show e 553=(tmV (e 6) (e 547) (e 548) (e 547) (e 548)).getD 1 0 from a553) q548 q548
   clear a553 k553
   refine ⟨⟨PQ.l1 q553,PQ.l2 q553,PQ.l1 q548,PQ.l2 q548⟩,?_⟩
   intro a554 k554
   have q554:=(show e 554=(tmV (e 6) (e 552) (e 553) (e 547) (e 548)).getD 0 0 from a554)
   clear a554 k554
   intro a555 k555
   have q555:=PQ_mul (o:=(e 6)) q554 (show e 555=(tmV (e 6) (e 552) (e 553) (e 547) (e 548)).getD 1 0 from a555) q553 q548
   clear a555 k555
   refine ⟨⟨PQ.l1 q1,PQ.l2 q1,PQ.l1 q553,PQ.l2 q553⟩,?_⟩
   intro a556 k556
   have q556:=(show e 556=(tmV (e 6) (e 0) (e 1) (e 552) (e 553)).getD 0 0 from a556)
   clear a556 k556
   intro a557 k557
   have q557:=PQ_mul (o:=(e 6)) q556 (show e 557=(tmV (e 6) (e 0) (e 1) (e 552) (e 553)).getD 1 0 from a557) q1 q553
   clear a557 k557
   refine ⟨⟨PQ.l1 q550,PQ.l2 q550,PQ.l1 q550,PQ.l2 q550⟩,?_⟩
   intro a702 k702
   have q702:=(show e 702=(tmV (e 6) (e 549) (e 550) (e 549) (e 550)).getD 0 0 from a702)
   clear a702 k702
   intro a703 k703
   have q703:=PQ_mul (o:=(e 6)) q702 (show e 703=(tmV (e 6) (e 549) (e 550) (e 549) (e 550)).getD 1 0 from a703) q550 q550
   clear a703 k703
   refine ⟨⟨PQ.l1 q703,PQ.l2 q703,PQ.l1 q555,PQ.l2 q555⟩,?_⟩
   intro a798 k798
   have q798:=(show e 798=((e 702)-(e 554))%bP from a798)
   clear a798 k798
   intro a799 k799
   have q799:=PQ_sub (e 6) q798 (show e 799=((e 703)-(e 555))%bP from a799) q703 q555
   clear a799 k799
   refine ⟨⟨⟨PQ.l1 q557,PQ.l2 q557⟩,q_2⟩,?_⟩
   intro a894 k894
   have q894:=(show e 894=(2)*(e 556)%bP from a894)
   clear a894 k894
   intro a895 k895
   have q895:=PQ_2 (e 6) q894 (show e 895=(2)*(e 557)%bP from a895) q557
   clear a895 k895
   refine ⟨⟨PQ.l1 q799,PQ.l2 q799,PQ.l1 q895,PQ.l2 q895⟩,?_⟩
   intro a942 k942
   have q942:=(show e 942=((e 798)-(e 894))%bP from a942)
   clear a942 k942
   intro a943 k943
   have q943:=PQ_sub (e 6) q942 (show e 943=((e 799)-(e 895))%bP from a943) q799 q895
   clear a943 k943
   refine ⟨⟨PQ.l1 q557,PQ.l2 q557,PQ.l1 q943,PQ.l2 q943⟩,?_⟩
   intro a1278 k1278
   have q1278:=(show e 1278=((e 556)-(e 942))%bP from a1278)
   clear a1278 k1278
   intro a1279 k1279
   have q1279:=PQ_sub (e 6) q1278 (show e 1279=((e 557)-(e 943))%bP from a1279) q557 q943
   clear a1279 k1279
   refine ⟨⟨PQ.l1 q550,PQ.l2 q550,PQ.l1 q1279,PQ.l2 q1279⟩,?_⟩
   intro a1326 k1326
   have q1326:=(show e 1326=(tmV (e 6) (e 549) (e 550) (e 1278) (e 1279)).getD 0 0 from a1326)
   clear a1326 k1326
   intro a1327 k1327
   have q1327:=PQ_mul (o:=(e 6)) q1326 (show e 1327=(tmV (e 6) (e 549) (e 550) (e 1278) (e 1279)).getD 1 0 from a1327) q550 q1279
   clear a1327 k1327
   refine ⟨⟨PQ.l1 q3,PQ.l2 q3,PQ.l1 q555,PQ.l2 q555⟩,?_⟩
   intro a1566 k1566
   have q1566:=(show e 1566=(tmV (e 6) (e 2) (e 3) (e 554) (e 555)).getD 0 0 from a1566)
   clear a1566 k1566
   intro a1567 k1567
   have q1567:=PQ_mul (o:=(e 6)) q1566 (show e 1567=(tmV (e 6) (e 2) (e 3) (e 554) (e 555)).getD 1 0 from a1567) q3 q555
   clear a1567 k1567
   refine ⟨⟨PQ.l1 q1327,PQ.l2 q1327,PQ.l1 q1567,PQ.l2 q1567⟩,?_⟩
   intro a1614 k1614
   have q1614:=(show e 1614=((e 1326)-(e 1566))%bP from a1614)
   clear a1614 k1614
   intro a1615 k1615
   have q1615:=PQ_sub (e 6) q1614 (show e 1615=((e 1327)-(e 1567))%bP from a1615) q1327 q1567
   clear a1615 k1615
   refine ⟨⟨PQ.l1 q5,PQ.l2 q5,PQ.l1 q548,PQ.l2 q548⟩,?_⟩
   intro a2046 k2046
   have q2046:=(show e 2046=(tmV (e 6) (e 4) (e 5) (e 547) (e 548)).getD 0 0 from a2046)
   clear a2046 k2046
   intro a2047 k2047
   have q2047:=PQ_mul (o:=(e 6)) q2046 (show e 2047=(tmV (e 6) (e 4) (e 5) (e 547) (e 548)).getD 1 0 from a2047) q5 q548
   clear a2047 k2047
   show [e 942,e 943,e 1614,e 1615,e 2046,e 2047,e 6]=_
   rw [addT_g z1 z2,q943.1,q943.2,q1615.1,q1615.2,q2047.1,q2047.2];rfl
def invT (o:Int) (A:E2):E2:=if o=0 then (A.1*nrm A.1 A.2,-(A.2*nrm A.1 A.2)) else (A.1^(bP-2).toNat,0)
theorem invT_0 {o:Int} {A:E2} (h:o=0):invT o A=(A.1*nrm A.1 A.2,-(A.2*nrm A.1 A.2)):=if_pos h
theorem invT_1 {o:Int} {A:E2} (h:¬ o=0):invT o A=(A.1^(bP-2).toNat,0):=if_neg h
theorem PQ_inv2 {o x y a b:Int} {A:E2} (ho:o=0) (h:x=a*nrm a b%bP) (k:y=(-(b*nrm a b))%bP) (ha:PQ a b A):PQ x y (invT o A):=by
 rw [invT_0 ho]
 have hn:nrm a b%bP=nrm A.1 A.2%bP:=mdE_pow (mdE_add (mdE_mul (M_mm ha.1) (M_mm ha.1)) (mdE_mul (M_mm ha.2) (M_mm ha.2))) _
 exact ⟨h.trans (mdE_mul (M_mm ha.1) hn),k.trans (mdE_neg (mdE_mul (M_mm ha.2) hn))⟩
def loT (o:Int) (P:J E2):List Int :=
 let z:=invT o P.z
 let zz:=(RT o).mul z z
 let x:=(RT o).mul P.x zz
 let y:=(RT o).mul P.y ((RT o).mul zz z)
 [x.1%bP,x.2%bP,y.1%bP,y.2%bP,1]
def twoT (o:Int) (P:J E2):List Int:=if (RT o).isz P.z=true then [0,0,0,0,0] else loT o P
theorem twoT_z {o:Int} {P:J E2} (h:(RT o).isz P.z=true):twoT o P=[0,0,0,0,0]:=if_pos h
theorem twoT_n {o:Int} {P:J E2} (h:¬ (RT o).isz P.z=true):twoT o P=loT o P:=if_neg h
def kTTwo (f:FuncId):K:={fn:=f,ext:=false,ins:=[.agg lsT],outs:=[oE2,oE2,.one .bool],pre:=fun | [a,b,c,d,x,y,_]=>(a<bP/\b<bP)/\(c<bP/\d<bP)/\(x<bP/\y<bP) | _=>False,sem:=fun | [a,b,c,d,x,y,o]=>twoT o (of2 a b c d x y) | _=>[] }
def tTTwo:Tree:=(.lett 7 .bit (.eqs [((.limb 4 0),(.lit 0)),((.limb 4 1),(.lit 0)),((.limb 4 2),(.lit 0)),((.limb 4 3),(.lit 0)),((.limb 4 4),(.lit 0)),((.limb 4 5),(.lit 0)),((.limb 5 0),(.lit 0)),((.limb 5 1),(.lit 0)),((.limb 5 2),(.lit 0)),((.limb 5 3),(.lit 0)),((.limb 5 4),(.lit 0)),((.limb 5 5),(.lit 0))])
(.split 7
(.ret [.lit 0,.lit 0,.lit 0,.lit 0,.lit 0])
(.split 6
 (.req 1 []
 (.lett 8 .num (.app 1 0 [])
 (.lett 9 (.int .u64) (.app 1 1 [])
 (.lett 10 .num (.app 1 2 [])
 (.req 2 [.var 8,.var 9,.var 10,.var 4]
 (.lett 200 .num (.app 2 0 [.var 8,.var 9,.var 10,.var 4])
 (.req 0 [.var 0,.var 1,.var 2,.var 3,.var 4,.var 5,.var 6,.var 200,.lit 0,.var 200,.lit 0]
 (.lett 344 .num (.app 0 0 [.var 0,.var 1,.var 2,.var 3,.var 4,.var 5,.var 6,.var 200,.lit 0,.var 200,.lit 0])
 (.lett 345 .num (.app 0 1 [.var 0,.var 1,.var 2,.var 3,.var 4,.var 5,.var 6,.var 200,.lit 0,.var 200,.lit 0])
 (.req 0 [.var 0,.var 1,.var 2,.var 3,.var 4,.var 5,.var 6,.var 0,.var 1,.var 344,.var 345]
 (.lett 538 .num (.app 0 0 [.var 0,.var 1,.var 2,.var 3,.var 4,.var 5,.var 6,.var 0,.var 1,.var 344,.var 345])
 (.lett 539 .num (.app 0 1 [.var 0,.var 1,.var 2,.var 3,.var 4,.var 5,.var 6,.var 0,.var 1,.var 344,.var 345])
 (.req 0 [.var 0,.var 1,.var 2,.var 3,.var 4,.var 5,.var 6,.var 344,.var 345,.var 200,.lit 0]
 (.lett 874 .num (.app 0 0 [.var 0,.var 1,.var 2,.var 3,.var 4,.var 5,.var 6,.var 344,.var 345,.var 200,.lit 0])
 (.lett 875 .num (.app 0 1 [.var 0,.var 1,.var 2,.var 3,.var 4,.var 5,.var 6,.var 344,.var 345,.var 200,.lit 0])
 (.req 0 [.var 0,.var 1,.var 2,.var 3,.var 4,.var 5,.var 6,.var 2,.var 3,.var 874,.var 875]
 (.lett 922 .num (.app 0 0 [.var 0,.var 1,.var 2,.var 3,.var 4,.var 5,.var 6,.var 2,.var 3,.var 874,.var 875])
 (.lett 923 .num (.app 0 1 [.var 0,.var 1,.var 2,.var 3,.var 4,.var 5,.var 6,.var 2,.var 3,.var 874,.var 875])
 (.ret [.var 538,.var 539,.var 922,.var 923,.lit 1])))))))))))))))))))
 (.req 3 [.var 4,.var 5]
 (.lett 8 .num (.app 3 0 [.var 4,.var 5])
 (.lett 9 .num (.app 3 1 [.var 4,.var 5])
 (.req 0 [.var 0,.var 1,.var 2,.var 3,.var 4,.var 5,.var 6,.var 8,.var 9,.var 8,.var 9]
 (.lett 10 .num (.app 0 0 [.var 0,.var 1,.var 2,.var 3,.var 4,.var 5,.var 6,.var 8,.var 9,.var 8,.var 9])
 (.lett 11 .num (.app 0 1 [.var 0,.var 1,.var 2,.var 3,.var 4,.var 5,.var 6,.var 8,.var 9,.var 8,.var 9])
 (.req 0 [.var 0,.var 1,.var 2,.var 3,.var 4,.var 5,.var 6,.var 0,.var 1,.var 10,.var 11]
 (.lett 204 .num (.app 0 0 [.var 0,.var 1,.var 2,.var 3,.var 4,.var 5,.var 6,.var 0,.var 1,.var 10,.var 11])
 (.lett 205 .num (.app 0 1 [.var 0,.var 1,.var 2,.var 3,.var 4,.var 5,.var 6,.var 0,.var 1,.var 10,.var 11])
 (.req 0 [.var 0,.var 1,.var 2,.var 3,.var 4,.var 5,.var 6,.var 10,.var 11,.var 8,.var 9]
 (.lett 540 .num (.app 0 0 [.var 0,.var 1,.var 2,.var 3,.var 4,.var 5,.var 6,.var 10,.var 11,.var 8,.var 9])
 (.lett 541 .num (.app 0 1 [.var 0,.var 1,.var 2,.var 3,.var 4,.var 5,.var 6,.var 10,.var 11,.var 8,.var 9])
 (.req 0 [.var 0,.var 1,.var 2,.var 3,.var 4,.var 5,.var 6,.var 2,.var 3,.var 540,.var 541]
 (.lett 588 .num (.app 0 0 [.var 0,.var 1,.var 2,.var 3,.var 4,.var 5,.var 6,.var 2,.var 3,.var 540,.var 541])
 (.lett 589 .num (.app 0 1 [.var 0,.var 1,.var 2,.var 3,.var 4,.var 5,.var 6,.var 2,.var 3,.var 540,.var 541])
 (.ret [.var 204,.var 205,.var 588,.var 589,.lit 1])))))))))))))))))))
theorem law_tTwo (f1 f2 f3 f4 f:FuncId) (e:Nat->Int) (hk:kkHas [.num,.num,.num,.num,.num,.num,.bit] [e 0,e 1,e 2,e 3,e 4,e 5,e 6]) (hp:(kTTwo f).pre [e 0,e 1,e 2,e 3,e 4,e 5,e 6]):tTTwo.says [kTMul f1,kRP f2,kFInv f3,kRInv2 f4] ⟨fun ys=>ys=(kTTwo f).sem [e 0,e 1,e 2,e 3,e 4,e 5,e 6],[]⟩ e:=by
 obtain ⟨⟨u0,u1⟩,⟨u2,u3⟩,u4,u5⟩:(e 0<bP/\e 1<bP)/\(e 2<bP/\e 3<bP)/\(e 4<bP/\e 5<bP):=hp
 obtain ⟨h0,h1,h2,h3,h4,h5,_⟩:=hk
 have k4:=h4
 have k5:=h5
 have q1:=PQ_self h0.1 u0 h1.1 u1
 have q3:=PQ_self h2.1 u2 h3.1 u3
 have q5:=PQ_self h4.1 u4 h5.1 u5
 have q4:=q5.1
 clear u0 u1 u2 u3 u4 u5 h0 h1 h2 h3 h4 h5
 show tTTwo.says _ ⟨fun ys=>ys=twoT (e 6) (of2 (e 0) (e 1) (e 2) (e 3) (e 4) (e 5)),[]⟩ e
 intro a7 k7
 have b7:=c_num00 a7 k4 k5
 clear a7 k7
 refine ⟨fun h=>?_,fun h=>?_⟩
 ·have c7:=h
  have z1:=T_z (o:=e 6) q5 (b_yes b7 c7)
  show [0,0,0,0,0]=_
  rw [twoT_z z1]
 ·have c7:=h
  have z1:=T_nz (o:=e 6) q5 (b_no b7 c7)
  refine ⟨fun h=>?_,fun h=>?_⟩
  ·have c6:=h
   refine ⟨trivial,?_⟩
   intro a8 k8
   have q8:=(show e 8=bP from a8)
   clear a8 k8
   intro a9 k9
   have q9:=(show e 9=lowP from a9)
   clear a9 k9
   intro a10 k10
   have q10:=(show e 10=sqP from a10)
   clear a10 k10
   refine ⟨⟨F_good q8 q9 q10,F_lt q8 q4⟩,?_⟩
   intro a200 k200
   have q200:=F_inv q8 (show e 200=(e 4)^((e 8)-2).toNat%(e 8) from a200) q4
   clear a200 k200
   have q_0:PQ (e 200) 0 (invT (e 6) (e 4,e 5)):=by rw [invT_1 c6];exact ⟨q200,rfl⟩
   refine ⟨⟨PQ.l1 q_0,PQ.l2 q_0,PQ.l1 q_0,PQ.l2 q_0⟩,?_⟩
   intro a344 k344
   have q344:=(show e 344=(tmV (e 6) (e 200) (0) (e 200) (0)).getD 0 0 from a344)
   clear a344 k344
   intro a345 k345
   have q345:=PQ_mul (o:=(e 6)) q344 (show e 345=(tmV (e 6) (e 200) (0) (e 200) (0)).getD 1 0 from a345) q_0 q_0
   clear a345 k345
   refine ⟨⟨PQ.l1 q1,PQ.l2 q1,PQ.l1 q345,PQ.l2 q345⟩,?_⟩
   intro a538 k538
   have q538:=(show e 538=(tmV (e 6) (e 0) (e 1) (e 344) (e 345)).getD 0 0 from a538)
   clear a538 k538
   intro a539 k539
   have q539:=PQ_mul (o:=(e 6)) q538 (show e 539=(tmV (e 6) (e 0) (e 1) (e 344) (e 345)).getD 1 0 from a539) q1 q345
   clear a539 k539
   refine ⟨⟨PQ.l1 q345,PQ.l2 q345,PQ.l1 q_0,PQ.l2 q_0⟩,?_⟩
   intro a874 k874
   have q874:=(show e 874=(tmV (e 6) (e 344) (e 345) (e 200) (0)).getD 0 0 from a874)
   clear a874 k874
   intro a875 k875
   have q875:=PQ_mul (o:=(e 6)) q874 (show e 875=(tmV (e 6) (e 344) (e 345) (e 200) (0)).getD 1 0 from a875) q345 q_0
   clear a875 k875
   refine ⟨⟨PQ.l1 q3,PQ.l2 q3,PQ.l1 q875,PQ.l2 q875⟩,?_⟩
   intro a922 k922
   have q922:=(show e 922=(tmV (e 6) (e 2) (e 3) (e 874) (e 875)).getD 0 0 from a922)
   clear a922 k922
   intro a923 k923
   have q923:=PQ_mul (o:=(e 6)) q922 (show e 923=(tmV (e 6) (e 2) (e 3) (e 874) (e 875)).getD 1 0 from a923) q3 q875
   clear a923 k923
   show [e 538,e 539,e 922,e 923,1]=_
   rw [twoT_n z1,q539.1,q539.2,q923.1,q923.2];rfl
  ·have c6:=h
   refine ⟨⟨PQ.l1 q5,PQ.l2 q5⟩,?_⟩
   intro a8 k8
   have q8:=(show e 8=(e 4)*nrm (e 4) (e 5)%bP from a8)
   clear a8 k8
   intro a9 k9
   have q9:=PQ_inv2 c6 q8 (show e 9=(-((e 5)*nrm (e 4) (e 5)))%bP from a9) q5
   clear a9 k9
   refine ⟨⟨PQ.l1 q9,PQ.l2 q9,PQ.l1 q9,PQ.l2 q9⟩,?_⟩
   intro a10 k10
   have q10:=(show e 10=(tmV (e 6) (e 8) (e 9) (e 8) (e 9)).getD 0 0 from a10)
   clear a10 k10
   intro a11 k11
   have q11:=PQ_mul (o:=(e 6)) q10 (show e 11=(tmV (e 6) (e 8) (e 9) (e 8) (e 9)).getD 1 0 from a11) q9 q9
   clear a11 k11
   refine ⟨⟨PQ.l1 q1,PQ.l2 q1,PQ.l1 q11,PQ.l2 q11⟩,?_⟩
   intro a204 k204
   have q204:=(show e 204=(tmV (e 6) (e 0) (e 1) (e 10) (e 11)).getD 0 0 from a204)
   clear a204 k204
   intro a205 k205
   have q205:=PQ_mul (o:=(e 6)) q204 (show e 205=(tmV (e 6) (e 0) (e 1) (e 10) (e 11)).getD 1 0 from a205) q1 q11
   clear a205 k205
   refine ⟨⟨PQ.l1 q11,PQ.l2 q11,PQ.l1 q9,PQ.l2 q9⟩,?_⟩
   intro a540 k540
   have q540:=(show e 540=(tmV (e 6) (e 10) (e 11) (e 8) (e 9)).getD 0 0 from a540)
   clear a540 k540
   intro a541 k541
   have q541:=PQ_mul (o:=(e 6)) q540 (show e 541=(tmV (e 6) (e 10) (e 11) (e 8) (e 9)).getD 1 0 from a541) q11 q9
   clear a541 k541
   refine ⟨⟨PQ.l1 q3,PQ.l2 q3,PQ.l1 q541,PQ.l2 q541⟩,?_⟩
   intro a588 k588
   have q588:=(show e 588=(tmV (e 6) (e 2) (e 3) (e 540) (e 541)).getD 0 0 from a588)
   clear a588 k588
   intro a589 k589
   have q589:=PQ_mul (o:=(e 6)) q588 (show e 589=(tmV (e 6) (e 2) (e 3) (e 540) (e 541)).getD 1 0 from a589) q3 q541
   clear a589 k589
   show [e 204,e 205,e 588,e 589,1]=_
   rw [twoT_n z1,q205.1,q205.2,q589.1,q589.2];rfl
def isW (l:List Int):Prop:=∀ x∈l,0<=x/\x<18446744073709551616
theorem join_nn:∀ {l:List Int},isW l->0<=joinE l
 | [],_=>Int.le_refl _
 | x::r,h=>by
  have h1:=h x (List.mem_cons_self ..)
  have h2:=join_nn (l:=r) (fun y hy=>h y (List.mem_cons_of_mem _ hy))
  show 0<=x+18446744073709551616*joinE r
  omega
theorem join_bit:∀ (l:List Int) (i:Nat),isW l->i<64*l.length->joinE l/2^i%2=l.getD (i/64) 0/2^(i%64)%2
 | [],i,_,hi=>absurd hi (by simp)
 | x::r,i,h,hi=>by
  have h1:=h x (List.mem_cons_self ..)
  have hr:isW r:=fun y hy=>h y (List.mem_cons_of_mem _ hy)
  have hp:∀ k:Nat,(0:Int)<2^k:=fun k=>Int.pow_pos (by decide)
  show (x+18446744073709551616*joinE r)/2^i%2=_
  rcases Nat.lt_or_ge i 64 with hc | hc
  ·have e0:i/64=0:=by omega
   have e1:i%64=i:=by omega
   obtain ⟨k,hk⟩:∃ k,63=i+k:=⟨63-i,by omega⟩
   have hB:(18446744073709551616:Int)=2^i*(2^k*2):=by
    rw [<- Int.mul_assoc,<- Int.pow_add,<- hk];rfl
   rw [e0,e1,hB,Int.mul_assoc,Int.add_mul_ediv_left _ _ (by have:=hp i;omega),Int.mul_comm (2^k) 2,Int.mul_assoc,Int.add_mul_emod_self_left]
   rfl
  ·obtain ⟨j,rfl⟩:∃ j,i=64+j:=⟨i-64,by omega⟩
   have e0:(64+j)/64=j/64+1:=by omega
   have e1:(64+j)%64=j%64:=by omega
   have hl:j<64*r.length:=by simp only [List.length_cons] at hi;omega
   have hd:(x+18446744073709551616*joinE r)/18446744073709551616=joinE r:=by omega
   rw [e0,e1,Int.pow_add,show (2:Int)^64=18446744073709551616 from rfl,<- Int.ediv_ediv_of_nonneg (by decide),hd,join_bit r j hr hl]
   rfl
theorem getD_take {l:List Int} {n k:Nat} (h:k<n):(l.take n).getD k 0=l.getD k 0:=by
 rw [List.getD_eq_getElem?_getD,List.getD_eq_getElem?_getD,List.getElem?_take,if_pos h]
theorem isW_take {l:List Int} {n:Nat} (h:isW l):isW (l.take n):=fun x hx=>h x (List.mem_of_mem_take hx)
section
variable {α:Type}
def tmT (R:Rg α) (P:J α):Nat->Nat->J α
 | 0,_=>zJ R
 | k+1,n=>if n%2=1 then J.md R (addT R (J.md R (dblT R (tmT R P k (n/2)))) P) else J.md R (dblT R (tmT R P k (n/2)))
end
theorem md_md {o:Int} (P:J E2):J.md (RT o) (J.md (RT o) P)=J.md (RT o) P:=by
 show (⟨(P.x.1%bP%bP,P.x.2%bP%bP),(P.y.1%bP%bP,P.y.2%bP%bP),(P.z.1%bP%bP,P.z.2%bP%bP)⟩:J E2)=_
 rw [md_self,md_self,md_self,md_self,md_self,md_self];rfl
theorem tmT_md (o:Int) (P:J E2):∀ (k n:Nat),J.md (RT o) (tmT (RT o) P k n)=tmT (RT o) P k n
 | 0,_=>rfl
 | k+1,n=>by
  unfold tmT
  split
  ·exact md_md _
  ·exact md_md _
def J.tl (P:J E2):List Int:=[P.x.1,P.x.2,P.y.1,P.y.2,P.z.1,P.z.2]
theorem md_tl {o:Int} (P:J E2):(J.md (RT o) P).tl=P.l2:=rfl
theorem tl_of2 {a b c d x y:Int} {S:J E2} (h:[a,b,c,d,x,y]=S.tl):of2 a b c d x y=S:=by
 unfold J.tl at h
 injection h with h1 h
 injection h with h2 h
 injection h with h3 h
 injection h with h4 h
 injection h with h5 h
 injection h with h6 h
 rw [h1,h2,h3,h4,h5,h6];rfl
theorem tl_lt {a b c d x y o:Int} {S:J E2} (h:[a,b,c,d,x,y]=S.tl) (hm:J.md (RT o) S=S):(a<bP/\b<bP)/\(c<bP/\d<bP)/\(x<bP/\y<bP):=by
 rw [<- hm,md_tl] at h
 unfold J.l2 at h
 injection h with h1 h
 injection h with h2 h
 injection h with h3 h
 injection h with h4 h
 injection h with h5 h
 injection h with h6 h
 exact ⟨⟨M_lt h1,M_lt h2⟩,⟨M_lt h3,M_lt h4⟩,M_lt h5,M_lt h6⟩
def numT (l:List Int) (n:Int):Nat:=(joinE (l.take n.toNat)).toNat
noncomputable def kTMulti (f:FuncId):K:={fn:=f,ext:=false,ins:=[.agg lsT,.lent (.int .u64)],outs:=[.agg lsT],pre:=fun | [a,b,c,d,x,y,_,l,n]=>((a<bP/\b<bP)/\(c<bP/\d<bP)/\(x<bP/\y<bP))/\0<=n/\n<=100/\n<=((dec l).length:Int) | _=>False,sem:=fun | [a,b,c,d,x,y,o,l,n]=>(tmT (RT o) (of2 a b c d x y) (64*n).toNat (numT (dec l) n)).tl++[o] | _=>[] }
theorem num_bit {l:List Int} {n i:Int} (hl:isW l) (h0:0<=i) (h1:i<64*n) (h2:n<=(l.length:Int)):((numT l n/2^i.toNat%2:Nat):Int)=l.getD (i/64).toNat 0/2^(i%64).toNat%2:=by
 have hL:(l.take n.toNat).length=n.toNat:=by rw [List.length_take];omega
 have hb:=join_bit (l.take n.toNat) i.toNat (isW_take hl) (by rw [hL];omega)
 rw [getD_take (by omega)] at hb
 rw [show (i/64).toNat=i.toNat/64 by omega,show (i%64).toNat=i.toNat%64 by omega,<- hb]
 unfold numT
 rw [Int.natCast_emod,Int.natCast_ediv,Int.natCast_pow,Int.toNat_of_nonneg (join_nn (isW_take hl))]
 rfl
abbrev oPt:Oh:=.agg [.int .u64,.int .u64,.bool]
abbrev iPt:Sh:=.agg [.int .u64,.int .u64,.bool]
def pOk (p:Int):Prop:=3<=p/\p<4611686018427387904
def kLAdd (f:FuncId):K:={fn:=f,ext:=false,ins:=[iC,iU,iU],outs:=[oU],pre:=fun | [p,_,_,_,_,_,a,b]=>pOk p/\a<p/\b<p | _=>False,sem:=fun | [p,_,_,_,_,_,a,b]=>[(a+b)%p] | _=>[] }
def kLSub (f:FuncId):K:={fn:=f,ext:=false,ins:=[iC,iU,iU],outs:=[oU],pre:=fun | [p,_,_,_,_,_,a,b]=>pOk p/\a<p/\b<p | _=>False,sem:=fun | [p,_,_,_,_,_,a,b]=>[(a-b)%p] | _=>[] }
def kLMul (f:FuncId):K:={fn:=f,ext:=false,ins:=[iC,iU,iU],outs:=[oU],pre:=fun | [p,_,_,_,_,_,_,_]=>pOk p | _=>False,sem:=fun | [p,_,_,_,_,_,a,b]=>[a*b%p] | _=>[] }
def pwM (p a n:Int):Int:=((a.toNat^n.toNat%p.toNat:Nat):Int)
def kLPow (f:FuncId):K:={fn:=f,ext:=false,ins:=[iC,iU,iU],outs:=[oU],pre:=fun | [p,_,_,_,_,_,_,_]=>pOk p | _=>False,sem:=fun | [p,_,_,_,_,_,a,n]=>[pwM p a n] | _=>[] }
def invP (p a:Int):Int:=pwM p a (p-2)
def kLInv (f:FuncId):K:={fn:=f,ext:=false,ins:=[iC,iU],outs:=[oU],pre:=fun | [p,_,_,_,_,_,_]=>pOk p | _=>False,sem:=fun | [p,_,_,_,_,_,a]=>[invP p a] | _=>[] }
def rightP (p x:Int):Int:=(x*x%p*x%p+x)%p
def kLRight (f:FuncId):K:={fn:=f,ext:=false,ins:=[iC,iU],outs:=[oU],pre:=fun | [p,_,_,_,_,_,x]=>pOk p/\x<p | _=>False,sem:=fun | [p,_,_,_,_,_,x]=>[rightP p x] | _=>[] }
def onP (p x y z:Int):Prop:=if z=0 then x<p/\y<p/\y*y%p=rightP p x else x=0/\y=0
instance (p x y z:Int):Decidable (onP p x y z):=by unfold onP;exact inferInstance
def kLOn (f:FuncId):K:={fn:=f,ext:=false,ins:=[iC,iPt],outs:=[oB],pre:=fun | [p,_,_,_,_,_,_,_,_]=>pOk p | _=>False,sem:=fun | [p,_,_,_,_,_,x,y,z]=>[bi (onP p x y z)] | _=>[] }
def slopeP (p x y x' y':Int):Int×Int :=
 if x≠x' then ((y'-y)%p*invP p ((x'-x)%p)%p,1)
 else if y≠y'∨y=0 then (0,0)
 else ((((x*x%p+x*x%p)%p+x*x%p)%p+1)%p*invP p ((y+y)%p)%p,1)
def kLSlope (f:FuncId):K:={fn:=f,ext:=false,ins:=[iC,iPt,iPt],outs:=[oU,oB],pre:=fun | [p,_,_,_,_,_,x,y,_,x',y',_]=>pOk p/\x<p/\y<p/\x'<p/\y'<p | _=>False,sem:=fun | [p,_,_,_,_,_,x,y,_,x',y',_]=>[(slopeP p x y x' y').1,(slopeP p x y x' y').2] | _=>[] }
structure Pt where
 x:Int
 y:Int
 z:Int
 deriving DecidableEq
def sumP (p:Int) (a b:Pt):Pt :=
 if a.z≠0 then b else if b.z≠0 then a else
 let s:=slopeP p a.x a.y b.x b.y
 if s.2=0 then ⟨0,0,1⟩ else
 let x:=((s.1*s.1%p-a.x)%p-b.x)%p
 ⟨x,(s.1*((a.x-x)%p)%p-a.y)%p,0⟩
def Pt.l (a:Pt):List Int:=[a.x,a.y,a.z]
def Pt.lt (a:Pt) (p:Int):Prop:=(0<=a.x/\a.x<p)/\(0<=a.y/\a.y<p)
def kLSum (f:FuncId):K:={fn:=f,ext:=false,ins:=[iC,iPt,iPt],outs:=[oPt],pre:=fun | [p,_,_,_,_,_,x,y,_,x',y',_]=>pOk p/\x<p/\y<p/\x'<p/\y'<p | _=>False,sem:=fun | [p,_,_,_,_,_,x,y,z,x',y',z']=>(sumP p ⟨x,y,z⟩ ⟨x',y',z'⟩).l | _=>[] }
def mulP (p:Int) (a:Pt):Nat->Nat->Pt
 | 0,_=>⟨0,0,1⟩
 | k+1,n=>if n=0 then ⟨0,0,1⟩ else
  let h:=mulP p a k (n/2)
  let d:=sumP p h h
  if n%2=1 then sumP p d a else d
def kLTimes (f:FuncId):K:={fn:=f,ext:=false,ins:=[iC,iPt,iU],outs:=[oPt],pre:=fun | [p,_,_,_,_,_,x,y,_,_]=>pOk p/\x<p/\y<p | _=>False,sem:=fun | [p,_,_,_,_,_,x,y,z,n]=>(mulP p ⟨x,y,z⟩ 64 n.toNat).l | _=>[] }
def inP (p r x y z:Int):Prop:=onP p x y z/\(mulP p ⟨x,y,z⟩ 64 r.toNat).z≠0
instance (p r x y z:Int):Decidable (inP p r x y z):=by unfold inP;exact inferInstance
def kLIn (f:FuncId):K:={fn:=f,ext:=false,ins:=[iC,iPt],outs:=[oB],pre:=fun | [p,_,_,_,_,_,_,_,_]=>pOk p | _=>False,sem:=fun | [p,r,_,_,_,_,x,y,z]=>[bi (inP p r x y z)] | _=>[] }
theorem pwM_eq {p a n:Int} (hp:0<p) (ha:0<=a):pwM p a n=a^n.toNat%p:=by
 unfold pwM
 rw [Int.natCast_emod,Int.natCast_pow,Int.toNat_of_nonneg ha,Int.toNat_of_nonneg (by omega)]
def tLAdd:Tree:=(.lett 8 (.int .u64) (.bin .add .u64 (.var 6) (.var 7))
(.lett 9 (.int .u64) (.bin .rem .u64 (.var 8) (.var 0))
(.nz (.var 0)
(.ret [.var 9]))))
theorem law_lAdd (f:FuncId) (e:Nat->Int) (hk:kkHas [.int .u64,.int .u64,.int .u64,.int .u64,.int .u64,.bit,.int .u64,.int .u64] [e 0,e 1,e 2,e 3,e 4,e 5,e 6,e 7]) (hp:(kLAdd f).pre [e 0,e 1,e 2,e 3,e 4,e 5,e 6,e 7]):tLAdd.says [] ⟨fun ys=>ys=(kLAdd f).sem [e 0,e 1,e 2,e 3,e 4,e 5,e 6,e 7],[]⟩ e:=by
 obtain ⟨⟨p0,p1⟩,p2,p3⟩:=hp
 obtain ⟨_,_,_,_,_,_,h6,h7,_⟩:=hk
 have u6:=has_u64 h6
 have u7:=has_u64 h7
 simp only [tLAdd,kLAdd,Tree.says,List.getElem?_cons_zero,List.getElem?_cons_succ,List.map,ev_lit,ev_var,ev_limb,D.ev,List.getD_cons_zero,List.getD_cons_succ]
 intro a8 _ a9 _
 have c8:e 8=e 6+e 7:=by rw [a8];simp only [binE,wr];omega
 refine ⟨by omega,?_⟩
 rw [a9,c8];simp only [binE];rw [Int.tmod_eq_emod_of_nonneg (by omega)]
def tLSub:Tree:=(.lett 8 (.int .u64) (.bin .add .u64 (.var 6) (.var 0))
(.lett 9 (.int .u64) (.bin .sub .u64 (.var 8) (.var 7))
(.lett 10 (.int .u64) (.bin .rem .u64 (.var 9) (.var 0))
(.nz (.var 0)
(.ret [.var 10])))))
theorem law_lSub (f:FuncId) (e:Nat->Int) (hk:kkHas [.int .u64,.int .u64,.int .u64,.int .u64,.int .u64,.bit,.int .u64,.int .u64] [e 0,e 1,e 2,e 3,e 4,e 5,e 6,e 7]) (hp:(kLSub f).pre [e 0,e 1,e 2,e 3,e 4,e 5,e 6,e 7]):tLSub.says [] ⟨fun ys=>ys=(kLSub f).sem [e 0,e 1,e 2,e 3,e 4,e 5,e 6,e 7],[]⟩ e:=by
 obtain ⟨⟨p0,p1⟩,p2,p3⟩:=hp
 obtain ⟨_,_,_,_,_,_,h6,h7,_⟩:=hk
 have u6:=has_u64 h6
 have u7:=has_u64 h7
 simp only [tLSub,kLSub,Tree.says,List.getElem?_cons_zero,List.getElem?_cons_succ,List.map,ev_lit,ev_var,ev_limb,D.ev,List.getD_cons_zero,List.getD_cons_succ]
 intro a8 _ a9 _ a10 _
 have c8:e 8=e 6+e 0:=by rw [a8];simp only [binE,wr];omega
 have c9:e 9=e 6+e 0-e 7:=by rw [a9,c8];simp only [binE,wr];omega
 refine ⟨by omega,?_⟩
 rw [a10,c9];simp only [binE];rw [Int.tmod_eq_emod_of_nonneg (by omega)]
 congr 1
 exact md 1 (by omega)
def tLMul:Tree:=(.req 0 [.var 6,.var 7]
(.lett 8 (.int .u64) (.app 0 0 [.var 6,.var 7])
(.lett 9 (.int .u64) (.app 0 1 [.var 6,.var 7])
(.req 1 [.var 8,.var 9,.var 0]
(.lett 10 (.int .u64) (.app 1 0 [.var 8,.var 9,.var 0])
(.ret [.var 10]))))))
theorem law_lMul (f1 f2 f:FuncId) (e:Nat->Int) (hp:(kLMul f).pre [e 0,e 1,e 2,e 3,e 4,e 5,e 6,e 7]):tLMul.says [kMul64 f1,kRem64 f2] ⟨fun ys=>ys=(kLMul f).sem [e 0,e 1,e 2,e 3,e 4,e 5,e 6,e 7],[]⟩ e:=by
 have p0:0<e 0:=by have:=hp.1;omega
 simp only [tLMul,kMul64,kRem64,kLMul,Tree.says,List.getElem?_cons_zero,List.getElem?_cons_succ,List.map,ev_lit,ev_var,ev_limb,D.ev,List.getD_cons_zero,List.getD_cons_succ]
 refine ⟨trivial,fun a1 _ a2 _=>⟨p0,fun a3 _=>?_⟩⟩
 rw [a3,a1,a2]
 congr 2
 generalize e 6*e 7=x
 omega
theorem shr_n {v x:Int} {n:Nat} (h:v=binE .shr .u64 x n) (hn:n<=63):v=x/2^n:=by
 rw [h]
 simp only [binE,Int.toNat_natCast]
 rw [show min n IntKind.u64.bits=n by simp [IntKind.bits];omega]
 rw [Int.fdiv_eq_ediv_of_nonneg _ (by exact_mod_cast Nat.zero_le _)]
 simp
def tLPow:Tree:=(.req 0 [.var 7]
(.lett 8 (.int .i64) (.app 0 0 [.var 7])
(.lett 9 (.int .i64) (.bin .sub .i64 (.var 8) (.lit 1))
(.loop [.var 9,.lit 1] [(.int .i64),(.int .u64)] 10
(.lett 12 .bit (.cmp .geq (.var 10) (.lit 0))
(.split 12
(.req 1 [.var 0,.var 1,.var 2,.var 3,.var 4,.var 5,.var 11,.var 11]
(.lett 13 (.int .u64) (.app 1 0 [.var 0,.var 1,.var 2,.var 3,.var 4,.var 5,.var 11,.var 11])
(.lett 14 .bit (.cmp .leq (.lit 0) (.var 10))
(.lett 15 (.int .u64) (.bin .shr .u64 (.var 7) (.var 10))
(.nz (.var 14)
(.lett 16 (.int .u64) (.bin .and .u64 (.var 15) (.lit 1))
(.lett 17 .bit (.cmp .eql (.var 16) (.lit 1))
(.split 17
 (.req 1 [.var 0,.var 1,.var 2,.var 3,.var 4,.var 5,.var 13,.var 6]
 (.lett 18 (.int .u64) (.app 1 0 [.var 0,.var 1,.var 2,.var 3,.var 4,.var 5,.var 13,.var 6])
 (.lett 19 (.int .i64) (.bin .sub .i64 (.var 10) (.lit 1))
 (.back 0 [.var 19,.var 18]))))
 (.lett 18 (.int .i64) (.bin .sub .i64 (.var 10) (.lit 1))
 (.back 0 [.var 18,.var 13]))))))))))
(.ret [.var 11])))))))
theorem law_lPow (f1 f2 f:FuncId) (e:Nat->Int) (hk:kkHas [.int .u64,.int .u64,.int .u64,.int .u64,.int .u64,.bit,.int .u64,.int .u64] [e 0,e 1,e 2,e 3,e 4,e 5,e 6,e 7]) (hp:(kLPow f).pre [e 0,e 1,e 2,e 3,e 4,e 5,e 6,e 7]):tLPow.says [kLen64 f1,kLMul f2] ⟨fun ys=>ys=(kLPow f).sem [e 0,e 1,e 2,e 3,e 4,e 5,e 6,e 7],[]⟩ e:=by
 have hp:pOk (e 0):=hp
 have p0:0<e 0:=by have:=hp.1;omega
 obtain ⟨_,_,_,_,_,_,h6,h7,_⟩:=hk
 have u6:=has_u64 h6
 have u7:=has_u64 h7
 simp only [tLPow,kLen64,kLMul,kLPow,Tree.says,List.getElem?_cons_zero,List.getElem?_cons_succ,List.map,ev_lit,ev_var,ev_limb,D.ev,List.getD_cons_zero,List.getD_cons_succ]
 refine ⟨trivial,fun a8 _ a9 _=>?_⟩
 have b0:=blen_nn (e 7)
 have b1:=blen_le 64 (e 7) u7.1 (by rw [p64'];exact u7.2)
 have c9:e 9=blen (e 7)-1:=by rw [a9,a8];simp only [binE,wr];omega
 rw [pwM_eq p0 u6.1]
 refine ⟨fun l=>PowI (e 0) (e 6) (e 7) l/\l.headD 0<=63,fun | [i,_]=>(i+1).toNat | _=>0,?_,fun e' he hkk hI=>?_⟩
 ·rw [c9]
  refine ⟨⟨by omega,by omega,?_⟩,by show blen (e 7)-1<=63;omega⟩
  rw [Int.sub_add_cancel]
  have h1:e 7/2^(blen (e 7)).toNat=0:=by
   by_cases hc:e 7<2^(blen (e 7)).toNat
   ·exact Int.ediv_eq_zero_of_lt u7.1 hc
   ·have:=blen_gt (blen (e 7)).toNat (e 7) (by omega);omega
  rw [h1,Int.toNat_zero,Int.pow_zero]
  exact (Int.emod_eq_of_lt (by decide) (by have:=hp.1;omega)).symm
 ·obtain ⟨⟨i1,i2,i3⟩,i4⟩:PowI (e 0) (e 6) (e 7) [e' 10,e' 11]/\e' 10<=63:=hI
  simp only [he 0 (by decide),he 1 (by decide),he 2 (by decide),he 3 (by decide),he 4 (by decide),he 5 (by decide),he 6 (by decide),he 7 (by decide)]
  intro a12 _
  have b12:=c_ge a12
  refine ⟨fun hs=>?_,fun hs=>?_⟩
  ·obtain ⟨n,hi⟩:=Int.eq_ofNat_of_zero_le (show 0<=e' 10 by omega)
   rw [hi,show ((n:Int)+1).toNat=n+1 by omega] at i3
   refine ⟨hp,fun a13 _ a14 _ a15 _=>⟨bit_nz a14 (by omega),fun a16 _ a17 _=>?_⟩⟩
   have b17:=c_eq a17
   rw [hi] at a15
   have c15:=shr_n a15 (by omega)
   have hq:(0:Int)<2^n:=Int.pow_pos (by decide)
   have u15:U (e' 15):=by
    rw [c15]
    exact ⟨Int.ediv_nonneg u7.1 (by omega),Int.lt_of_le_of_lt (Int.ediv_le_self _ u7.1) u7.2⟩
   have c16:=and_1 a16 u15
   rw [c15] at c16
   refine ⟨fun hs2=>?_,fun hs2=>?_⟩
   ·refine ⟨hp,fun a18 _ a19 _=>?_⟩
    have h19:e' 19=n-1:=by rw [a19];simp only [binE,wr];omega
    show (PowI (e 0) (e 6) (e 7) [e' 19,e' 18]/\e' 19<=63)/\(e' 19+1).toNat<(e' 10+1).toNat
    rw [h19,hi]
    refine ⟨⟨⟨by omega,by omega,?_⟩,by omega⟩,by omega⟩
    rw [show ((n:Int)-1+1).toNat=n by omega]
    exact pow_step1 u7.1 i3 a13 a18 (by omega)
   ·intro a18 _
    have h18:e' 18=n-1:=by rw [a18];simp only [binE,wr];omega
    show (PowI (e 0) (e 6) (e 7) [e' 18,e' 13]/\e' 18<=63)/\(e' 18+1).toNat<(e' 10+1).toNat
    rw [h18,hi]
    refine ⟨⟨⟨by omega,by omega,?_⟩,by omega⟩,by omega⟩
    rw [show ((n:Int)-1+1).toNat=n by omega]
    exact pow_step0 u7.1 i3 a13 (by omega)
  ·have h1:e' 10=-1:=by omega
   rw [i3,h1]
   show [e 6^(e 7/1).toNat%e 0]=_
   rw [Int.ediv_one]
def tLInv:Tree:=(.lett 7 (.int .u64) (.bin .sub .u64 (.var 0) (.lit 2))
(.req 0 [.var 0,.var 1,.var 2,.var 3,.var 4,.var 5,.var 6,.var 7]
(.lett 8 (.int .u64) (.app 0 0 [.var 0,.var 1,.var 2,.var 3,.var 4,.var 5,.var 6,.var 7])
(.ret [.var 8]))))
theorem law_lInv (f1 f:FuncId) (e:Nat->Int) (hk:kkHas [.int .u64,.int .u64,.int .u64,.int .u64,.int .u64,.bit,.int .u64] [e 0,e 1,e 2,e 3,e 4,e 5,e 6]) (hp:(kLInv f).pre [e 0,e 1,e 2,e 3,e 4,e 5,e 6]):tLInv.says [kLPow f1] ⟨fun ys=>ys=(kLInv f).sem [e 0,e 1,e 2,e 3,e 4,e 5,e 6],[]⟩ e:=by
 have hp:pOk (e 0):=hp
 have p0:=hp.1
 have p1:=hp.2
 simp only [tLInv,kLPow,kLInv,Tree.says,List.getElem?_cons_zero,List.getElem?_cons_succ,List.map,ev_lit,ev_var,ev_limb,D.ev,List.getD_cons_zero,List.getD_cons_succ]
 intro a7 _
 have c7:e 7=e 0-2:=by rw [a7];simp only [binE,wr];omega
 refine ⟨hp,fun a8 _=>?_⟩
 rw [a8,c7];rfl
def tLRight:Tree:=(.req 0 [.var 0,.var 1,.var 2,.var 3,.var 4,.var 5,.var 6,.var 6]
(.lett 247 (.int .u64) (.app 0 0 [.var 0,.var 1,.var 2,.var 3,.var 4,.var 5,.var 6,.var 6])
(.req 0 [.var 0,.var 1,.var 2,.var 3,.var 4,.var 5,.var 247,.var 6]
(.lett 343 (.int .u64) (.app 0 0 [.var 0,.var 1,.var 2,.var 3,.var 4,.var 5,.var 247,.var 6])
(.req 1 [.var 0,.var 1,.var 2,.var 3,.var 4,.var 5,.var 343,.var 6]
(.lett 439 (.int .u64) (.app 1 0 [.var 0,.var 1,.var 2,.var 3,.var 4,.var 5,.var 343,.var 6])
(.ret [.var 439])))))))
theorem law_lRight (f1 f2 f:FuncId) (e:Nat->Int) (hp:(kLRight f).pre [e 0,e 1,e 2,e 3,e 4,e 5,e 6]):tLRight.says [kLMul f1,kLAdd f2] ⟨fun ys=>ys=(kLRight f).sem [e 0,e 1,e 2,e 3,e 4,e 5,e 6],[]⟩ e:=by
 obtain ⟨hp,hx⟩:pOk (e 0)/\e 6<e 0:=hp
 have p0:=hp.1
 simp only [tLRight,kLMul,kLAdd,kLRight,Tree.says,List.getElem?_cons_zero,List.getElem?_cons_succ,List.map,ev_lit,ev_var,ev_limb,D.ev,List.getD_cons_zero,List.getD_cons_succ]
 refine ⟨hp,fun a1 _=>⟨hp,fun a2 _=>⟨⟨hp,by rw [a2];exact (md_lt (by omega)).2,hx⟩,fun a3 _=>?_⟩⟩⟩
 rw [a3,a2,a1];rfl
def tLOn:Tree:=(.split 8
(.lett 9 .bit (.cmp .eql (.var 6) (.lit 0))
(.split 9
 (.lett 10 .bit (.cmp .eql (.var 7) (.lit 0))
 (.ret [.var 10]))
 (.ret [.lit 0])))
(.lett 201 .bit (.cmp .lss (.var 6) (.var 0))
(.split 201
 (.lett 489 .bit (.cmp .lss (.var 7) (.var 0))
 (.split 489
 (.req 0 [.var 0,.var 1,.var 2,.var 3,.var 4,.var 5,.var 7,.var 7]
 (.lett 873 (.int .u64) (.app 0 0 [.var 0,.var 1,.var 2,.var 3,.var 4,.var 5,.var 7,.var 7])
 (.req 1 [.var 0,.var 1,.var 2,.var 3,.var 4,.var 5,.var 6]
 (.lett 1065 (.int .u64) (.app 1 0 [.var 0,.var 1,.var 2,.var 3,.var 4,.var 5,.var 6])
 (.lett 1113 .bit (.cmp .eql (.var 873) (.var 1065))
 (.ret [.var 1113]))))))
 (.ret [.lit 0])))
 (.ret [.lit 0]))))
theorem law_lOn (f1 f2 f:FuncId) (e:Nat->Int) (hp:(kLOn f).pre [e 0,e 1,e 2,e 3,e 4,e 5,e 6,e 7,e 8]):tLOn.says [kLMul f1,kLRight f2] ⟨fun ys=>ys=(kLOn f).sem [e 0,e 1,e 2,e 3,e 4,e 5,e 6,e 7,e 8],[]⟩ e:=by
 have hp:pOk (e 0):=hp
 simp only [tLOn,kLMul,kLRight,kLOn,Tree.says,List.getElem?_cons_zero,List.getElem?_cons_succ,List.map,ev_lit,ev_var,ev_limb,D.ev,List.getD_cons_zero,List.getD_cons_succ]
 unfold bi
 refine ⟨fun hz=>?_,fun hz=>?_⟩
 ·intro a9 _
  have b9:=c_eq a9
  refine ⟨fun h1=>?_,fun h1=>?_⟩
  ·intro a10 _
   have b10:=c_eq a10
   have:onP (e 0) (e 6) (e 7) (e 8)↔e 7=0:=by unfold onP;rw [if_neg hz];constructor <;> intro h <;> omega
   simp only [this]
   congr 1
   split <;> omega
  ·have:¬ onP (e 0) (e 6) (e 7) (e 8):=by unfold onP;rw [if_neg hz];omega
   rw [if_neg this]
 ·intro a1 _
  have b1:=c_lt a1
  have hon:onP (e 0) (e 6) (e 7) (e 8)↔e 6<e 0/\e 7<e 0/\e 7*e 7%e 0=rightP (e 0) (e 6):=by unfold onP;rw [if_pos hz]
  refine ⟨fun h1=>?_,fun h1=>?_⟩
  ·intro a2 _
   have b2:=c_lt a2
   refine ⟨fun h2=>?_,fun h2=>?_⟩
   ·refine ⟨hp,fun a3 _=>⟨⟨hp,by omega⟩,fun a4 _ a5 _=>?_⟩⟩
    have b5:=c_eq a5
    rw [a3,a4] at b5
    simp only [hon]
    congr 1
    split
    ·rename_i h;rcases b5 with b5 | b5
     ·exact b5.1
     ·exact absurd h.2.2 b5.2
    ·rename_i h;rcases b5 with b5 | b5
     ·exact absurd ⟨by omega,by omega,b5.2⟩ h
     ·exact b5.1
   ·rw [if_neg (by rw [hon];omega)]
  ·rw [if_neg (by rw [hon];omega)]
def tLSlope:Tree:=(.lett 12 .bit (.cmp .neq (.var 6) (.var 9))
(.split 12
(.req 0 [.var 0,.var 1,.var 2,.var 3,.var 4,.var 5,.var 10,.var 7]
(.lett 301 (.int .u64) (.app 0 0 [.var 0,.var 1,.var 2,.var 3,.var 4,.var 5,.var 10,.var 7])
(.req 0 [.var 0,.var 1,.var 2,.var 3,.var 4,.var 5,.var 9,.var 6]
(.lett 637 (.int .u64) (.app 0 0 [.var 0,.var 1,.var 2,.var 3,.var 4,.var 5,.var 9,.var 6])
(.req 1 [.var 0,.var 1,.var 2,.var 3,.var 4,.var 5,.var 637]
(.lett 685 (.int .u64) (.app 1 0 [.var 0,.var 1,.var 2,.var 3,.var 4,.var 5,.var 637])
(.req 2 [.var 0,.var 1,.var 2,.var 3,.var 4,.var 5,.var 301,.var 685]
(.lett 733 (.int .u64) (.app 2 0 [.var 0,.var 1,.var 2,.var 3,.var 4,.var 5,.var 301,.var 685])
(.ret [.var 733,.lit 1])))))))))
(.lett 13 .bit (.cmp .neq (.var 7) (.var 10))
(.split 13
 (.ret [.lit 0,.lit 0])
 (.lett 14 .bit (.cmp .eql (.var 7) (.lit 0))
 (.split 14
 (.ret [.lit 0,.lit 0])
 (.req 2 [.var 0,.var 1,.var 2,.var 3,.var 4,.var 5,.var 6,.var 6]
 (.lett 15 (.int .u64) (.app 2 0 [.var 0,.var 1,.var 2,.var 3,.var 4,.var 5,.var 6,.var 6])
 (.req 3 [.var 0,.var 1,.var 2,.var 3,.var 4,.var 5,.var 15,.var 15]
 (.lett 304 (.int .u64) (.app 3 0 [.var 0,.var 1,.var 2,.var 3,.var 4,.var 5,.var 15,.var 15])
 (.req 3 [.var 0,.var 1,.var 2,.var 3,.var 4,.var 5,.var 304,.var 15]
 (.lett 400 (.int .u64) (.app 3 0 [.var 0,.var 1,.var 2,.var 3,.var 4,.var 5,.var 304,.var 15])
 (.req 3 [.var 0,.var 1,.var 2,.var 3,.var 4,.var 5,.var 400,.lit 1]
 (.lett 448 (.int .u64) (.app 3 0 [.var 0,.var 1,.var 2,.var 3,.var 4,.var 5,.var 400,.lit 1])
 (.req 3 [.var 0,.var 1,.var 2,.var 3,.var 4,.var 5,.var 7,.var 7]
 (.lett 784 (.int .u64) (.app 3 0 [.var 0,.var 1,.var 2,.var 3,.var 4,.var 5,.var 7,.var 7])
 (.req 1 [.var 0,.var 1,.var 2,.var 3,.var 4,.var 5,.var 784]
 (.lett 832 (.int .u64) (.app 1 0 [.var 0,.var 1,.var 2,.var 3,.var 4,.var 5,.var 784])
 (.req 2 [.var 0,.var 1,.var 2,.var 3,.var 4,.var 5,.var 448,.var 832]
 (.lett 880 (.int .u64) (.app 2 0 [.var 0,.var 1,.var 2,.var 3,.var 4,.var 5,.var 448,.var 832])
 (.ret [.var 880,.lit 1])))))))))))))))))))))
theorem law_lSlope (f1 f2 f3 f4 f:FuncId) (e:Nat->Int) (hk:kkHas [.int .u64,.int .u64,.int .u64,.int .u64,.int .u64,.bit,.int .u64,.int .u64,.bit,.int .u64,.int .u64,.bit] [e 0,e 1,e 2,e 3,e 4,e 5,e 6,e 7,e 8,e 9,e 10,e 11]) (hp:(kLSlope f).pre [e 0,e 1,e 2,e 3,e 4,e 5,e 6,e 7,e 8,e 9,e 10,e 11]):tLSlope.says [kLSub f1,kLInv f2,kLMul f3,kLAdd f4] ⟨fun ys=>ys=(kLSlope f).sem [e 0,e 1,e 2,e 3,e 4,e 5,e 6,e 7,e 8,e 9,e 10,e 11],[]⟩ e:=by
 obtain ⟨hp,q1,q2,q3,q4⟩:=hp
 have p0:0<e 0:=by have:=hp.1;omega
 have p3:=hp.1
 have lt:∀ x:Int,x%e 0<e 0:=fun x=>(md_lt p0).2
 simp only [tLSlope,kLSub,kLInv,kLMul,kLAdd,kLSlope,Tree.says,List.getElem?_cons_zero,List.getElem?_cons_succ,List.map,ev_lit,ev_var,ev_limb,D.ev,List.getD_cons_zero,List.getD_cons_succ]
 intro a12 _
 have b12:=c_ne a12
 refine ⟨fun h=>?_,fun h=>?_⟩
 ·refine ⟨⟨hp,q4,q2⟩,fun a1 _=>⟨⟨hp,q3,q1⟩,fun a2 _=>⟨hp,fun a3 _=>⟨hp,fun a4 _=>?_⟩⟩⟩⟩
  unfold slopeP
  rw [if_pos (by omega),a4,a1,a3,a2]
 ·intro a13 _
  have b13:=c_ne a13
  refine ⟨fun h1=>?_,fun h1=>?_⟩
  ·unfold slopeP
   rw [if_neg (by omega),if_pos (by omega)]
  ·intro a14 _
   have b14:=c_eq a14
   refine ⟨fun h2=>?_,fun h2=>?_⟩
   ·unfold slopeP
    rw [if_neg (by omega),if_pos (by omega)]
   ·refine ⟨hp,fun a1 _=>⟨⟨hp,by rw [a1];exact lt _,by rw [a1];exact lt _⟩,fun a2 _=>⟨⟨hp,by rw [a2];exact lt _,by rw [a1];exact lt _⟩,fun a3 _=>⟨⟨hp,by rw [a3];exact lt _,by omega⟩,fun a4 _=>⟨⟨hp,q2,q2⟩,fun a5 _=>⟨hp,fun a6 _=>⟨hp,fun a7 _=>?_⟩⟩⟩⟩⟩⟩⟩
    unfold slopeP
    rw [if_neg (by omega),if_neg (by omega),a7,a4,a6,a3,a5,a2,a1]
def tLSum:Tree:=(.split 8
(.ret [.var 9,.var 10,.var 11])
(.split 11
 (.ret [.var 6,.var 7,.var 8])
 (.req 0 [.var 0,.var 1,.var 2,.var 3,.var 4,.var 5,.var 6,.var 7,.var 8,.var 9,.var 10,.var 11]
 (.lett 12 (.int .u64) (.app 0 0 [.var 0,.var 1,.var 2,.var 3,.var 4,.var 5,.var 6,.var 7,.var 8,.var 9,.var 10,.var 11])
 (.lett 13 .bit (.app 0 1 [.var 0,.var 1,.var 2,.var 3,.var 4,.var 5,.var 6,.var 7,.var 8,.var 9,.var 10,.var 11])
 (.lett 14 .bit (.not (.var 13))
 (.split 14
 (.ret [.lit 0,.lit 0,.lit 1])
 (.req 1 [.var 0,.var 1,.var 2,.var 3,.var 4,.var 5,.var 12,.var 12]
 (.lett 255 (.int .u64) (.app 1 0 [.var 0,.var 1,.var 2,.var 3,.var 4,.var 5,.var 12,.var 12])
 (.req 2 [.var 0,.var 1,.var 2,.var 3,.var 4,.var 5,.var 255,.var 6]
 (.lett 399 (.int .u64) (.app 2 0 [.var 0,.var 1,.var 2,.var 3,.var 4,.var 5,.var 255,.var 6])
 (.req 2 [.var 0,.var 1,.var 2,.var 3,.var 4,.var 5,.var 399,.var 9]
 (.lett 543 (.int .u64) (.app 2 0 [.var 0,.var 1,.var 2,.var 3,.var 4,.var 5,.var 399,.var 9])
 (.req 2 [.var 0,.var 1,.var 2,.var 3,.var 4,.var 5,.var 6,.var 543]
 (.lett 1023 (.int .u64) (.app 2 0 [.var 0,.var 1,.var 2,.var 3,.var 4,.var 5,.var 6,.var 543])
 (.req 1 [.var 0,.var 1,.var 2,.var 3,.var 4,.var 5,.var 12,.var 1023]
 (.lett 1071 (.int .u64) (.app 1 0 [.var 0,.var 1,.var 2,.var 3,.var 4,.var 5,.var 12,.var 1023])
 (.req 2 [.var 0,.var 1,.var 2,.var 3,.var 4,.var 5,.var 1071,.var 7]
 (.lett 1215 (.int .u64) (.app 2 0 [.var 0,.var 1,.var 2,.var 3,.var 4,.var 5,.var 1071,.var 7])
 (.ret [.var 543,.var 1215,.lit 0]))))))))))))))))))))
theorem law_lSum (f1 f2 f3 f:FuncId) (e:Nat->Int) (hk:kkHas [.int .u64,.int .u64,.int .u64,.int .u64,.int .u64,.bit,.int .u64,.int .u64,.bit,.int .u64,.int .u64,.bit] [e 0,e 1,e 2,e 3,e 4,e 5,e 6,e 7,e 8,e 9,e 10,e 11]) (hp:(kLSum f).pre [e 0,e 1,e 2,e 3,e 4,e 5,e 6,e 7,e 8,e 9,e 10,e 11]):tLSum.says [kLSlope f1,kLMul f2,kLSub f3] ⟨fun ys=>ys=(kLSum f).sem [e 0,e 1,e 2,e 3,e 4,e 5,e 6,e 7,e 8,e 9,e 10,e 11],[]⟩ e:=by
 obtain ⟨hp,q1,q2,q3,q4⟩:=hp
 have p0:0<e 0:=by have:=hp.1;omega
 have lt:∀ x:Int,x%e 0<e 0:=fun x=>(md_lt p0).2
 simp only [tLSum,kLSlope,kLMul,kLSub,kLSum,Tree.says,List.getElem?_cons_zero,List.getElem?_cons_succ,List.map,ev_lit,ev_var,ev_limb,D.ev,List.getD_cons_zero,List.getD_cons_succ]
 refine ⟨fun h=>?_,fun h=>?_⟩
 ·unfold sumP Pt.l;rw [if_pos h]
 refine ⟨fun h1=>?_,fun h1=>?_⟩
 ·unfold sumP Pt.l;rw [if_neg (by simpa using h),if_pos h1]
 refine ⟨⟨hp,q1,q2,q3,q4⟩,fun a12 _ a13 _ a14 _=>?_⟩
 have b14:=c_not a14
 refine ⟨fun h2=>?_,fun h2=>?_⟩
 ·have hz:(slopeP (e 0) (e 6) (e 7) (e 9) (e 10)).2=0:=by rw [<- a13];omega
  unfold sumP Pt.l
  rw [if_neg (by simpa using h),if_neg (by simpa using h1)]
  simp only [hz,if_true]
 ·have hz:¬ (slopeP (e 0) (e 6) (e 7) (e 9) (e 10)).2=0:=by rw [<- a13];omega
  refine ⟨hp,fun a1 _=>⟨⟨hp,by rw [a1];exact lt _,q1⟩,fun a2 _=>⟨⟨hp,by rw [a2];exact lt _,q3⟩,fun a3 _=>⟨⟨hp,q1,by rw [a3];exact lt _⟩,fun a4 _=>⟨hp,fun a5 _=>⟨⟨hp,by rw [a5];exact lt _,q2⟩,fun a6 _=>?_⟩⟩⟩⟩⟩⟩
  unfold sumP Pt.l
  rw [if_neg (by simpa using h),if_neg (by simpa using h1)]
  simp only [hz,if_false]
  rw [a6,a5,a4,a3,a2,a1,a12]
theorem sumP_lt {p:Int} (hp:0<p) {a b:Pt} (ha:a.lt p) (hb:b.lt p):(sumP p a b).lt p:=by
 unfold sumP
 split
 ·exact hb
 split
 ·exact ha
 simp only
 split
 ·exact ⟨⟨Int.le_refl _,hp⟩,Int.le_refl _,hp⟩
 ·exact ⟨md_lt hp,md_lt hp⟩
theorem mulP_lt {p:Int} (hp:0<p) {a:Pt} (ha:a.lt p):∀ (k n:Nat),(mulP p a k n).lt p
 | 0,n=>⟨⟨Int.le_refl _,hp⟩,Int.le_refl _,hp⟩
 | k+1,n=>by
  unfold mulP
  split
  ·exact ⟨⟨Int.le_refl _,hp⟩,Int.le_refl _,hp⟩
  ·simp only
   have h:=mulP_lt hp ha k (n/2)
   have hd:=sumP_lt hp h h
   split
   ·exact sumP_lt hp hd ha
   ·exact hd
theorem mulP_fuel {p:Int} {a:Pt}:∀ (k n:Nat),n<2^k->mulP p a (k+1) n=mulP p a k n
 | 0,n,h=>by
  have:n=0:=by simpa using h
  subst this;rfl
 | k+1,n,h=>by
  have ih:=mulP_fuel (p:=p) (a:=a) k (n/2) (by rw [Nat.pow_succ] at h;omega)
  have e1:∀ j,mulP p a (j+1) n=if n=0 then ⟨0,0,1⟩ else (if n%2=1 then sumP p (sumP p (mulP p a j (n/2)) (mulP p a j (n/2))) a else sumP p (mulP p a j (n/2)) (mulP p a j (n/2))):=fun j=>rfl
  rw [e1,e1,ih]
theorem mulP_step {p:Int} {a:Pt} {n:Nat} (h:n<2^64):mulP p a 64 n=(if n%2=1 then sumP p (sumP p (mulP p a 64 (n/2)) (mulP p a 64 (n/2))) a else sumP p (mulP p a 64 (n/2)) (mulP p a 64 (n/2))):=by
 have hf:mulP p a 64 (n/2)=mulP p a 63 (n/2):=mulP_fuel 63 (n/2) (by omega)
 rw [hf]
 conv=>lhs;unfold mulP
 split
 ·rename_i h0
  subst h0
  rfl
 ·rfl
def TimesI (p:Int) (a:Pt) (n:Int):List Int->Prop
 | [i,x,y,z]=>-1<=i/\i<=63/\(⟨x,y,z⟩:Pt)=mulP p a 64 (n/2^(i+1).toNat).toNat
 | _=>False
def tLTimes:Tree:=(.req 0 [.var 9]
(.lett 10 (.int .i64) (.app 0 0 [.var 9])
(.lett 11 (.int .i64) (.bin .sub .i64 (.var 10) (.lit 1))
(.loop [.var 11,.lit 0,.lit 0,.lit 1] [(.int .i64),(.int .u64),(.int .u64),.bit] 12
(.lett 16 .bit (.cmp .geq (.var 12) (.lit 0))
(.split 16
(.req 1 [.var 0,.var 1,.var 2,.var 3,.var 4,.var 5,.var 13,.var 14,.var 15,.var 13,.var 14,.var 15]
(.lett 17 (.int .u64) (.app 1 0 [.var 0,.var 1,.var 2,.var 3,.var 4,.var 5,.var 13,.var 14,.var 15,.var 13,.var 14,.var 15])
(.lett 18 (.int .u64) (.app 1 1 [.var 0,.var 1,.var 2,.var 3,.var 4,.var 5,.var 13,.var 14,.var 15,.var 13,.var 14,.var 15])
(.lett 19 .bit (.app 1 2 [.var 0,.var 1,.var 2,.var 3,.var 4,.var 5,.var 13,.var 14,.var 15,.var 13,.var 14,.var 15])
(.lett 20 .bit (.cmp .leq (.lit 0) (.var 12))
(.lett 21 (.int .u64) (.bin .shr .u64 (.var 9) (.var 12))
(.nz (.var 20)
(.lett 22 (.int .u64) (.bin .and .u64 (.var 21) (.lit 1))
(.lett 23 .bit (.cmp .eql (.var 22) (.lit 1))
(.split 23
 (.req 1 [.var 0,.var 1,.var 2,.var 3,.var 4,.var 5,.var 17,.var 18,.var 19,.var 6,.var 7,.var 8]
 (.lett 24 (.int .u64) (.app 1 0 [.var 0,.var 1,.var 2,.var 3,.var 4,.var 5,.var 17,.var 18,.var 19,.var 6,.var 7,.var 8])
 (.lett 25 (.int .u64) (.app 1 1 [.var 0,.var 1,.var 2,.var 3,.var 4,.var 5,.var 17,.var 18,.var 19,.var 6,.var 7,.var 8])
 (.lett 26 .bit (.app 1 2 [.var 0,.var 1,.var 2,.var 3,.var 4,.var 5,.var 17,.var 18,.var 19,.var 6,.var 7,.var 8])
 (.lett 27 (.int .i64) (.bin .sub .i64 (.var 12) (.lit 1))
 (.back 0 [.var 27,.var 24,.var 25,.var 26]))))))
 (.lett 24 (.int .i64) (.bin .sub .i64 (.var 12) (.lit 1))
 (.back 0 [.var 24,.var 17,.var 18,.var 19]))))))))))))
(.ret [.var 13,.var 14,.var 15])))))))
theorem law_lTimes (f1 f2 f:FuncId) (e:Nat->Int) (hk:kkHas [.int .u64,.int .u64,.int .u64,.int .u64,.int .u64,.bit,.int .u64,.int .u64,.bit,.int .u64] [e 0,e 1,e 2,e 3,e 4,e 5,e 6,e 7,e 8,e 9]) (hp:(kLTimes f).pre [e 0,e 1,e 2,e 3,e 4,e 5,e 6,e 7,e 8,e 9]):tLTimes.says [kLen64 f1,kLSum f2] ⟨fun ys=>ys=(kLTimes f).sem [e 0,e 1,e 2,e 3,e 4,e 5,e 6,e 7,e 8,e 9],[]⟩ e:=by
 obtain ⟨hp,q1,q2⟩:=hp
 have p0:0<e 0:=by have:=hp.1;omega
 obtain ⟨_,_,_,_,_,_,h6,h7,h8,h9,_⟩:=hk
 have u6:=has_u64 h6
 have u7:=has_u64 h7
 have u9:=has_u64 h9
 have ha:(⟨e 6,e 7,e 8⟩:Pt).lt (e 0):=⟨⟨u6.1,q1⟩,u7.1,q2⟩
 simp only [tLTimes,kLen64,kLSum,kLTimes,Tree.says,List.getElem?_cons_zero,List.getElem?_cons_succ,List.map,ev_lit,ev_var,ev_limb,D.ev,List.getD_cons_zero,List.getD_cons_succ]
 refine ⟨trivial,fun a10 _ a11 _=>?_⟩
 have b0:=blen_nn (e 9)
 have b1:=blen_le 64 (e 9) u9.1 (by rw [p64'];exact u9.2)
 have c11:e 11=blen (e 9)-1:=by rw [a11,a10];simp only [binE,wr];omega
 refine ⟨TimesI (e 0) ⟨e 6,e 7,e 8⟩ (e 9),fun | [i,_,_,_]=>(i+1).toNat | _=>0,?_,fun e' he hkk hI=>?_⟩
 ·rw [c11]
  refine ⟨by omega,by omega,?_⟩
  rw [Int.sub_add_cancel]
  have h1:e 9/2^(blen (e 9)).toNat=0:=by
   by_cases hc:e 9<2^(blen (e 9)).toNat
   ·exact Int.ediv_eq_zero_of_lt u9.1 hc
   ·have:=blen_gt (blen (e 9)).toNat (e 9) (by omega);omega
  rw [h1];rfl
 ·obtain ⟨i1,i2,i3⟩:TimesI (e 0) ⟨e 6,e 7,e 8⟩ (e 9) [e' 12,e' 13,e' 14,e' 15]:=hI
  simp only [he 0 (by decide),he 1 (by decide),he 2 (by decide),he 3 (by decide),he 4 (by decide),he 5 (by decide),he 6 (by decide),he 7 (by decide),he 8 (by decide),he 9 (by decide)]
  intro a16 _
  have b16:=c_ge a16
  refine ⟨fun hs=>?_,fun hs=>?_⟩
  ·obtain ⟨n,hi⟩:=Int.eq_ofNat_of_zero_le (show 0<=e' 12 by omega)
   rw [hi,show ((n:Int)+1).toNat=n+1 by omega] at i3
   have hq:(0:Int)<2^n:=Int.pow_pos (by decide)
   have hn0:=Int.ediv_nonneg u9.1 (show (0:Int)<=2^n by omega)
   have hn1:e 9/2^n<18446744073709551616:=Int.lt_of_le_of_lt (Int.ediv_le_self _ u9.1) u9.2
   have hlt:=mulP_lt p0 ha 64 (e 9/2^(n+1)).toNat
   rw [<- i3] at hlt
   have hst:=mulP_step (p:=e 0) (a:=⟨e 6,e 7,e 8⟩) (n:=(e 9/2^n).toNat) (by omega)
   have hhalf:(e 9/2^n).toNat/2=(e 9/2^(n+1)).toNat:=by
    rw [Int.pow_succ,<- Int.ediv_ediv_of_nonneg (by omega)];omega
   rw [hhalf,<- i3] at hst
   refine ⟨⟨hp,hlt.1.2,hlt.2.2,hlt.1.2,hlt.2.2⟩,fun a17 _ a18 _ a19 _ a20 _ a21 _=>⟨bit_nz a20 (by omega),fun a22 _ a23 _=>?_⟩⟩
   have b23:=c_eq a23
   rw [hi] at a21
   have c21:=shr_n a21 (by omega)
   have c22:=and_1 a22 (by rw [c21];exact ⟨hn0,hn1⟩)
   rw [c21] at c22
   have hd:(⟨e' 17,e' 18,e' 19⟩:Pt)=sumP (e 0) ⟨e' 13,e' 14,e' 15⟩ ⟨e' 13,e' 14,e' 15⟩:=by rw [a17,a18,a19];rfl
   have hdl:=sumP_lt p0 hlt hlt
   rw [<- hd] at hdl hst
   refine ⟨fun hs2=>?_,fun hs2=>?_⟩
   ·refine ⟨⟨hp,hdl.1.2,hdl.2.2,q1,q2⟩,fun a24 _ a25 _ a26 _ a27 _=>?_⟩
    have h27:e' 27=n-1:=by rw [a27];simp only [binE,wr];omega
    show TimesI (e 0) ⟨e 6,e 7,e 8⟩ (e 9) [e' 27,e' 24,e' 25,e' 26]/\(e' 27+1).toNat<(e' 12+1).toNat
    rw [h27,hi]
    refine ⟨⟨by omega,by omega,?_⟩,by omega⟩
    rw [show ((n:Int)-1+1).toNat=n by omega,hst,if_pos (by omega),a24,a25,a26];rfl
   ·intro a24 _
    have h24:e' 24=n-1:=by rw [a24];simp only [binE,wr];omega
    show TimesI (e 0) ⟨e 6,e 7,e 8⟩ (e 9) [e' 24,e' 17,e' 18,e' 19]/\(e' 24+1).toNat<(e' 12+1).toNat
    rw [h24,hi]
    refine ⟨⟨by omega,by omega,?_⟩,by omega⟩
    rw [show ((n:Int)-1+1).toNat=n by omega,hst,if_neg (by omega)]
  ·have h1:e' 12=-1:=by omega
   rw [h1] at i3
   have h2:(⟨e' 13,e' 14,e' 15⟩:Pt)=mulP (e 0) ⟨e 6,e 7,e 8⟩ 64 (e 9).toNat:=by
    rw [i3];congr 2
    show e 9/1=e 9
    rw [Int.ediv_one]
   rw [<- h2];rfl
def tLIn:Tree:=(.req 0 [.var 0,.var 1,.var 2,.var 3,.var 4,.var 5,.var 6,.var 7,.var 8]
(.lett 9 .bit (.app 0 0 [.var 0,.var 1,.var 2,.var 3,.var 4,.var 5,.var 6,.var 7,.var 8])
(.split 9
(.req 1 [.var 0,.var 1,.var 2,.var 3,.var 4,.var 5,.var 6,.var 7,.var 8,.var 1]
(.lett 10 (.int .u64) (.app 1 0 [.var 0,.var 1,.var 2,.var 3,.var 4,.var 5,.var 6,.var 7,.var 8,.var 1])
(.lett 11 (.int .u64) (.app 1 1 [.var 0,.var 1,.var 2,.var 3,.var 4,.var 5,.var 6,.var 7,.var 8,.var 1])
(.lett 12 .bit (.app 1 2 [.var 0,.var 1,.var 2,.var 3,.var 4,.var 5,.var 6,.var 7,.var 8,.var 1])
(.ret [.var 12])))))
(.ret [.lit 0]))))
theorem law_lIn (f1 f2 f:FuncId) (e:Nat->Int) (hk:kkHas [.int .u64,.int .u64,.int .u64,.int .u64,.int .u64,.bit,.int .u64,.int .u64,.bit] [e 0,e 1,e 2,e 3,e 4,e 5,e 6,e 7,e 8]) (hp:(kLIn f).pre [e 0,e 1,e 2,e 3,e 4,e 5,e 6,e 7,e 8]):tLIn.says [kLOn f1,kLTimes f2] ⟨fun ys=>ys=(kLIn f).sem [e 0,e 1,e 2,e 3,e 4,e 5,e 6,e 7,e 8],[]⟩ e:=by
 have hp:pOk (e 0):=hp
 have p0:=hp.1
 simp only [tLIn,kLOn,kLTimes,kLIn,Tree.says,List.getElem?_cons_zero,List.getElem?_cons_succ,List.map,ev_lit,ev_var,ev_limb,D.ev,List.getD_cons_zero,List.getD_cons_succ]
 refine ⟨hp,fun a9 _=>?_⟩
 unfold bi at a9 ⊢
 refine ⟨fun h=>?_,fun h=>?_⟩
 ·have hon:onP (e 0) (e 6) (e 7) (e 8):=by
   by_cases hc:onP (e 0) (e 6) (e 7) (e 8)
   ·exact hc
   ·rw [if_neg hc] at a9;omega
  have hb:e 6<e 0/\e 7<e 0:=by
   unfold onP at hon
   split at hon <;> omega
  refine ⟨⟨hp,hb.1,hb.2⟩,fun a10 _ a11 _ a12 k12=>?_⟩
  have hz:e 12=(mulP (e 0) ⟨e 6,e 7,e 8⟩ 64 (e 1).toNat).z:=a12
  have k12:0<=e 12/\e 12<=1:=k12
  by_cases hc:(mulP (e 0) ⟨e 6,e 7,e 8⟩ 64 (e 1).toNat).z≠0
  ·rw [if_pos ⟨hon,hc⟩];congr 1;omega
  ·rw [if_neg (fun hh=>hc hh.2)];congr 1;omega
 ·have hon:¬ onP (e 0) (e 6) (e 7) (e 8):=fun hc=>by rw [if_pos hc] at a9;omega
  rw [if_neg (fun hh=>hon hh.1)]
end Go.Sx
