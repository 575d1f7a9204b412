/- Part Gm of the proof. -/
import Derived.Test.YtlddchekkjjleaaGreatGl
import Derived.Test.YtlddchekkjjleaaGreatGh
import Derived.Test.YtlddchekkjjleaaGreatGk
import Derived.Test.YtlddchekkjjleaaGreatGj
import Derived.Test.YtlddchekkjjleaaGreatGg
import Derived.Lib.Bytealg
set_option linter.unusedVariables false
set_option linter.unusedSimpArgs false
namespace Go.Sx
open Go Go.RowKit
set_option maxRecDepth 100000
set_option linter.unusedVariables false
set_option linter.unusedSimpArgs false
noncomputable def kRBelow (f:FuncId):K:={fn:=f,ext:=false,ins:=[iN],outs:=[oB],pre:=fun _=>True,sem:=fun | [a]=>[bj (a < bP)] | _=>[] }
def kRSide1 (f:FuncId):K:={fn:=f,ext:=false,ins:=[iN],outs:=[oN],pre:=fun | [a]=>a < bP | _=>False,sem:=fun | [a]=>[(a * a * a + 4) % bP] | _=>[] }
def kRNeg1 (f:FuncId):K:={fn:=f,ext:=false,ins:=[.agg lsPl],outs:=[.agg lsPl],pre:=fun | [_,y,_]=>y < bP | _=>False,sem:=fun | [x,y,z]=>[x,(-y) % bP,z] | _=>[] }
def tRBase:Tree:=(.ret [.lit 4002409555221667393417789825735904156556882819939007885332058136124031650490837864442687629129015664037894272559787])
theorem law_rBase (f:FuncId) (e:Nat → Int):tRBase.says [] ⟨fun ys=>ys=(kMBase f).sem [],[]⟩ e:=by
 show [_]=[bP]
 rfl
def tROrder:Tree:=(.ret [.lit 52435875175126190479447740508185965837690552500527637822603658699938581184513])
theorem law_rOrder (f:FuncId) (e:Nat → Int):tROrder.says [] ⟨fun ys=>ys=(kMOrder f).sem [],[]⟩ e:=by
 show [_]=[rGreat]
 rfl
def tRBelow:Tree:=(.req 0 []
(.lett 49 .num (.app 0 0 [])
(.req 1 [.var 0,.var 49]
(.lett 97 (.int .i64) (.app 1 0 [.var 0,.var 49])
(.lett 145 .bit (.cmp .lss (.var 97) (.lit 0))
(.ret [.var 145]))))))
theorem law_rBelow (f1 f2 f:FuncId) (e:Nat → Int) (hk:kkHas [.num] [e 0]):tRBelow.says [kMBase f1,kWCmp f2] ⟨fun ys=>ys=(kRBelow f).sem [e 0],[]⟩ e:=by
 clear hk
 show tRBelow.says _ ⟨fun ys=>ys=[bj (e 0 < bP)],[]⟩ e
 refine ⟨trivial,?_⟩
 intro a49 k49
 have q49:=(show e 49=bP from a49)
 clear a49 k49
 refine ⟨trivial,?_⟩
 intro a97 k97
 have q97:=(show e 97=if (e 0) < (e 49) then -1 else if (e 0)=(e 49) then 0 else 1 from a97)
 clear a97 k97
 intro a145 k145
 have b145:=c_lt a145
 simp only [ev_var,ev_lit,ev_limb] at b145
 clear a145 k145
 show [e 145]=_
 rw [q49] at q97
 exact congrArg (fun x=>[x]) (bj_of (p:=e 0 < bP) (by
  rcases b145 with ⟨h1,h2⟩ | ⟨h1,h2⟩
  ·left; refine ⟨h1,?_⟩; rw [q97] at h2; split at h2
   ·assumption
   ·split at h2 <;> exact absurd h2 (by decide)
  ·right; refine ⟨h1,fun hc=>h2 ?_⟩; rw [q97,if_pos hc]; decide))
def tRSide1:Tree:=(.req 0 []
(.lett 1 .num (.app 0 0 [])
(.lett 2 (.int .u64) (.app 0 1 [])
(.lett 3 .num (.app 0 2 [])
(.req 1 [.var 1,.var 2,.var 3,.var 0,.var 0]
(.lett 244 .num (.app 1 0 [.var 1,.var 2,.var 3,.var 0,.var 0])
(.req 1 [.var 1,.var 2,.var 3,.var 244,.var 0]
(.lett 340 .num (.app 1 0 [.var 1,.var 2,.var 3,.var 244,.var 0])
(.req 2 [.var 1,.var 2,.var 3,.var 340,.lit 4]
(.lett 436 .num (.app 2 0 [.var 1,.var 2,.var 3,.var 340,.lit 4])
(.ret [.var 436])))))))))))
theorem law_rSide1 (f1 f2 f3 f:FuncId) (e:Nat → Int) (hk:kkHas [.num] [e 0]) (hp:(kRSide1 f).pre [e 0]):tRSide1.says [kRP f1,kFMul f2,kFAdd f3] ⟨fun ys=>ys=(kRSide1 f).sem [e 0],[]⟩ e:=by
 have u0:e 0 < bP:=hp
 obtain ⟨h0,_⟩:=hk
 have q0:=M_self h0.1 u0
 have q_4:(4:Int)=4 % bP:=by decide
 clear u0 h0
 show tRSide1.says _ ⟨fun ys=>ys=[(e 0 * e 0 * e 0 + 4) % bP],[]⟩ e
 refine ⟨trivial,?_⟩
 intro a1 k1
 have q1:=(show e 1=bP from a1)
 clear a1 k1
 intro a2 k2
 have q2:=(show e 2=lowP from a2)
 clear a2 k2
 intro a3 k3
 have q3:=(show e 3=sqP from a3)
 clear a3 k3
 refine ⟨⟨F_good q1 q2 q3,Or.inl (F_lt q1 q0)⟩,?_⟩
 intro a244 k244
 have q244:=F_mul q1 (show e 244=(e 0) * (e 0) % (e 1) from a244) q0 q0
 clear a244 k244
 refine ⟨⟨F_good q1 q2 q3,Or.inl (F_lt q1 q244)⟩,?_⟩
 intro a340 k340
 have q340:=F_mul q1 (show e 340=(e 244) * (e 0) % (e 1) from a340) q244 q0
 clear a340 k340
 refine ⟨⟨F_382 q1,F_lt q1 q340,F_lt q1 q_4⟩,?_⟩
 intro a436 k436
 have q436:=F_add q1 (show e 436=((e 340) + (4)) % (e 1) from a436) q340 q_4
 clear a436 k436
 show [e 436]=_
 rw [q436]
def tRNeg1:Tree:=(.req 0 []
(.lett 3 .num (.app 0 0 [])
(.lett 4 (.int .u64) (.app 0 1 [])
(.lett 5 .num (.app 0 2 [])
(.req 1 [.var 3,.var 4,.var 5,.var 1]
(.lett 147 .num (.app 1 0 [.var 3,.var 4,.var 5,.var 1])
(.ret [.var 0,.var 147,.var 2])))))))
theorem law_rNeg1 (f1 f2 f:FuncId) (e:Nat → Int) (hk:kkHas [.num,.num,.bit] [e 0,e 1,e 2]) (hp:(kRNeg1 f).pre [e 0,e 1,e 2]):tRNeg1.says [kRP f1,kFNeg f2] ⟨fun ys=>ys=(kRNeg1 f).sem [e 0,e 1,e 2],[]⟩ e:=by
 have u1:e 1 < bP:=hp
 obtain ⟨_,h1,_⟩:=hk
 have q1:=M_self h1.1 u1
 clear u1 h1
 show tRNeg1.says _ ⟨fun ys=>ys=[e 0,(-e 1) % bP,e 2],[]⟩ e
 refine ⟨trivial,?_⟩
 intro a3 k3
 have q3:=(show e 3=bP from a3)
 clear a3 k3
 intro a4 k4
 have q4:=(show e 4=lowP from a4)
 clear a4 k4
 intro a5 k5
 have q5:=(show e 5=sqP from a5)
 clear a5 k5
 refine ⟨F_lt q3 q1,?_⟩
 intro a147 k147
 have q147:=F_neg q3 (show e 147=(-(e 1)) % (e 3) from a147) q1
 clear a147 k147
 show [e 0,e 147,e 2]=_
 rw [q147]
def tRCheck1:Tree:=(.split 2
(.lett 3 .bit (.eqs [((.limb 0 0),(.lit 0)),((.limb 0 1),(.lit 0)),((.limb 0 2),(.lit 0)),((.limb 0 3),(.lit 0)),((.limb 0 4),(.lit 0)),((.limb 0 5),(.lit 0))])
(.split 3
 (.lett 4 .bit (.eqs [((.limb 1 0),(.lit 0)),((.limb 1 1),(.lit 0)),((.limb 1 2),(.lit 0)),((.limb 1 3),(.lit 0)),((.limb 1 4),(.lit 0)),((.limb 1 5),(.lit 0))])
 (.ret [.var 4]))
 (.ret [.lit 0])))
(.req 0 [.var 0]
(.lett 99 .bit (.app 0 0 [.var 0])
(.split 99
 (.req 0 [.var 1]
 (.lett 291 .bit (.app 0 0 [.var 1])
 (.split 291
 (.req 1 []
 (.lett 435 .num (.app 1 0 [])
 (.lett 436 (.int .u64) (.app 1 1 [])
 (.lett 437 .num (.app 1 2 [])
 (.req 2 [.var 435,.var 436,.var 437,.var 1,.var 1]
 (.lett 675 .num (.app 2 0 [.var 435,.var 436,.var 437,.var 1,.var 1])
 (.req 3 [.var 0]
 (.lett 819 .num (.app 3 0 [.var 0])
 (.lett 867 .bit (.eqs [((.limb 675 0),(.limb 819 0)),((.limb 675 1),(.limb 819 1)),((.limb 675 2),(.limb 819 2)),((.limb 675 3),(.limb 819 3)),((.limb 675 4),(.limb 819 4)),((.limb 675 5),(.limb 819 5))])
 (.ret [.var 867]))))))))))
 (.ret [.lit 0]))))
 (.ret [.lit 0])))))
theorem law_rCheck1 (f1 f2 f3 f4 f:FuncId) (e:Nat → Int) (hk:kkHas [.num,.num,.bit] [e 0,e 1,e 2]):tRCheck1.says [kRBelow f1,kRP f2,kFMul f3,kRSide1 f4] ⟨fun ys=>ys=(kCheck1 f).sem [e 0,e 1,e 2],[]⟩ e:=by
 obtain ⟨h0,h1,_⟩:=hk
 have k0:=h0
 have k1:=h1
 show tRCheck1.says _ ⟨fun ys=>ys=[bj (onV (e 0) (e 1) (e 2))],[]⟩ e
 refine ⟨fun h=>?_,fun h=>?_⟩
 ·have c2:=h
  intro a3 k3
  have b3:=c_num0 a3 k0
  clear a3 k3
  refine ⟨fun h=>?_,fun h=>?_⟩
  ·have c3:=h
   have z1:e 0=0:=b_yes b3 c3
   intro a4 k4
   have b4:=c_num0 a4 k1
   clear a4 k4
   show [e 4]=_
   rw [bj_of b4]
   exact congrArg (fun x=>[x]) (bj_iff ⟨fun h=>⟨⟨by rw [z1]; exact bP_pos,by rw [h]; exact bP_pos⟩,by rw [if_neg c2]; exact ⟨z1,h⟩⟩,fun h=>by have:=h.2; rw [if_neg c2] at this; exact this.2⟩)
  ·have c3:=h
   have z1:¬ e 0=0:=b_no b3 c3
   show [(0:Int)]=_
   rw [bj_f (fun h=>z1 (by have:=h.2; rw [if_neg c2] at this; exact this.1))]
 ·have c2:=h
  refine ⟨trivial,?_⟩
  intro a99 k99
  have q99:=(show e 99=bj ((e 0) < bP) from a99)
  clear a99 k99
  refine ⟨fun h=>?_,fun h=>?_⟩
  ·have c99:=h
   have u0:e 0 < bP:=bj_nz q99 c99
   refine ⟨trivial,?_⟩
   intro a291 k291
   have q291:=(show e 291=bj ((e 1) < bP) from a291)
   clear a291 k291
   refine ⟨fun h=>?_,fun h=>?_⟩
   ·have c291:=h
    have u1:e 1 < bP:=bj_nz q291 c291
    refine ⟨trivial,?_⟩
    intro a435 k435
    have q435:=(show e 435=bP from a435)
    clear a435 k435
    intro a436 k436
    have q436:=(show e 436=lowP from a436)
    clear a436 k436
    intro a437 k437
    have q437:=(show e 437=sqP from a437)
    clear a437 k437
    refine ⟨⟨F_good q435 q436 q437,Or.inl (by show e 1 < e 435; rw [q435]; exact u1)⟩,?_⟩
    intro a675 k675
    have q675:=(show e 675=(e 1) * (e 1) % (e 435) from a675)
    clear a675
    refine ⟨u0,?_⟩
    intro a819 k819
    have q819:=(show e 819=((e 0) * (e 0) * (e 0) + 4) % bP from a819)
    clear a819
    intro a867 k867
    have b867:=c_num a867 k675 k819
    clear a867 k867
    show [e 867]=_
    rw [bj_of b867]
    rw [q435] at q675
    exact congrArg (fun x=>[x]) (bj_iff (by
     rw [q675,q819]
     exact ⟨fun h=>⟨⟨u0,u1⟩,by rw [if_pos c2]; exact h⟩,fun h=>by have:=h.2; rw [if_pos c2] at this; exact this⟩))
   ·have c291:=h
    have u1:¬ e 1 < bP:=bj_z q291 c291
    show [(0:Int)]=_
    rw [bj_f (fun h=>u1 h.1.2)]
  ·have c99:=h
   have u0:¬ e 0 < bP:=bj_z q99 c99
   show [(0:Int)]=_
   rw [bj_f (fun h=>u0 h.1.1)]
theorem dbl_z {P:J Int} (h:P.z % bP=0):(dblJ R1 P).z % bP=0:=by
 show (P.y * P.z + P.y * P.z) % bP=0
 have:(P.y * P.z) % bP=0:=by rw [Int.mul_comm]; exact md0_mul _ h
 exact md0_add this this
theorem tm_o:∀ (k n:Nat),(tmJ R1 (oJ R1) k n).z % bP=0
 | 0,_=>rfl
 | k + 1,n=>by
  have ih:=tm_o k (n / 2)
  have hd:(J.md R1 (dblJ R1 (tmJ R1 (oJ R1) k (n / 2)))).z % bP=0:=by
   show (dblJ R1 (tmJ R1 (oJ R1) k (n / 2))).z % bP % bP=0
   rw [md_self]; exact dbl_z ih
  unfold tmJ
  by_cases hn:n=0
  ·rw [if_pos hn]; rfl
  ·rw [if_neg hn]
   show (if n % 2=1 then J.md R1 (sumJ R1 (J.md R1 (dblJ R1 (tmJ R1 (oJ R1) k (n / 2)))) (oJ R1)) else J.md R1 (dblJ R1 (tmJ R1 (oJ R1) k (n / 2)))).z % bP=0
   split
   ·rw [sumJ_z1 (isz2.2 hd)]; rfl
   ·exact hd
def tRInG1:Tree:=(.req 0 [.var 0,.var 1,.var 2]
(.lett 51 .bit (.app 0 0 [.var 0,.var 1,.var 2])
(.split 51
(.req 2 []
(.lett 195 .num (.app 2 0 [])
(.req 1 [.var 0,.var 1,.var 2,.var 195]
(.lett 243 .num (.app 1 0 [.var 0,.var 1,.var 2,.var 195])
(.lett 244 .num (.app 1 1 [.var 0,.var 1,.var 2,.var 195])
(.lett 245 .bit (.app 1 2 [.var 0,.var 1,.var 2,.var 195])
(.ret [.var 245])))))))
(.ret [.lit 0]))))
theorem law_rIn1 (f1 f2 f3 f:FuncId) (e:Nat → Int) (hk:kkHas [.num,.num,.bit] [e 0,e 1,e 2]):tRInG1.says [kCheck1 f1,kRMul1 f2,kMOrder f3] ⟨fun ys=>ys=(kInG1 f).sem [e 0,e 1,e 2],[]⟩ e:=by
 obtain ⟨h0,h1,h2,_⟩:=hk
 show tRInG1.says _ ⟨fun ys=>ys=[bj (inG (e 0) (e 1) (e 2))],[]⟩ e
 refine ⟨trivial,?_⟩
 intro a51 k51
 have q51:=(show e 51=bj (onV (e 0) (e 1) (e 2)) from a51)
 clear a51 k51
 refine ⟨fun h=>?_,fun h=>?_⟩
 ·have c51:=h
  have z1:onV (e 0) (e 1) (e 2):=bj_nz q51 c51
  refine ⟨trivial,?_⟩
  intro a195 k195
  have q195:=(show e 195=rGreat from a195)
  clear a195 k195
  refine ⟨z1.1,?_⟩
  intro a243 k243
  have q243:=(show e 243=(mulV (e 0) (e 1) (e 2) (e 195)).getD 0 0 from a243)
  clear a243 k243
  intro a244 k244
  have q244:=(show e 244=(mulV (e 0) (e 1) (e 2) (e 195)).getD 1 0 from a244)
  clear a244 k244
  intro a245 k245
  have q245:=(show e 245=(mulV (e 0) (e 1) (e 2) (e 195)).getD 2 0 from a245)
  clear a245 k245
  show [e 245]=_
  rw [q195] at q245
  refine congrArg (fun x=>[x]) (bj_of ?_)
  by_cases hz:e 2=0
  ·have hr:rsV (e 0) (e 1) (e 2)=⟨e 0,e 1,1⟩:=if_pos hz
   have hm:mulV (e 0) (e 1) (e 2) rGreat=lowV (tmJ R1 (rsV (e 0) (e 1) (e 2)) 384 rGreat.toNat):=by rw [hr]; exact if_pos hz
   rw [hm] at q245
   by_cases ht:(tmJ R1 (rsV (e 0) (e 1) (e 2)) 384 rGreat.toNat).z % bP=0
   ·left; refine ⟨?_,z1,ht⟩; rw [q245]; unfold lowV lowJ; rw [if_pos ht]; rfl
   ·right; refine ⟨?_,fun h=>ht h.2⟩; rw [q245]; unfold lowV lowJ; rw [if_neg ht]; rfl
  ·have hr:rsV (e 0) (e 1) (e 2)=oJ R1:=if_neg hz
   have hm:mulV (e 0) (e 1) (e 2) rGreat=[e 0,e 1,e 2]:=if_neg hz
   rw [hm] at q245
   have h2:0 ≤ e 2 ∧ e 2 ≤ 1:=h2
   have q245:e 245=e 2:=q245
   left; refine ⟨by omega,z1,?_⟩
   rw [hr]; exact tm_o _ _
 ·have c51:=h
  have z1:¬ onV (e 0) (e 1) (e 2):=bj_z q51 c51
  show [(0:Int)]=_
  rw [bj_f (fun h=>z1 h.1)]
end Go.Sx

namespace Go.Sx
open Go Go.RowKit
set_option maxRecDepth 100000
set_option linter.unusedVariables false
set_option linter.unusedSimpArgs false
def eR:Nat:=((bP + 1) / 4).toNat
def rtV (a:Int):Int:=a ^ eR % bP
def lesV (c:Int):Int:=if bP / 2 < c then (-c) % bP else c
def sqV (a:Int):Prop:=rtV a * rtV a % bP=a % bP
open Classical in
noncomputable def root1V (a:Int):List Int:=if sqV a then [lesV (rtV a),1] else [0,0]
open Classical in
noncomputable def rootV (a:Int):List Int:=if sqV a then [lesV (rtV a),0] else [0,6]
theorem rt_rng (a:Int):0 ≤ rtV a ∧ rtV a < bP:=md_lt bP_pos
theorem les_rng {c:Int} (h:0 ≤ c ∧ c < bP):0 ≤ lesV c ∧ lesV c < bP:=by
 unfold lesV; split
 ·exact md_lt bP_pos
 ·exact h
theorem les_prog {c:Int} (h:0 ≤ c ∧ c < bP):(if (-c) % bP < c then (-c) % bP else c)=lesV c:=by
 unfold lesV
 have hodd:=bP_odd
 generalize bP=p at *
 by_cases h0:c=0
 ·subst h0
  rw [Int.neg_zero,Int.zero_emod,if_neg (by omega),if_neg (by omega)]
 ·have:(-c) % p=p - c:=md_eq (-1) (by omega) (by omega) (by omega)
  rw [this]
  by_cases hc:p / 2 < c
  ·rw [if_pos hc,if_pos (by omega)]
  ·rw [if_neg hc,if_neg (by omega)]
def kMPow (f:FuncId):K:={fn:=f,ext:=false,ins:=[iM,iN,iN],outs:=[oN],pre:=fun | [n,low,w,_,_]=>n=bP ∧ mGood n low w | _=>False,sem:=fun | [_,_,_,a,x]=>[a ^ x.toNat % bP] | _=>[] }
def kShR2 (f:FuncId):K:={fn:=f,ext:=false,ins:=[iN,.one (.cst (.int .i64 (.lit (-2))))],outs:=[oN],pre:=fun _=>True,sem:=fun | [a]=>[a / 4] | _=>[] }
noncomputable def kMRoot (f:FuncId):K:={fn:=f,ext:=false,ins:=[iM,iN],outs:=[oN,oI],pre:=fun | [n,low,w,_]=>n=bP ∧ mGood n low w | _=>False,sem:=fun | [_,_,_,a]=>rootV a | _=>[] }
noncomputable def kAbove (f:FuncId):K:={fn:=f,ext:=false,ins:=[iN],outs:=[oB],pre:=fun _=>True,sem:=fun | [a]=>[bj (bP / 2 < a)] | _=>[] }
def side1V (x:Int):Int:=(x * x * x + 4) % bP
noncomputable def kAt1 (f:FuncId):K:={fn:=f,ext:=false,ins:=[iN],outs:=[.agg lsPl,oB],pre:=fun _=>True,sem:=fun | [x]=>[x,(rootV (side1V x)).getD 0 0,0,bj (sqV (side1V x))] | _=>[] }
noncomputable def kRRoot1 (f:FuncId):K:={fn:=f,ext:=false,ins:=[iN],outs:=[oN,oB],pre:=fun | [a]=>a < bP | _=>False,sem:=fun | [a]=>root1V a | _=>[] }
theorem low_nz {n low:Int} (h:mOk n low):low ≠ 0:=fun h0=>by
 have:=h.1
 rw [h0,Int.mul_zero] at this
 exact absurd this (by decide)
theorem montv_cm (n a b:Int):montv n a b=montv n b a:=by unfold montv; rw [Int.mul_comm a b]
def tMPow:Tree:=(.lett 5 .bit (.cmp .eql (.var 1) (.lit 0))
(.split 5
(.ret [.lit 0])
(.req 3 [.var 0,.var 1,.var 2,.var 3,.var 2]
(.lett 294 .num (.app 3 0 [.var 0,.var 1,.var 2,.var 3,.var 2])
(.req 2 [.lit 1]
(.lett 390 .num (.app 2 0 [.lit 1])
(.req 3 [.var 0,.var 1,.var 2,.var 390,.var 2]
(.lett 630 .num (.app 3 0 [.var 0,.var 1,.var 2,.var 390,.var 2])
(.req 0 [.var 4]
(.lett 870 (.int .i64) (.app 0 0 [.var 4])
(.lett 871 (.int .i64) (.bin .sub .i64 (.var 870) (.lit 1))
(.loop [.var 871,.var 630] [(.int .i64),.num] 872
(.lett 874 .bit (.cmp .geq (.var 872) (.lit 0))
(.split 874
 (.req 3 [.var 0,.var 1,.var 2,.var 873,.var 873]
 (.lett 875 .num (.app 3 0 [.var 0,.var 1,.var 2,.var 873,.var 873])
 (.req 1 [.var 4,.var 872]
 (.lett 876 (.int .i64) (.app 1 0 [.var 4,.var 872])
 (.lett 877 .bit (.cmp .eql (.var 876) (.lit 1))
 (.split 877
 (.req 3 [.var 0,.var 1,.var 2,.var 875,.var 294]
 (.lett 878 .num (.app 3 0 [.var 0,.var 1,.var 2,.var 875,.var 294])
 (.lett 879 (.int .i64) (.bin .sub .i64 (.var 872) (.lit 1))
 (.back 0 [.var 879,.var 878]))))
 (.lett 878 (.int .i64) (.bin .sub .i64 (.var 872) (.lit 1))
 (.back 0 [.var 878,.var 875]))))))))
 (.req 2 [.lit 1]
 (.lett 971 .num (.app 2 0 [.lit 1])
 (.req 3 [.var 0,.var 1,.var 2,.var 873,.var 971]
 (.lett 1019 .num (.app 3 0 [.var 0,.var 1,.var 2,.var 873,.var 971])
 (.ret [.var 1019])))))))))))))))))))
theorem law_mPow (f1 f2 f3 f4 f:FuncId) (e:Nat → Int) (hk:kkHas [.num,.int .u64,.num,.num,.num] [e 0,e 1,e 2,e 3,e 4]) (hp:(kMPow f).pre [e 0,e 1,e 2,e 3,e 4]):tMPow.says [kWLen f1,kBit f2,kOf f3,kMont f4] ⟨fun ys=>ys=(kMPow f).sem [e 0,e 1,e 2,e 3,e 4],[]⟩ e:=by
 obtain ⟨q0,hm,hw⟩:e 0=bP ∧ mGood (e 0) (e 1) (e 2):=hp
 rw [q0] at hw
 have h4:0 ≤ e 4 ∧ e 4 < N384:=hk.2.2.2.2.1
 have hwl:=wide_lt (n:=bP) bP_pos
 clear hk
 show tMPow.says _ ⟨fun ys=>ys=[e 3 ^ (e 4).toNat % bP],[]⟩ e
 intro a5 _
 have b5:=c_eq a5
 refine ⟨fun h=>absurd (b_yes b5 h) (low_nz hm),fun _=>?_⟩
 refine ⟨⟨hm,.inr (by show e 2 < e 0; rw [hw,q0]; exact hwl.2)⟩,fun a294 _=>⟨trivial,fun a390 _=>?_⟩⟩
 have q294:e 294=toE (e 3):=by rw [show e 294=montv (e 0) (e 3) (e 2) from a294,q0,hw,montv_cm]; exact E_to
 have v390:e 390=1:=a390
 refine ⟨⟨hm,.inr (by show e 2 < e 0; rw [hw,q0]; exact hwl.2)⟩,fun a630 _=>⟨trivial,fun a870 _ a871 _=>?_⟩⟩
 have q630:e 630=toE 1:=by rw [show e 630=montv (e 0) (e 390) (e 2) from a630,q0,hw,v390,montv_cm]; exact E_to
 have v870:e 870=blen (e 4):=a870
 have b0:=blen_nn (e 4)
 have b1:=blen_le 384 (e 4) h4.1 (by rw [p384]; exact h4.2)
 have v871:=sub_ (a:=e 870) (b:=1) a871 (by omega)
 clear a5 b5 a294 a390 v390 a630 a870 a871
 refine ⟨EPowI (e 3) (e 4),fun | [i,_]=>(i + 1).toNat | _=>0,?_,fun e' he hkk hI=>?_⟩
 ·show EPowI (e 3) (e 4) [e 871,e 630]
  refine ⟨by omega,by omega,?_⟩
  rw [q630,v871,v870,Int.sub_add_cancel]
  have h1:e 4 / 2 ^ (blen (e 4)).toNat=0:=by
   by_cases hc:e 4 < 2 ^ (blen (e 4)).toNat
   ·exact Int.ediv_eq_zero_of_lt h4.1 hc
   ·have:=blen_gt (blen (e 4)).toNat (e 4) (by omega); omega
  rw [h1,Int.toNat_zero,Int.pow_zero]
 ·obtain ⟨i1,i2,i3⟩:EPowI (e 3) (e 4) [e' 872,e' 873]:=hI
  rw [← he 3 (by decide)] at q294 i3
  rw [← he 4 (by decide)] at h4 i3
  have e3:=he 3 (by decide)
  have e4:=he 4 (by decide)
  have q294:=(he 294 (by decide)).trans q294
  have q0:=(he 0 (by decide)).trans q0
  have hm:mOk (e' 0) (e' 1):=by rw [he 0 (by decide),he 1 (by decide)]; exact hm
  rw [← e3,← e4]
  clear he hkk q630 v870 v871 b0 b1 hw e3 e4
  intro a874 _
  have b874:=c_ge a874
  simp only [ev_var,ev_lit] at b874
  refine ⟨fun hs=>?_,fun hs=>?_⟩
  ·have c874:0 ≤ e' 872:=b_yes b874 hs
   obtain ⟨n,hi⟩:=Int.eq_ofNat_of_zero_le c874
   rw [hi,show ((n:Int) + 1).toNat=n + 1 by omega] at i3
   have hE:∀ {v X:Int},v=toE X → v < e' 0:=fun h=>by rw [q0]; exact E_lt h
   refine ⟨⟨hm,.inl (hE i3)⟩,fun a875 _=>⟨trivial,fun a876 _ a877 _=>?_⟩⟩
   have q875:=E_mul (show e' 875=montv bP (e' 873) (e' 873) by rw [← q0]; exact a875) i3 i3
   have v876:e' 876=e' 4 / 2 ^ n % 2:=by
    rw [show e' 876=(if 0 ≤ e' 872 ∧ e' 872 < 384 then e' 4 / 2 ^ (e' 872).toNat % 2 else 0) from a876,if_pos ⟨c874,by omega⟩,hi,Int.toNat_natCast]
   have hh:=halves (i:=n) h4.1
   have b877:=c_eq a877
   simp only [ev_var,ev_lit] at b877
   refine ⟨fun hs2=>?_,fun hs2=>?_⟩
   ·have c877:e' 876=1:=b_yes b877 hs2
    refine ⟨⟨hm,.inl (hE q875)⟩,fun a878 _ a879 _=>?_⟩
    have q878:=E_mul (show e' 878=montv bP (e' 875) (e' 294) by rw [← q0]; exact a878) q875 q294
    have v879:=sub_ (a:=e' 872) (b:=1) a879 (by omega)
    show EPowI (e' 3) (e' 4) [e' 879,e' 878] ∧ (e' 879 + 1).toNat < (e' 872 + 1).toNat
    rw [v879,hi]
    refine ⟨⟨by omega,by omega,?_⟩,by omega⟩
    rw [show ((n:Int) - 1 + 1).toNat=n by omega,q878,hh,← v876,c877,← Int.pow_add,← Int.pow_succ]
    congr 2; omega
   ·have c877:e' 876=0:=by have:=b_no b877 hs2; omega
    intro a878 _
    have v878:=sub_ (a:=e' 872) (b:=1) a878 (by omega)
    show EPowI (e' 3) (e' 4) [e' 878,e' 875] ∧ (e' 878 + 1).toNat < (e' 872 + 1).toNat
    rw [v878,hi]
    refine ⟨⟨by omega,by omega,?_⟩,by omega⟩
    rw [show ((n:Int) - 1 + 1).toNat=n by omega,q875,hh,← v876,c877,← Int.pow_add]
    congr 2; omega
  ·have c874:e' 872=-1:=by have:=b_no b874 hs; omega
   refine ⟨trivial,fun a971 _=>?_⟩
   have v971:e' 971=1:=a971
   rw [c874,show ((-1:Int) + 1).toNat=0 from rfl,Int.pow_zero,Int.ediv_one] at i3
   refine ⟨⟨hm,.inl (by show e' 873 < e' 0; rw [q0]; exact E_lt i3)⟩,fun a1019 _=>?_⟩
   show [e' 1019]=_
   rw [show e' 1019=montv (e' 0) (e' 873) (e' 971) from a1019,q0,v971,E_from,i3,ofE_toE]
theorem or_62 {v s r ln lj:Int} (h:v=binE .or .u64 s r) (hs:s=binE .shl .u64 ln 62) (hr:r=binE .shr .u64 lj 2) (un:U ln) (uj:U lj):v=ln % 4 * 4611686018427387904 + lj / 4:=by
 have h1:=shl_d 4611686018427387904 hs (by decide)
 have h2:=shr_d 4 hr rfl (by decide)
 unfold U at *
 simp only [wr] at h1
 rw [or_dis (k:=62) (q:=ln % 4) h (by omega) (by omega) (by omega) (by omega)]
 omega
theorem or_02 {v r lj:Int} (h:v=binE .or .u64 0 r) (hr:r=binE .shr .u64 lj 2) (uj:U lj):v=lj / 4:=by
 have h2:=shr_d 4 hr rfl (by decide)
 unfold U at *
 rw [or_dis (k:=63) (q:=0) h (by omega) (by omega) (by omega) (by omega)]
 omega
theorem quart_join {x o0 o1 o2 o3 o4 o5:Int} (hx:0 ≤ x ∧ x < N384) (h0:o0=lim x 1 % 4 * 4611686018427387904 + lim x 0 / 4) (h1:o1=lim x 2 % 4 * 4611686018427387904 + lim x 1 / 4) (h2:o2=lim x 3 % 4 * 4611686018427387904 + lim x 2 / 4)
  (h3:o3=lim x 4 % 4 * 4611686018427387904 + lim x 3 / 4) (h4:o4=lim x 5 % 4 * 4611686018427387904 + lim x 4 / 4) (h5:o5=lim x 5 / 4):joinE [o0,o1,o2,o3,o4,o5]=x / 4:=by
 have ex:=lim_eq hx
 have l0:=lim_lt x 0
 have l1:=lim_lt x 1
 have l2:=lim_lt x 2
 have l3:=lim_lt x 3
 have l4:=lim_lt x 4
 have l5:=lim_lt x 5
 rw [joinE6]
 generalize lim x 0=x0 at *
 generalize lim x 1=x1 at *
 generalize lim x 2=x2 at *
 generalize lim x 3=x3 at *
 generalize lim x 4=x4 at *
 generalize lim x 5=x5 at *
 omega
def tShR2:Tree:=(.lett 1 (.int .u64) (.bin .shl .u64 (.limb 0 1) (.lit 62))
(.lett 386 (.int .u64) (.bin .shr .u64 (.limb 0 0) (.lit 2))
(.lett 434 (.int .u64) (.bin .or .u64 (.var 1) (.var 386))
(.lett 578 (.int .u64) (.bin .shl .u64 (.limb 0 2) (.lit 62))
(.lett 963 (.int .u64) (.bin .shr .u64 (.limb 0 1) (.lit 2))
(.lett 1011 (.int .u64) (.bin .or .u64 (.var 578) (.var 963))
(.lett 1155 (.int .u64) (.bin .shl .u64 (.limb 0 3) (.lit 62))
(.lett 1540 (.int .u64) (.bin .shr .u64 (.limb 0 2) (.lit 2))
(.lett 1588 (.int .u64) (.bin .or .u64 (.var 1155) (.var 1540))
(.lett 1732 (.int .u64) (.bin .shl .u64 (.limb 0 4) (.lit 62))
(.lett 2117 (.int .u64) (.bin .shr .u64 (.limb 0 3) (.lit 2))
(.lett 2165 (.int .u64) (.bin .or .u64 (.var 1732) (.var 2117))
(.lett 2309 (.int .u64) (.bin .shl .u64 (.limb 0 5) (.lit 62))
(.lett 2694 (.int .u64) (.bin .shr .u64 (.limb 0 4) (.lit 2))
(.lett 2742 (.int .u64) (.bin .or .u64 (.var 2309) (.var 2694))
(.lett 3270 (.int .u64) (.bin .shr .u64 (.limb 0 5) (.lit 2))
(.lett 3318 (.int .u64) (.bin .or .u64 (.lit 0) (.var 3270))
(.lett 3462 .num (.join [.var 434,.var 1011,.var 1588,.var 2165,.var 2742,.var 3318])
(.ret [.var 3462])))))))))))))))))))
theorem law_shR2 (f:FuncId) (e:Nat → Int) (hk:kkHas [.num] [e 0]):tShR2.says [] ⟨fun ys=>ys=(kShR2 f).sem [e 0],[]⟩ e:=by
 have h0:=hk.1
 have z:=U_lim e
 intro s1 _ r1 _ o1 _ s2 _ r2 _ o2 _ s3 _ r3 _ o3 _ s4 _ r4 _ o4 _ s5 _ r5 _ o5 _ r6 _ o6 _ aj _
 have hj:=quart_join h0 (or_62 o1 s1 r1 (z _ _) (z _ _)) (or_62 o2 s2 r2 (z _ _) (z _ _)) (or_62 o3 s3 r3 (z _ _) (z _ _)) (or_62 o4 s4 r4 (z _ _) (z _ _)) (or_62 o5 s5 r5 (z _ _) (z _ _)) (or_02 o6 r6 (z _ _))
 show [e 3462]=[e 0 / 4]
 rw [← hj]; exact congrArg (fun x=>[x]) aj
theorem and_bP:binE .and .u64 (lim bP 0) 3=3:=by decide +kernel
theorem eR_of:((bP + 1) % N384 / 4).toNat=eR:=by decide +kernel
theorem eR_2:((bP + 1) % N384 / 2 ^ (2:Int).toNat).toNat=eR:=by decide +kernel
def tMRoot:Tree:=(.lett 4 .bit (.cmp .eql (.var 1) (.lit 0))
(.split 4
(.ret [.lit 0,.lit 1])
(.lett 5 (.int .u64) (.bin .and .u64 (.limb 0 0) (.lit 3))
(.lett 6 .bit (.cmp .eql (.var 5) (.lit 1))
(.split 6
 (.ret [.lit 0,.lit 2])
 (.req 1 [.lit 1]
 (.lett 199 .num (.app 1 0 [.lit 1])
 (.req 0 [.var 0,.var 199]
 (.lett 247 .num (.app 0 0 [.var 0,.var 199])
 (.lett 248 .bit (.app 0 1 [.var 0,.var 199])
 (.req 2 [.var 247]
 (.lett 727 .num (.app 2 0 [.var 247])
 (.req 3 [.var 0,.var 1,.var 2,.var 3,.var 727]
 (.lett 775 .num (.app 3 0 [.var 0,.var 1,.var 2,.var 3,.var 727])
 (.req 4 [.var 0,.var 1,.var 2,.var 775,.var 775]
 (.lett 1063 .num (.app 4 0 [.var 0,.var 1,.var 2,.var 775,.var 775])
 (.req 5 [.var 0,.var 1,.var 2,.var 3]
 (.lett 1207 .num (.app 5 0 [.var 0,.var 1,.var 2,.var 3])
 (.lett 1255 .bit (.eqs [((.limb 1063 0),(.limb 1207 0)),((.limb 1063 1),(.limb 1207 1)),((.limb 1063 2),(.limb 1207 2)),((.limb 1063 3),(.limb 1207 3)),((.limb 1063 4),(.limb 1207 4)),((.limb 1063 5),(.limb 1207 5))])
 (.lett 1256 .bit (.not (.var 1255))
 (.split 1256
 (.ret [.lit 0,.lit 6])
 (.req 6 [.var 0,.var 1,.var 2,.var 775]
 (.lett 1303 .num (.app 6 0 [.var 0,.var 1,.var 2,.var 775])
 (.req 7 [.var 1303,.var 775]
 (.lett 1304 (.int .i64) (.app 7 0 [.var 1303,.var 775])
 (.lett 1305 .bit (.cmp .lss (.var 1304) (.lit 0))
 (.split 1305
 (.ret [.var 1303,.lit 0])
 (.ret [.var 775,.lit 0]))))))))))))))))))))))))))))
theorem law_mRoot (f1 f2 f3 f4 f5 f6 f7 f8 f:FuncId) (e:Nat → Int) (hk:kkHas [.num,.int .u64,.num,.num] [e 0,e 1,e 2,e 3]) (hp:(kMRoot f).pre [e 0,e 1,e 2,e 3]):tMRoot.says [kWAdd f1,kOf f2,kShR2 f3,kMPow f4,kMMul f5,kReduce f6,kMNeg f7,kWCmp f8] ⟨fun ys=>ys=(kMRoot f).sem [e 0,e 1,e 2,e 3],[]⟩ e:=by
 obtain ⟨q0,hg⟩:e 0=bP ∧ mGood (e 0) (e 1) (e 2):=hp
 clear hk
 show tMRoot.says _ ⟨fun ys=>ys=rootV (e 3),[]⟩ e
 intro a4 _
 have b4:=c_eq a4
 refine ⟨fun h=>absurd (b_yes b4 h) (low_nz hg.1),fun _=>?_⟩
 intro a5 _ a6 _
 have v5:e 5=3:=by rw [show e 5=binE .and .u64 (lim (e 0) 0) 3 from a5,q0,and_bP]
 have b6:=c_eq a6
 refine ⟨fun h=>absurd (v5.symm.trans (b_yes b6 h)) (show ¬ (3:Int)=1 by decide),fun _=>⟨trivial,fun a199 _=>⟨trivial,fun a247 _ a248 _=>⟨trivial,fun a727 _=>⟨⟨q0,hg⟩,fun a775 _=>⟨hg,fun a1063 k1063=>⟨hg,fun a1207 k1207 a1255 _ a1256 _=>?_⟩⟩⟩⟩⟩⟩⟩
 have v775:e 775=rtV (e 3):=by
  rw [show e 775=e 3 ^ (e 727).toNat % bP from a775,show e 727=e 247 / 4 from a727,show e 247=(e 0 + e 199) % N384 from a247,show e 199=1 from a199,q0,eR_of]; rfl
 have v1063:e 1063=rtV (e 3) * rtV (e 3) % bP:=by rw [show e 1063=e 775 * e 775 % e 0 from a1063,v775,q0]
 have v1207:e 1207=e 3 % bP:=by rw [show e 1207=e 3 % e 0 from a1207,q0]
 have b1255:=c_num a1255 k1063 k1207
 have b1256:=c_not a1256
 simp only [ev_var] at b1256
 rw [v1063,v1207] at b1255
 refine ⟨fun h=>?_,fun h=>?_⟩
 ·have hs:¬ sqV (e 3):=by
   have:=b_yes b1256 h
   rcases b1255 with ⟨h1,_⟩ | ⟨_,h2⟩
   ·omega
   ·exact h2
  show [(0:Int),6]=rootV (e 3)
  unfold rootV; rw [if_neg hs]
 have hs:sqV (e 3):=by
  have:=b_no b1256 h
  rcases b1255 with ⟨_,h2⟩ | ⟨h1,_⟩
  ·exact h2
  ·exact absurd h1 this
 have hr:=les_prog (rt_rng (e 3))
 refine ⟨hg,fun a1303 _=>⟨trivial,fun a1304 _ a1305 _=>?_⟩⟩
 have v1303:e 1303=(-rtV (e 3)) % bP:=by rw [show e 1303=(-e 775) % e 0 from a1303,v775,q0]
 have v1304:=cmpV_lt (show e 1304=(if e 1303 < e 775 then -1 else if e 1303=e 775 then 0 else 1) from a1304)
 rw [v775,v1303] at v1304
 have b1305:=c_lt a1305
 simp only [ev_var,ev_lit] at b1305
 refine ⟨fun h=>?_,fun h=>?_⟩
 ·have:=v1304.1 (b_yes b1305 h)
  rw [if_pos this] at hr
  show [e 1303,0]=rootV (e 3)
  unfold rootV; rw [if_pos hs,v1303,hr]
 ·have:¬ _:=fun hc=>b_no b1305 h (v1304.2 hc)
  rw [if_neg this] at hr
  show [e 775,0]=rootV (e 3)
  unfold rootV; rw [if_pos hs,v775,← hr]
theorem cmpV_gt {v a b:Int} (h:v=if a < b then -1 else if a=b then 0 else 1):v > 0 ↔ b < a:=by
 rw [h]; split
 ·exact ⟨fun h=>absurd h (by decide),fun h=>by omega⟩
 ·split
  ·exact ⟨fun h=>absurd h (by decide),fun h=>by omega⟩
  ·exact ⟨fun _=>by omega,fun _=>by decide⟩
theorem above_of {v c x h:Int} (hh:h=bP / 2) (hc:c=if x < h then -1 else if x=h then 0 else 1) (hv:(v=1 ∧ c > 0) ∨ (v=0 ∧ ¬ c > 0)):v=bj (bP / 2 < x):=by
 have:=cmpV_gt hc
 rw [hh] at this
 exact bj_of (by
  rcases hv with ⟨h1,h2⟩ | ⟨h1,h2⟩
  ·exact .inl ⟨h1,this.1 h2⟩
  ·exact .inr ⟨h1,fun h=>h2 (this.2 h)⟩)
def tAbove:Tree:=(.req 2 []
(.lett 49 .num (.app 2 0 [])
(.req 1 [.var 49]
(.lett 97 .num (.app 1 0 [.var 49])
(.req 0 [.var 0,.var 97]
(.lett 145 (.int .i64) (.app 0 0 [.var 0,.var 97])
(.lett 193 .bit (.cmp .gtr (.var 145) (.lit 0))
(.ret [.var 193]))))))))
theorem law_above (f1 f2 f3 f:FuncId) (e:Nat → Int):tAbove.says [kWCmp f1,kShR1 f2,kMBase f3] ⟨fun ys=>ys=(kAbove f).sem [e 0],[]⟩ e:=by
 refine ⟨trivial,fun a49 _=>⟨trivial,fun a97 _=>⟨trivial,fun a145 _ a193 _=>?_⟩⟩⟩
 have b:=c_gt a193
 simp only [ev_var,ev_lit] at b
 show [e 193]=[bj (bP / 2 < e 0)]
 rw [above_of (x:=e 0) (h:=e 97) (by rw [show e 97=e 49 / 2 from a97,show e 49=bP from a49]) a145 b]
def tRHigh:Tree:=(.req 1 []
(.lett 49 .num (.app 1 0 [])
(.req 0 [.var 49]
(.lett 97 .num (.app 0 0 [.var 49])
(.req 2 [.var 0,.var 97]
(.lett 145 (.int .i64) (.app 2 0 [.var 0,.var 97])
(.lett 193 .bit (.cmp .gtr (.var 145) (.lit 0))
(.ret [.var 193]))))))))
theorem law_rHigh (f1 f2 f3 f:FuncId) (e:Nat → Int):tRHigh.says [kShR 1 f1,kMBase f2,kWCmp f3] ⟨fun ys=>ys=(kAbove f).sem [e 0],[]⟩ e:=by
 refine ⟨trivial,fun a49 _=>⟨trivial,fun a97 _=>⟨trivial,fun a145 _ a193 _=>?_⟩⟩⟩
 have b:=c_gt a193
 simp only [ev_var,ev_lit] at b
 show [e 193]=[bj (bP / 2 < e 0)]
 rw [above_of (x:=e 0) (h:=e 97) (by rw [show e 97=e 49 / 2 ^ (1:Int).toNat from a97,show e 49=bP from a49]; rfl) a145 b]
def tAt1:Tree:=(.req 1 []
(.lett 1 .num (.app 1 0 [])
(.req 0 [.var 1]
(.lett 2 .num (.app 0 0 [.var 1])
(.lett 3 (.int .u64) (.app 0 1 [.var 1])
(.lett 4 .num (.app 0 2 [.var 1])
(.req 4 [.var 2,.var 3,.var 4,.var 0,.var 0]
(.lett 293 .num (.app 4 0 [.var 2,.var 3,.var 4,.var 0,.var 0])
(.req 4 [.var 2,.var 3,.var 4,.var 293,.var 0]
(.lett 389 .num (.app 4 0 [.var 2,.var 3,.var 4,.var 293,.var 0])
(.req 5 [.lit 4]
(.lett 437 .num (.app 5 0 [.lit 4])
(.req 3 [.var 2,.var 3,.var 4,.var 389,.var 437]
(.lett 485 .num (.app 3 0 [.var 2,.var 3,.var 4,.var 389,.var 437])
(.req 2 [.var 2,.var 3,.var 4,.var 485]
(.lett 533 .num (.app 2 0 [.var 2,.var 3,.var 4,.var 485])
(.lett 534 (.int .i64) (.app 2 1 [.var 2,.var 3,.var 4,.var 485])
(.lett 869 .bit (.cmp .eql (.var 534) (.lit 0))
(.ret [.var 0,.var 533,.lit 0,.var 869])))))))))))))))))))
theorem law_at1 (te:TypeId) (f1 f2 f3 f4 f5 f6 f:FuncId) (e:Nat → Int):tAt1.says [kNew f1 te,kMBase f2,kMRoot f3,kMAdd f4,kMMul f5,kOf f6] ⟨fun ys=>ys=(kAt1 f).sem [e 0],[]⟩ e:=by
 show tAt1.says _ ⟨fun ys=>ys=[e 0,(rootV (side1V (e 0))).getD 0 0,0,bj (sqV (side1V (e 0)))],[]⟩ e
 refine ⟨trivial,fun a1 _=>?_⟩
 have q1:e 1=bP:=a1
 have h2:e 1 % 2=1:=by rw [q1]; exact bP_odd
 have h3:3 ≤ e 1:=by rw [q1]; decide
 have h4:e 1 < 2 ^ 382:=by rw [q1]; exact bP_382
 refine ⟨⟨h2,h3,h4⟩,fun a2 _ a3 _ a4 _=>?_⟩
 have v2:e 2=e 1:=a2
 have q2:e 2=bP:=v2.trans q1
 have hg:mGood (e 2) (e 3) (e 4):=by
  rw [v2,show e 3=lowOf (e 1) from a3,show e 4=wideOf (e 1) from a4]; exact new_good h2 h3 h4
 refine ⟨hg,fun a293 _=>⟨hg,fun a389 _=>⟨trivial,fun a437 _=>⟨hg,fun a485 _=>⟨⟨q2,hg⟩,fun a533 _ a534 _ a869 _=>?_⟩⟩⟩⟩⟩
 have m1:e 293 % bP=e 0 * e 0 % bP:=by rw [show e 293=e 0 * e 0 % e 2 from a293,q2,Int.emod_emod_of_dvd _ (Int.dvd_refl _)]
 have m2:e 389 % bP=e 0 * e 0 * e 0 % bP:=by
  rw [show e 389=e 293 * e 0 % e 2 from a389,q2,Int.emod_emod_of_dvd _ (Int.dvd_refl _)]; exact mdE_mul m1 rfl
 have m3:e 485=side1V (e 0):=by
  rw [show e 485=(e 389 + e 437) % e 2 from a485,q2,show e 437=4 from a437]; exact mdE_add m2 rfl
 have v533:e 533=(rootV (e 485)).getD 0 0:=a533
 have v534:e 534=(rootV (e 485)).getD 1 0:=a534
 rw [m3] at v533 v534
 have b:=c_eq a869
 simp only [ev_var,ev_lit] at b
 show [e 0,e 533,0,e 869]=_
 rw [v533]
 refine congrArg (fun x=>[e 0,(rootV (side1V (e 0))).getD 0 0,0,x]) (bj_of ?_)
 by_cases hs:sqV (side1V (e 0))
 ·rw [rootV,if_pos hs] at v534
  rcases b with ⟨h1,_⟩ | ⟨_,h2⟩
  ·exact .inl ⟨h1,hs⟩
  ·exact absurd v534 h2
 ·rw [rootV,if_neg hs] at v534
  rcases b with ⟨_,h1⟩ | ⟨h2,_⟩
  ·rw [h1] at v534; exact absurd v534 (by decide)
  ·exact .inr ⟨h2,hs⟩
def tRRoot1:Tree:=(.req 0 []
(.lett 1 .num (.app 0 0 [])
(.lett 2 (.int .u64) (.app 0 1 [])
(.lett 3 .num (.app 0 2 [])
(.req 1 [.var 1,.lit 1]
(.lett 4 .num (.app 1 0 [.var 1,.lit 1])
(.lett 5 .bit (.app 1 1 [.var 1,.lit 1])
(.req 2 [.var 4]
(.lett 150 .num (.app 2 0 [.var 4])
(.req 3 [.var 1,.var 2,.var 3,.var 0,.var 150]
(.lett 198 .num (.app 3 0 [.var 1,.var 2,.var 3,.var 0,.var 150])
(.req 4 [.var 1,.var 2,.var 3,.var 198,.var 198]
(.lett 486 .num (.app 4 0 [.var 1,.var 2,.var 3,.var 198,.var 198])
(.lett 582 .bit (.eqs [((.limb 486 0),(.limb 0 0)),((.limb 486 1),(.limb 0 1)),((.limb 486 2),(.limb 0 2)),((.limb 486 3),(.limb 0 3)),((.limb 486 4),(.limb 0 4)),((.limb 486 5),(.limb 0 5))])
(.lett 583 .bit (.not (.var 582))
(.split 583
(.ret [.lit 0,.lit 0])
(.req 5 [.var 198]
(.lett 630 .bit (.app 5 0 [.var 198])
(.split 630
 (.req 6 [.var 1,.var 2,.var 3,.var 198]
 (.lett 631 .num (.app 6 0 [.var 1,.var 2,.var 3,.var 198])
 (.ret [.var 631,.lit 1])))
 (.ret [.var 198,.lit 1]))))))))))))))))))))
theorem law_rRoot1 (f1 f2 f3 f4 f5 f6 f7 f:FuncId) (e:Nat → Int) (hk:kkHas [.num] [e 0]) (hp:(kRRoot1 f).pre [e 0]):tRRoot1.says [kRP f1,kWAdd f2,kShR 2 f3,kFPow f4,kFMul f5,kAbove f6,kFNeg f7] ⟨fun ys=>ys=(kRRoot1 f).sem [e 0],[]⟩ e:=by
 have u0:e 0 < bP:=hp
 have k0:0 ≤ e 0 ∧ e 0 < N384:=hk.1
 show tRRoot1.says _ ⟨fun ys=>ys=root1V (e 0),[]⟩ e
 refine ⟨trivial,fun a1 _ a2 _ a3 _=>⟨trivial,fun a4 _ a5 _=>⟨trivial,fun a150 _=>?_⟩⟩⟩
 have q1:e 1=bP:=a1
 have hg:=F_good q1 (show e 2=lowP from a2) (show e 3=sqP from a3)
 refine ⟨⟨hg,by show e 0 < e 1; rw [q1]; exact u0⟩,fun a198 _=>?_⟩
 have v198:e 198=rtV (e 0):=by
  rw [show e 198=e 0 ^ (e 150).toNat % e 1 from a198,show e 150=e 4 / 2 ^ (2:Int).toNat from a150,show e 4=(e 1 + 1) % N384 from a4,q1,eR_2]; rfl
 have hr:=rt_rng (e 0)
 refine ⟨⟨hg,.inl (by show e 198 < e 1; rw [q1,v198]; exact hr.2)⟩,fun a486 k486 a582 _ a583 _=>?_⟩
 have v486:e 486=rtV (e 0) * rtV (e 0) % bP:=by rw [show e 486=e 198 * e 198 % e 1 from a486,v198,q1]
 have b582:=c_num a582 k486 k0
 have b583:=c_not a583
 simp only [ev_var] at b583
 have hsq:e 486=e 0 ↔ sqV (e 0):=by unfold sqV; rw [v486,Int.emod_eq_of_lt k0.1 u0]
 refine ⟨fun h=>?_,fun h=>?_⟩
 ·have hs:¬ sqV (e 0):=by
   have:=b_yes b583 h
   rcases b582 with ⟨h1,_⟩ | ⟨_,h2⟩
   ·omega
   ·exact fun hc=>h2 (hsq.2 hc)
  show [(0:Int),0]=root1V (e 0)
  unfold root1V; rw [if_neg hs]
 have hs:sqV (e 0):=by
  have:=b_no b583 h
  rcases b582 with ⟨_,h2⟩ | ⟨h1,_⟩
  ·exact hsq.1 h2
  ·exact absurd h1 this
 refine ⟨trivial,fun a630 _=>?_⟩
 have v630:e 630=bj (bP / 2 < e 198):=a630
 refine ⟨fun h=>?_,fun h=>?_⟩
 ·have hh:=bj_nz v630 h
  refine ⟨by show e 198 < e 1; rw [q1,v198]; exact hr.2,fun a631 _=>?_⟩
  show [e 631,1]=root1V (e 0)
  unfold root1V; rw [if_pos hs]; unfold lesV; rw [v198] at hh
  rw [if_pos hh,show e 631=(-e 198) % e 1 from a631,v198,q1]
 ·have hh:=bj_z v630 h
  show [e 198,1]=root1V (e 0)
  unfold root1V; rw [if_pos hs]; unfold lesV; rw [v198] at hh
  rw [if_neg hh,v198]
theorem le_nz {v w b:Int} (h:v=b2i (cmpE .leq w b)) (hw:w ≤ b):v ≠ 0:=by have:=c_le h; omega
def tRWords:Tree:=(.req 0 [.var 0]
(.lett 1 (.int .i64) (.app 0 0 [.var 0])
(.lett 2 (.int .i64) (.bin .add .i64 (.var 1) (.lit 63))
(.lett 3 (.int .i64) (.bin .quo .i64 (.var 2) (.lit 64))
(.lett 4 .bit (.cmp .leq (.lit 0) (.var 3))
(.lett 5 .bit (.cmp .leq (.var 3) (.lit 6))
(.nz (.var 4)
(.nz (.var 5)
(.lett 6 (.lst (.int .u64)) (.lapp (.lit 0) [.limb 0 0,.limb 0 1,.limb 0 2,.limb 0 3,.limb 0 4,.limb 0 5])
(.ret [.var 6,.var 3]))))))))))
theorem law_rWords (te:TypeId) (f1 f:FuncId) (e:Nat → Int) (hk:kkHas [.num] [e 0]):tRWords.says [kWLen f1] ⟨fun ys=>ys=(kWords te f).sem [e 0],[]⟩ e:=by
 have k0:0 ≤ e 0 ∧ e 0 < N384:=hk.1
 have hw:=wlen_rng k0
 have b0:=blen_nn (e 0)
 have b1:=blen_le 384 (e 0) k0.1 (by rw [p384]; exact k0.2)
 refine ⟨trivial,fun a1 _ a2 _ a3 _ a4 _ a5 _=>?_⟩
 have v1:e 1=blen (e 0):=a1
 have v2:=add_ (a:=e 1) (b:=63) a2 (by omega)
 have v3:=quo_ (i:=e 2) 64 (by decide) (by omega) a3
 have w3:e 3=wlen (e 0):=by unfold wlen; rw [v3,v2,v1]
 refine ⟨bit_nz a4 (by show 0 ≤ e 3; omega),le_nz a5 (by show e 3 ≤ 6; omega),fun a6 _=>?_⟩
 show [e 6,e 3]=[enc (limsI (e 0)),wlen (e 0)]
 rw [w3,show e 6=enc (dec 0 ++ limsI (e 0)) from a6,dec_zero,List.nil_append]
end Go.Sx

namespace Go.Sx
open Go Go.RowKit
set_option maxRecDepth 100000
set_option linter.unusedVariables false
set_option linter.unusedSimpArgs false
def flagV (y z:Int):Int:=if z=0 then (if bP / 2 < y then 160 else 128) else 192
def bytes1V (x y z:Int):List Int:=(bytesV x).set 0 (byteAt x 47 + flagV y z)
open Classical in
noncomputable def fin1V (b:List Int) (x y z:Int):List Int:=if bytes1V x y z=b then (if inG x y z then [x,y,z,0] else [0,0,0,5]) else [0,0,0,4]
def bx0 (b:List Int):Int:=readV (b.set 0 (binE .and .u8 (b.getD 0 0) 31))
open Classical in
noncomputable def read1V (b:List Int):List Int :=
 if b.length ≠ 48 then [0,0,0,4]
 else if binE .and .u8 (b.getD 0 0) 64=0 then
  if bx0 b < bP ∧ sqV (side1V (bx0 b)) then
   fin1V b (bx0 b) (if binE .and .u8 (b.getD 0 0) 32=0 then lesV (rtV (side1V (bx0 b))) else (-lesV (rtV (side1V (bx0 b)))) % bP) 0
  else [0,0,0,4]
 else fin1V b 0 0 1
open Classical in
noncomputable def bytesR (x y z:Int):List Int:=if onV x y z then [enc (bytes1V x y z),0] else [0,5]
theorem bytesR_t {x y z:Int} (h:onV x y z):bytesR x y z=[enc (bytes1V x y z),0]:=if_pos h
theorem bytesR_f {x y z:Int} (h:¬ onV x y z):bytesR x y z=[0,5]:=if_neg h
noncomputable def kBytes1 (te:TypeId) (f:FuncId):K:={fn:=f,ext:=false,ins:=[.agg lsPl],outs:=[.lst te (.int .u8),oI],pre:=fun _=>True,sem:=fun | [x,y,z]=>bytesR x y z | _=>[] }
def kRBytes1 (te:TypeId) (f:FuncId):K:={fn:=f,ext:=false,ins:=[.agg lsPl],outs:=[.lst te (.int .u8)],pre:=fun | [x,_,_]=>x < bP | _=>False,sem:=fun | [x,y,z]=>[enc (bytes1V x y z)] | _=>[] }
noncomputable def kRead1 (f:FuncId):K:={fn:=f,ext:=false,ins:=[.lst (.int .u8)],outs:=[.agg lsPl,oI],pre:=fun _=>True,sem:=fun | [l]=>read1V (dec l) | _=>[] }
def kRFlags (f:FuncId):K:={fn:=f,ext:=false,ins:=[.one .bool,.one .bool],outs:=[.one (.int .u8)],pre:=fun _=>True,sem:=fun | [a,b]=>[if a=0 then (if b=0 then 128 else 160) else 192] | _=>[] }
set_option exponentiation.threshold 500 in
theorem bP_top:bP < 32 * 2 ^ (8 * 47):=by decide +kernel
set_option exponentiation.threshold 500 in
theorem top_byte {x:Int} (h0:0 ≤ x) (h1:x < bP):0 ≤ byteAt x 47 ∧ byteAt x 47 < 32:=by
 have h2:x / 2 ^ (8 * 47) < 32:=by
  exact Int.ediv_lt_of_lt_mul (Int.pow_pos (by decide)) (Int.lt_trans h1 bP_top)
 have h3:0 ≤ x / 2 ^ (8 * 47):=Int.ediv_nonneg h0 (Int.pow_nonneg (by decide))
 unfold byteAt
 omega
theorem or8 {b:Int} (h:0 ≤ b ∧ b < 32):binE .or .u8 b 128=b + 128 ∧ binE .or .u8 (b + 128) 64=b + 192 ∧ binE .or .u8 (b + 128) 32=b + 160 ∧ binE .or .u8 b 192=b + 192 ∧ binE .or .u8 b 160=b + 160:=by
 obtain ⟨n,rfl⟩:=Int.eq_ofNat_of_zero_le h.1
 have hd:∀ n:Fin 32,binE .or .u8 ((n.val:Nat):Int) 128=(n.val:Nat) + 128 ∧ binE .or .u8 ((n.val:Nat) + 128) 64=(n.val:Nat) + 192 ∧ binE .or .u8 ((n.val:Nat) + 128) 32=(n.val:Nat) + 160 ∧ binE .or .u8 ((n.val:Nat):Int) 192=(n.val:Nat) + 192 ∧ binE .or .u8 ((n.val:Nat):Int) 160=(n.val:Nat) + 160:=by decide
 exact hd ⟨n,by omega⟩
theorem bytesV_0 (x:Int):(bytesV x).getD 0 0=byteAt x 47:=bytesV_at x (i:=0) ⟨by decide,by decide⟩
theorem set_0 (l:List Int) (c d:Int):(l.set 0 c).set 0 d=l.set 0 d:=List.set_set ..
theorem getD_set0 {l:List Int} (h:0 < l.length) (c:Int):(l.set 0 c).getD 0 0=c:=by
 rw [List.getD_eq_getElem?_getD,List.getElem?_set_self h]; rfl
def tBytes1:Tree:=(.req 0 [.var 0,.var 1,.var 2]
(.lett 3 .bit (.app 0 0 [.var 0,.var 1,.var 2])
(.lett 4 .bit (.not (.var 3))
(.split 4
(.ret [.lit 0,.lit 5])
(.req 1 [.var 0]
(.lett 101 (.lst (.int .u8)) (.app 1 0 [.var 0])
(.req 2 [.var 1]
(.lett 341 .bit (.app 2 0 [.var 1])
(.lett 533 (.int .i64) (.llen (.var 101))
(.lett 534 .bit (.cmp .leq (.lit 0) (.lit 0))
(.lett 535 .bit (.cmp .lss (.lit 0) (.var 533))
(.nz (.var 534)
(.nz (.var 535)
(.lett 536 (.int .u8) (.lget (.var 101) (.lit 0))
(.lett 537 (.int .u8) (.bin .or .u8 (.var 536) (.lit 128))
(.lett 538 (.int .i64) (.llen (.var 101))
(.lett 539 .bit (.cmp .leq (.lit 0) (.lit 0))
(.lett 540 .bit (.cmp .lss (.lit 0) (.var 538))
(.nz (.var 539)
(.nz (.var 540)
(.lett 541 (.lst (.int .u8)) (.lput (.var 101) (.lit 0) (.var 537))
(.split 2
 (.lett 542 (.int .i64) (.llen (.var 101))
 (.lett 543 .bit (.cmp .leq (.lit 0) (.lit 0))
 (.lett 544 .bit (.cmp .lss (.lit 0) (.var 542))
 (.nz (.var 543)
 (.nz (.var 544)
 (.lett 545 (.int .u8) (.lget (.var 541) (.lit 0))
 (.lett 546 (.int .u8) (.bin .or .u8 (.var 545) (.lit 64))
 (.lett 547 (.int .i64) (.llen (.var 101))
 (.lett 548 .bit (.cmp .leq (.lit 0) (.lit 0))
 (.lett 549 .bit (.cmp .lss (.lit 0) (.var 547))
 (.nz (.var 548)
 (.nz (.var 549)
 (.lett 550 (.lst (.int .u8)) (.lput (.var 541) (.lit 0) (.var 546))
 (.ret [.var 550,.lit 0]))))))))))))))
 (.split 341
 (.lett 542 (.int .i64) (.llen (.var 101))
 (.lett 543 .bit (.cmp .leq (.lit 0) (.lit 0))
 (.lett 544 .bit (.cmp .lss (.lit 0) (.var 542))
 (.nz (.var 543)
 (.nz (.var 544)
 (.lett 545 (.int .u8) (.lget (.var 541) (.lit 0))
 (.lett 546 (.int .u8) (.bin .or .u8 (.var 545) (.lit 32))
 (.lett 547 (.int .i64) (.llen (.var 101))
 (.lett 548 .bit (.cmp .leq (.lit 0) (.lit 0))
 (.lett 549 .bit (.cmp .lss (.lit 0) (.var 547))
 (.nz (.var 548)
 (.nz (.var 549)
 (.lett 550 (.lst (.int .u8)) (.lput (.var 541) (.lit 0) (.var 546))
 (.ret [.var 550,.lit 0]))))))))))))))
 (.ret [.var 541,.lit 0]))))))))))))))))))))))))
theorem law_bytes1 (te:TypeId) (f1 f2 f3 f:FuncId) (e:Nat → Int) (hk:kkHas [.num,.num,.bit] [e 0,e 1,e 2]):tBytes1.says [kCheck1 f1,kWBytes te f2,kAbove f3] ⟨fun ys=>ys=(kBytes1 te f).sem [e 0,e 1,e 2],[]⟩ e:=by
 have h0:0 ≤ e 0:=hk.1.1
 show tBytes1.says _ ⟨fun ys=>ys=bytesR (e 0) (e 1) (e 2),[]⟩ e
 refine ⟨trivial,fun a3 _ a4 _=>?_⟩
 have v3:e 3=bj (onV (e 0) (e 1) (e 2)):=a3
 have b4:=c_not a4
 simp only [ev_var] at b4
 refine ⟨fun h=>?_,fun h=>?_⟩
 ·rw [bytesR_f (bj_z v3 (b_yes b4 h))]; rfl
 have hon:=bj_nz v3 (b_no b4 h)
 rw [bytesR_t hon]
 have ht:=top_byte h0 hon.1.1
 have ho:=or8 ht
 refine ⟨trivial,fun a101 _=>⟨trivial,fun a341 _ a533 _ a534 _ a535 _=>?_⟩⟩
 have q101:e 101=enc (bytesV (e 0)):=a101
 have d101:dec (e 101)=bytesV (e 0):=by rw [q101,dec_enc]
 have v341:e 341=bj (bP / 2 < e 1):=a341
 have hlen:∀ {v:Int},v=((dec (e 101)).length:Int) → 0 < v:=fun h=>by rw [h,d101,bytesV_len]; decide
 refine ⟨bit_nz a534 (Int.le_refl _),lt_nz a535 (hlen a533),fun a536 _ a537 _ a538 _ a539 _ a540 _=>⟨bit_nz a539 (Int.le_refl _),lt_nz a540 (hlen a538),fun a541 _=>?_⟩⟩
 have v536:e 536=byteAt (e 0) 47:=by rw [show e 536=(dec (e 101)).getD 0 0 from a536,d101,bytesV_0]
 have v537:e 537=byteAt (e 0) 47 + 128:=by rw [show e 537=binE .or .u8 (e 536) 128 from a537,v536,ho.1]
 have q541:e 541=enc ((bytesV (e 0)).set 0 (byteAt (e 0) 47 + 128)):=by rw [show e 541=enc ((dec (e 101)).set 0 (e 537)) from a541,d101,v537]
 have d541:=(congrArg dec q541).trans (dec_enc _)
 have hl0:0 < (bytesV (e 0)).length:=by rw [bytesV_len]; decide
 refine ⟨fun h=>?_,fun h=>⟨fun h2=>?_,fun h2=>?_⟩⟩
 ·intro a542 _ a543 _ a544 _
  refine ⟨bit_nz a543 (Int.le_refl _),lt_nz a544 (hlen a542),fun a545 _ a546 _ a547 _ a548 _ a549 _=>⟨bit_nz a548 (Int.le_refl _),lt_nz a549 (hlen a547),fun a550 _=>?_⟩⟩
  have v546:e 546=byteAt (e 0) 47 + 192:=by rw [show e 546=binE .or .u8 (e 545) 64 from a546,show e 545=(dec (e 541)).getD 0 0 from a545,d541,getD_set0 hl0,ho.2.1]
  show [e 550,0]=[enc (bytes1V (e 0) (e 1) (e 2)),0]
  rw [show e 550=enc ((dec (e 541)).set 0 (e 546)) from a550,d541,v546,set_0]
  unfold bytes1V flagV
  rw [if_neg h]
 ·intro a542 _ a543 _ a544 _
  refine ⟨bit_nz a543 (Int.le_refl _),lt_nz a544 (hlen a542),fun a545 _ a546 _ a547 _ a548 _ a549 _=>⟨bit_nz a548 (Int.le_refl _),lt_nz a549 (hlen a547),fun a550 _=>?_⟩⟩
  have v546:e 546=byteAt (e 0) 47 + 160:=by rw [show e 546=binE .or .u8 (e 545) 32 from a546,show e 545=(dec (e 541)).getD 0 0 from a545,d541,getD_set0 hl0,ho.2.2.1]
  show [e 550,0]=[enc (bytes1V (e 0) (e 1) (e 2)),0]
  rw [show e 550=enc ((dec (e 541)).set 0 (e 546)) from a550,d541,v546,set_0]
  unfold bytes1V flagV
  rw [if_pos h,if_pos (bj_nz v341 h2)]
 ·show [e 541,0]=[enc (bytes1V (e 0) (e 1) (e 2)),0]
  rw [q541]
  unfold bytes1V flagV
  rw [if_pos h,if_neg (bj_z v341 h2)]
def tRFlags:Tree:=(.split 0
(.ret [.lit 192])
(.split 1
 (.ret [.lit 160])
 (.ret [.lit 128])))
theorem law_rFlags (f:FuncId) (e:Nat → Int):tRFlags.says [] ⟨fun ys=>ys=(kRFlags f).sem [e 0,e 1],[]⟩ e:=by
 show tRFlags.says _ ⟨fun ys=>ys=[if e 0=0 then (if e 1=0 then 128 else 160) else 192],[]⟩ e
 refine ⟨fun h=>?_,fun h=>⟨fun h2=>?_,fun h2=>?_⟩⟩
 ·rw [if_neg h]; rfl
 ·rw [if_pos h,if_neg h2]; rfl
 ·rw [if_pos h,if_pos h2]; rfl
def tRBytes1:Tree:=(.req 0 [.var 0]
(.lett 3 (.lst (.int .u8)) (.app 0 0 [.var 0])
(.lett 100 (.int .i64) (.llen (.var 3))
(.lett 101 .bit (.cmp .leq (.lit 0) (.lit 0))
(.lett 102 .bit (.cmp .lss (.lit 0) (.var 100))
(.nz (.var 101)
(.nz (.var 102)
(.lett 148 (.int .u8) (.lget (.var 3) (.lit 0))
(.req 2 [.var 1]
(.lett 388 .bit (.app 2 0 [.var 1])
(.req 1 [.var 2,.var 388]
(.lett 436 (.int .u8) (.app 1 0 [.var 2,.var 388])
(.lett 484 (.int .u8) (.bin .or .u8 (.var 148) (.var 436))
(.lett 532 (.int .i64) (.llen (.var 3))
(.lett 533 .bit (.cmp .leq (.lit 0) (.lit 0))
(.lett 534 .bit (.cmp .lss (.lit 0) (.var 532))
(.nz (.var 533)
(.nz (.var 534)
(.lett 580 (.lst (.int .u8)) (.lput (.var 3) (.lit 0) (.var 484))
(.ret [.var 580]))))))))))))))))))))
theorem law_rBytes1 (te:TypeId) (f1 f2 f3 f:FuncId) (e:Nat → Int) (hk:kkHas [.num,.num,.bit] [e 0,e 1,e 2]) (hp:(kRBytes1 te f).pre [e 0,e 1,e 2]):tRBytes1.says [kWBytes te f1,kRFlags f2,kAbove f3] ⟨fun ys=>ys=(kRBytes1 te f).sem [e 0,e 1,e 2],[]⟩ e:=by
 have u0:e 0 < bP:=hp
 have ht:=top_byte hk.1.1 u0
 have ho:=or8 ht
 refine ⟨trivial,fun a3 _ a100 _ a101 _ a102 _=>?_⟩
 have q3:e 3=enc (bytesV (e 0)):=a3
 have d3:dec (e 3)=bytesV (e 0):=by rw [q3,dec_enc]
 have hlen:∀ {v:Int},v=((dec (e 3)).length:Int) → 0 < v:=fun h=>by rw [h,d3,bytesV_len]; decide
 refine ⟨bit_nz a101 (Int.le_refl _),lt_nz a102 (hlen a100),fun a148 _=>⟨trivial,fun a388 _=>⟨trivial,fun a436 _ a484 _ a532 _ a533 _ a534 _=>⟨bit_nz a533 (Int.le_refl _),lt_nz a534 (hlen a532),fun a580 _=>?_⟩⟩⟩⟩
 have v148:e 148=byteAt (e 0) 47:=by rw [show e 148=(dec (e 3)).getD 0 0 from a148,d3,bytesV_0]
 have v388:e 388=bj (bP / 2 < e 1):=a388
 have v436:e 436=if e 2=0 then (if e 388=0 then 128 else 160) else 192:=a436
 have v484:e 484=byteAt (e 0) 47 + flagV (e 1) (e 2):=by
  rw [show e 484=binE .or .u8 (e 148) (e 436) from a484,v148,v436]
  unfold flagV
  by_cases h:e 2=0
  ·rw [if_pos h,if_pos h]
   by_cases h2:e 388=0
   ·rw [if_pos h2,if_neg (bj_z v388 h2),ho.1]
   ·rw [if_neg h2,if_pos (bj_nz v388 h2),ho.2.2.2.2]
  ·rw [if_neg h,if_neg h,ho.2.2.2.1]
 show [e 580]=[enc (bytes1V (e 0) (e 1) (e 2))]
 rw [show e 580=enc ((dec (e 3)).set 0 (e 484)) from a580,d3,v484]; rfl
theorem les_sq {c:Int}:lesV c * lesV c % bP=c * c % bP:=by
 unfold lesV; split
 ·have h:(-c) % bP % bP=(-c) % bP:=Int.emod_emod_of_dvd _ (Int.dvd_refl _)
  rw [mdE_mul h h,Int.neg_mul_neg]
 ·rfl
theorem on_sq {x y:Int} (hx:x < bP) (hy:y < bP) (h:y * y % bP=side1V x):onV x y 0:=⟨⟨hx,hy⟩,by rw [if_pos rfl]; exact h⟩
theorem side_mod (x:Int):side1V x % bP=side1V x:=Int.emod_emod_of_dvd _ (Int.dvd_refl _)
theorem on_les {x:Int} (hx:x < bP) (h:sqV (side1V x)):onV x (lesV (rtV (side1V x))) 0:=on_sq hx (les_rng (rt_rng _)).2 (les_sq.trans (h.trans (side_mod x)))
theorem on_neg {x y:Int} (h:onV x y 0):onV x ((-y) % bP) 0:=by
 refine ⟨⟨h.1.1,(md_lt bP_pos).2⟩,?_⟩
 have h2:=h.2
 rw [if_pos rfl] at h2 ⊢
 have hm:(-y) % bP % bP=(-y) % bP:=Int.emod_emod_of_dvd _ (Int.dvd_refl _)
 rw [mdE_mul hm hm,Int.neg_mul_neg]; exact h2
theorem on_zero:onV 0 0 1:=⟨⟨bP_pos,bP_pos⟩,by rw [if_neg (by decide)]; exact ⟨rfl,rfl⟩⟩
theorem c_same {T:List K} {e:Nat → Int} {v:Int} {a b:A} (h:v=(D.lsame a b).ev T e):(v=1 ∧ dec (a.ev e)=dec (b.ev e)) ∨ (v=0 ∧ ¬ dec (a.ev e)=dec (b.ev e)):=by
 have h:v=b2i (dec (a.ev e) == dec (b.ev e)):=h
 by_cases hc:dec (a.ev e)=dec (b.ev e)
 ·exact .inl ⟨by rw [h,hc]; simp [b2i],hc⟩
 ·exact .inr ⟨by rw [h]; simp [b2i,hc],hc⟩
def tailP (n:Nat) (x y z:A):Tree:=.req 5 [x,y,z] (.lett n (.lst (.int .u8)) (.app 5 0 [x,y,z]) (.lett (n + 1) (.int .i64) (.app 5 1 [x,y,z]) (.lett (n + 2) .bit (.cmp .neq (.var (n + 1)) (.lit 0)) (.split (n + 2)
 (.ret [.lit 0,.lit 0,.lit 0,.lit 4])
 (.lett (n + 3) .bit (.lsame (.var n) (.var 0)) (.lett (n + 4) .bit (.not (.var (n + 3))) (.split (n + 4)
 (.ret [.lit 0,.lit 0,.lit 0,.lit 4])
 (.req 6 [x,y,z] (.lett (n + 5) .bit (.app 6 0 [x,y,z]) (.lett (n + 6) .bit (.not (.var (n + 5))) (.split (n + 6) (.ret [.lit 0,.lit 0,.lit 0,.lit 5]) (.ret [x,y,z,.lit 0]))))))))))))
theorem tailP_says {T:List K} {e:Nat → Int} {te:TypeId} {f1 f2:FuncId} (h5:T[5]?=some (kBytes1 te f1)) (h6:T[6]?=some (kInG1 f2)) (n:Nat) (x y z:A) {b:List Int} (hb:dec (e 0)=b) (hon:onV (x.ev e) (y.ev e) (z.ev e)) :
  (tailP n x y z).says T ⟨fun ys=>ys=fin1V b (x.ev e) (y.ev e) (z.ev e),[]⟩ e:=by
 unfold fin1V
 refine ⟨by rw [h5]; trivial,fun a0 _ a1 _ a2 _=>?_⟩
 have v0:e n=enc (bytes1V (x.ev e) (y.ev e) (z.ev e)):=by
  have:e n=(bytesR (x.ev e) (y.ev e) (z.ev e)).getD 0 0:=by
   have:=a0; simp only [D.ev,h5] at this; exact this
  rw [bytesR_t hon] at this; exact this
 have v1:e (n + 1)=0:=by
  have:e (n + 1)=(bytesR (x.ev e) (y.ev e) (z.ev e)).getD 1 0:=by
   have:=a1; simp only [D.ev,h5] at this; exact this
  rw [bytesR_t hon] at this; exact this
 have b2:=c_ne a2
 simp only [ev_var,ev_lit] at b2
 refine ⟨fun h=>by rcases b2 with ⟨_,h2⟩ | ⟨h2,_⟩; exact absurd v1 h2; exact absurd h2 h,fun _=>fun a3 _ a4 _=>?_⟩
 have b3:=c_same a3
 have b4:=c_not a4
 simp only [ev_var] at b3 b4
 rw [v0,dec_enc,hb] at b3
 refine ⟨fun h=>?_,fun h=>?_⟩
 ·have:¬ bytes1V (x.ev e) (y.ev e) (z.ev e)=b:=by
   have:=b_yes b4 h
   rcases b3 with ⟨h1,_⟩ | ⟨_,h2⟩
   ·omega
   ·exact h2
  rw [if_neg this]; rfl
 ·have:bytes1V (x.ev e) (y.ev e) (z.ev e)=b:=by
   have:=b_no b4 h
   rcases b3 with ⟨_,h2⟩ | ⟨h1,_⟩
   ·exact h2
   ·exact absurd h1 this
  rw [if_pos this]
  refine ⟨by rw [h6]; trivial,fun a5 _ a6 _=>?_⟩
  have v5:e (n + 5)=bj (inG (x.ev e) (y.ev e) (z.ev e)):=by
   have:=a5; simp only [D.ev,h6] at this; exact this
  have b6:=c_not a6
  simp only [ev_var] at b6
  refine ⟨fun h=>?_,fun h=>?_⟩
  ·rw [if_neg (bj_z v5 (b_yes b6 h))]; rfl
  ·rw [if_pos (bj_nz v5 (b_no b6 h))]; rfl
end Go.Sx

namespace Go.Sx
open Go Go.RowKit
set_option maxRecDepth 100000
set_option linter.unusedVariables false
set_option linter.unusedSimpArgs false
theorem read1V_len {b:List Int} (h:b.length ≠ 48):read1V b=[0,0,0,4]:=if_pos h
theorem read1V_z {b:List Int} (h:b.length=48) (h2:¬ binE .and .u8 (b.getD 0 0) 64=0):read1V b=fin1V b 0 0 1:=by
 unfold read1V; rw [if_neg (fun hc=>hc h),if_neg h2]
theorem read1V_n {b:List Int} (h:b.length=48) (h2:binE .and .u8 (b.getD 0 0) 64=0) (h3:¬ (bx0 b < bP ∧ sqV (side1V (bx0 b)))):read1V b=[0,0,0,4]:=by
 unfold read1V; rw [if_neg (fun hc=>hc h),if_pos h2,if_neg h3]
theorem read1V_p {b:List Int} (h:b.length=48) (h2:binE .and .u8 (b.getD 0 0) 64=0) (h3:bx0 b < bP ∧ sqV (side1V (bx0 b))) :
  read1V b=fin1V b (bx0 b) (if binE .and .u8 (b.getD 0 0) 32=0 then lesV (rtV (side1V (bx0 b))) else (-lesV (rtV (side1V (bx0 b)))) % bP) 0:=by
 unfold read1V; rw [if_neg (fun hc=>hc h),if_pos h2,if_pos h3]
theorem set_len48 {b:List Int} (h:b.length=48) (c:Int):(b.set 0 c).length ≤ 48:=by rw [List.length_set,h]; exact Nat.le_refl _
def tRead1:Tree:=(.lett 1 (.int .i64) (.llen (.var 0))
(.lett 2 .bit (.cmp .neq (.var 1) (.lit 48))
(.split 2
(.ret [.lit 0,.lit 0,.lit 0,.lit 4])
(.lett 3 (.int .i64) (.llen (.var 0))
(.lett 4 .bit (.cmp .leq (.lit 0) (.lit 0))
(.lett 5 .bit (.cmp .lss (.lit 0) (.var 3))
(.nz (.var 4)
(.nz (.var 5)
(.lett 6 (.int .u8) (.lget (.var 0) (.lit 0))
(.lett 7 (.int .u8) (.bin .and .u8 (.var 6) (.lit 64))
(.lett 8 .bit (.cmp .eql (.var 7) (.lit 0))
(.split 8
 (.lett 9 (.int .i64) (.llen (.var 0))
 (.lett 10 .bit (.cmp .lss (.lit 0) (.var 9))
 (.nz (.var 10)
 (.lett 11 (.int .i64) (.llen (.lit 0))
 (.lett 12 .bit (.cmp .lss (.var 11) (.lit 2147483648))
 (.lett 13 (.int .i64) (.llen (.var 0))
 (.lett 14 .bit (.cmp .lss (.var 13) (.lit 2147483648))
 (.nz (.var 12)
 (.nz (.var 14)
 (.lett 15 (.lst (.int .u8)) (.lcat (.lit 0) (.var 0))
 (.lett 16 (.int .i64) (.llen (.var 15))
 (.lett 17 .bit (.cmp .leq (.lit 0) (.lit 0))
 (.lett 18 .bit (.cmp .lss (.lit 0) (.var 16))
 (.nz (.var 17)
 (.nz (.var 18)
 (.lett 19 (.int .u8) (.lget (.var 15) (.lit 0))
 (.lett 20 (.int .u8) (.bin .and .u8 (.var 19) (.lit 31))
 (.lett 21 (.int .i64) (.llen (.var 15))
 (.lett 22 .bit (.cmp .leq (.lit 0) (.lit 0))
 (.lett 23 .bit (.cmp .lss (.lit 0) (.var 21))
 (.nz (.var 22)
 (.nz (.var 23)
 (.lett 24 (.lst (.int .u8)) (.lput (.var 15) (.lit 0) (.var 20))
 (.req 0 [.var 24]
 (.lett 25 .num (.app 0 0 [.var 24])
 (.lett 26 (.int .i64) (.app 0 1 [.var 24])
 (.req 1 [.var 25]
 (.lett 27 .num (.app 1 0 [.var 25])
 (.lett 28 .num (.app 1 1 [.var 25])
 (.lett 29 .bit (.app 1 2 [.var 25])
 (.lett 30 .bit (.app 1 3 [.var 25])
 (.lett 79 .bit (.not (.var 30))
 (.split 79
 (.ret [.lit 0,.lit 0,.lit 0,.lit 4])
 (.req 3 []
 (.lett 223 .num (.app 3 0 [])
 (.req 2 [.var 25,.var 223]
 (.lett 271 (.int .i64) (.app 2 0 [.var 25,.var 223])
 (.lett 319 .bit (.cmp .geq (.var 271) (.lit 0))
 (.split 319
 (.ret [.lit 0,.lit 0,.lit 0,.lit 4])
 (.lett 415 (.int .i64) (.llen (.var 0))
 (.lett 416 .bit (.cmp .leq (.lit 0) (.lit 0))
 (.lett 417 .bit (.cmp .lss (.lit 0) (.var 415))
 (.nz (.var 416)
 (.nz (.var 417)
 (.lett 418 (.int .u8) (.lget (.var 0) (.lit 0))
 (.lett 419 (.int .u8) (.bin .and .u8 (.var 418) (.lit 32))
 (.lett 420 .bit (.cmp .neq (.var 419) (.lit 0))
 (.split 420
 (.req 4 [.var 27,.var 28,.var 29]
 (.lett 421 .num (.app 4 0 [.var 27,.var 28,.var 29])
 (.lett 422 .num (.app 4 1 [.var 27,.var 28,.var 29])
 (.lett 423 .bit (.app 4 2 [.var 27,.var 28,.var 29])
 (.lett 424 (.int .i64) (.app 4 3 [.var 27,.var 28,.var 29])
 (.req 5 [.var 421,.var 422,.var 423]
 (.lett 425 (.lst (.int .u8)) (.app 5 0 [.var 421,.var 422,.var 423])
 (.lett 426 (.int .i64) (.app 5 1 [.var 421,.var 422,.var 423])
 (.lett 427 .bit (.cmp .neq (.var 426) (.lit 0))
 (.split 427
 (.ret [.lit 0,.lit 0,.lit 0,.lit 4])
 (.lett 428 .bit (.lsame (.var 425) (.var 0))
 (.lett 429 .bit (.not (.var 428))
 (.split 429
 (.ret [.lit 0,.lit 0,.lit 0,.lit 4])
 (.req 6 [.var 421,.var 422,.var 423]
 (.lett 430 .bit (.app 6 0 [.var 421,.var 422,.var 423])
 (.lett 431 .bit (.not (.var 430))
 (.split 431
 (.ret [.lit 0,.lit 0,.lit 0,.lit 5])
 (.ret [.var 421,.var 422,.var 423,.lit 0]))))))))))))))))))
 (.req 5 [.var 27,.var 28,.var 29]
 (.lett 421 (.lst (.int .u8)) (.app 5 0 [.var 27,.var 28,.var 29])
 (.lett 422 (.int .i64) (.app 5 1 [.var 27,.var 28,.var 29])
 (.lett 423 .bit (.cmp .neq (.var 422) (.lit 0))
 (.split 423
 (.ret [.lit 0,.lit 0,.lit 0,.lit 4])
 (.lett 424 .bit (.lsame (.var 421) (.var 0))
 (.lett 425 .bit (.not (.var 424))
 (.split 425
 (.ret [.lit 0,.lit 0,.lit 0,.lit 4])
 (.req 6 [.var 27,.var 28,.var 29]
 (.lett 426 .bit (.app 6 0 [.var 27,.var 28,.var 29])
 (.lett 427 .bit (.not (.var 426))
 (.split 427
 (.ret [.lit 0,.lit 0,.lit 0,.lit 5])
 (.ret [.var 27,.var 28,.var 29,.lit 0])))))))))))))))))))))))))))))))))))))))))))))))))))))))))))))
 (.req 5 [.lit 0,.lit 0,.lit 1]
 (.lett 9 (.lst (.int .u8)) (.app 5 0 [.lit 0,.lit 0,.lit 1])
 (.lett 10 (.int .i64) (.app 5 1 [.lit 0,.lit 0,.lit 1])
 (.lett 11 .bit (.cmp .neq (.var 10) (.lit 0))
 (.split 11
 (.ret [.lit 0,.lit 0,.lit 0,.lit 4])
 (.lett 12 .bit (.lsame (.var 9) (.var 0))
 (.lett 13 .bit (.not (.var 12))
 (.split 13
 (.ret [.lit 0,.lit 0,.lit 0,.lit 4])
 (.req 6 [.lit 0,.lit 0,.lit 1]
 (.lett 14 .bit (.app 6 0 [.lit 0,.lit 0,.lit 1])
 (.lett 15 .bit (.not (.var 14))
 (.split 15
 (.ret [.lit 0,.lit 0,.lit 0,.lit 5])
 (.ret [.lit 0,.lit 0,.lit 1,.lit 0])))))))))))))))))))))))))
theorem law_read1 (te:TypeId) (f1 f2 f3 f4 f5 f6 f7 f:FuncId) (e:Nat → Int):tRead1.says [kWRead f1,kAt1 f2,kWCmp f3,kMBase f4,kNeg1 f5,kBytes1 te f6,kInG1 f7] ⟨fun ys=>ys=(kRead1 f).sem [e 0],[]⟩ e:=by
 obtain ⟨b,d0⟩:∃ b,dec (e 0)=b:=⟨_,rfl⟩
 show tRead1.says _ ⟨fun ys=>ys=read1V (dec (e 0)),[]⟩ e
 rw [d0]
 have len:∀ {v:Int},v=((dec (e 0)).length:Int) → v=(b.length:Int):=fun h=>by rw [h,d0]
 intro a1 _ a2 _
 have v1:=len a1
 have b2:=c_ne a2
 simp only [ev_var,ev_lit] at b2
 refine ⟨fun h=>?_,fun h=>?_⟩
 ·rw [read1V_len (by omega)]; rfl
 have hn:b.length=48:=by omega
 have pos:∀ {v:Int},v=((dec (e 0)).length:Int) → 0 < v:=fun h=>by rw [len h,hn]; decide
 clear b2 h v1 a1 a2
 intro a3 _ a4 _ a5 _
 refine ⟨bit_nz a4 (Int.le_refl _),lt_nz a5 (pos a3),fun a6 _ a7 _ a8 _=>?_⟩
 have v6:e 6=b.getD 0 0:=by rw [← d0]; exact a6
 have v7:e 7=binE .and .u8 (b.getD 0 0) 64:=by rw [← v6]; exact a7
 have b8:=c_eq a8
 simp only [ev_var,ev_lit] at b8
 rw [v7] at b8
 clear a3 a4 a5 a6 a7 a8 v7
 refine ⟨fun h=>?_,fun h=>?_⟩
 ·have h64:=b_yes b8 h
  clear b8 h
  intro a9 _ a10 _
  refine ⟨lt_nz a10 (pos a9),fun a11 _ a12 _ a13 _ a14 _=>?_⟩
  have v11:e 11=0:=by rw [show e 11=((dec 0).length:Int) from a11,dec_zero]; rfl
  have v13:=len a13
  refine ⟨lt_nz a12 (by show e 11 < 2147483648; omega),lt_nz a14 (by show e 13 < 2147483648; omega),fun a15 _ a16 _ a17 _ a18 _=>?_⟩
  have d15:dec (e 15)=b:=by rw [show e 15=enc (dec 0 ++ dec (e 0)) from a15,dec_enc,dec_zero,d0]; rfl
  have v16:e 16=(b.length:Int):=by rw [← d15]; exact a16
  refine ⟨bit_nz a17 (Int.le_refl _),lt_nz a18 (by show 0 < e 16; omega),fun a19 _ a20 _ a21 _ a22 _ a23 _=>?_⟩
  have v19:e 19=b.getD 0 0:=by rw [← d15]; exact a19
  have v20:e 20=binE .and .u8 (b.getD 0 0) 31:=by rw [← v19]; exact a20
  have v21:e 21=(b.length:Int):=by rw [← d15]; exact a21
  refine ⟨bit_nz a22 (Int.le_refl _),lt_nz a23 (by show 0 < e 21; omega),fun a24 _=>⟨trivial,fun a25 _ a26 _=>?_⟩⟩
  have d24:dec (e 24)=b.set 0 (binE .and .u8 (b.getD 0 0) 31):=by rw [show e 24=enc ((dec (e 15)).set 0 (e 20)) from a24,dec_enc,d15,v20]
  have v25:e 25=bx0 b:=by
   rw [show e 25=(if (dec (e 24)).length ≤ 48 then [readV (dec (e 24)),0] else [0,3]:List Int).getD 0 0 from a25,d24,if_pos (set_len48 hn _)]; rfl
  clear a9 a10 a11 a12 a13 a14 a15 a16 a17 a18 a19 a20 a21 a22 a23 a24 a25 a26 v11 v13 d15 v16 v19 v20 v21 d24
  refine ⟨trivial,fun a27 _ a28 _ a29 _ a30 _ a79 _=>?_⟩
  have v27:e 27=bx0 b:=by rw [← v25]; exact a27
  have v28:e 28=(rootV (side1V (bx0 b))).getD 0 0:=by rw [← v25]; exact a28
  have v29:e 29=0:=a29
  have v30:e 30=bj (sqV (side1V (bx0 b))):=by rw [← v25]; exact a30
  have b79:=c_not a79
  simp only [ev_var] at b79
  clear a27 a28 a29 a30 a79
  refine ⟨fun h=>?_,fun h=>?_⟩
  ·rw [read1V_n hn h64 (fun hc=>bj_z v30 (b_yes b79 h) hc.2)]; rfl
  have hsq:=bj_nz v30 (b_no b79 h)
  have v28:e 28=lesV (rtV (side1V (bx0 b))):=by rw [v28]; unfold rootV; rw [if_pos hsq]; rfl
  clear b79 h v30
  refine ⟨trivial,fun a223 _=>⟨trivial,fun a271 _ a319 _=>?_⟩⟩
  have v223:e 223=bP:=a223
  have v271:e 271 < 0 ↔ e 25 < e 223:=cmpV_lt a271
  rw [v25,v223] at v271
  have b319:=c_ge a319
  simp only [ev_var,ev_lit] at b319
  refine ⟨fun h=>?_,fun h=>?_⟩
  ·have:¬ bx0 b < bP:=by rw [← v271]; omega
   rw [read1V_n hn h64 (fun hc=>this hc.1)]; rfl
  have hlt:bx0 b < bP:=by rw [← v271]; omega
  rw [read1V_p hn h64 ⟨hlt,hsq⟩]
  have hon:=on_les hlt hsq
  clear a223 a271 a319 v223 v271 b319 h
  intro a415 _ a416 _ a417 _
  refine ⟨bit_nz a416 (Int.le_refl _),lt_nz a417 (pos a415),fun a418 _ a419 _ a420 _=>?_⟩
  have v418:e 418=b.getD 0 0:=by rw [← d0]; exact a418
  have v419:e 419=binE .and .u8 (b.getD 0 0) 32:=by rw [← v418]; exact a419
  have b420:=c_ne a420
  simp only [ev_var,ev_lit] at b420
  rw [v419] at b420
  refine ⟨fun h=>?_,fun h=>?_⟩
  ·have h32:¬ binE .and .u8 (b.getD 0 0) 32=0:=by
    rcases b420 with ⟨_,h2⟩ | ⟨h1,_⟩
    ·exact h2
    ·exact absurd h1 h
   rw [if_neg h32]
   refine ⟨trivial,fun a421 _ a422 _ a423 _ a424 _=>?_⟩
   have hnv:=negV_t hon
   have v421:e 421=bx0 b:=by rw [show e 421=(negV (e 27) (e 28) (e 29)).getD 0 0 from a421,v27,v28,v29,hnv]; rfl
   have v422:e 422=(-lesV (rtV (side1V (bx0 b)))) % bP:=by rw [show e 422=(negV (e 27) (e 28) (e 29)).getD 1 0 from a422,v27,v28,v29,hnv]; rfl
   have v423:e 423=0:=by rw [show e 423=(negV (e 27) (e 28) (e 29)).getD 2 0 from a423,v27,v28,v29,hnv]; rfl
   have h5:=tailP_says (T:=[kWRead f1,kAt1 f2,kWCmp f3,kMBase f4,kNeg1 f5,kBytes1 te f6,kInG1 f7]) (f1:=f6) (f2:=f7) (e:=e) rfl rfl 425 (.var 421) (.var 422) (.var 423) d0 (by show onV (e 421) (e 422) (e 423); rw [v421,v422,v423]; exact on_neg hon)
   rw [show (A.var 421).ev e=_ from v421,show (A.var 422).ev e=_ from v422,show (A.var 423).ev e=_ from v423] at h5
   exact h5
  ·have h32:binE .and .u8 (b.getD 0 0) 32=0:=by
    rcases b420 with ⟨h1,_⟩ | ⟨_,h2⟩
    ·omega
    ·exact h2
   rw [if_pos h32]
   have h5:=tailP_says (T:=[kWRead f1,kAt1 f2,kWCmp f3,kMBase f4,kNeg1 f5,kBytes1 te f6,kInG1 f7]) (f1:=f6) (f2:=f7) (e:=e) rfl rfl 421 (.var 27) (.var 28) (.var 29) d0 (by show onV (e 27) (e 28) (e 29); rw [v27,v28,v29]; exact hon)
   rw [show (A.var 27).ev e=_ from v27,show (A.var 28).ev e=_ from v28,show (A.var 29).ev e=_ from v29] at h5
   exact h5
 ·rw [read1V_z hn (b_no b8 h)]
  exact tailP_says (T:=[kWRead f1,kAt1 f2,kWCmp f3,kMBase f4,kNeg1 f5,kBytes1 te f6,kInG1 f7]) (f1:=f6) (f2:=f7) rfl rfl 9 (.lit 0) (.lit 0) (.lit 1) d0 on_zero
def tailR (n:Nat) (x y z:A):Tree:=.req 7 [x,y,z] (.lett n .bit (.app 7 0 [x,y,z]) (.lett (n + 48) .bit (.not (.var n)) (.split (n + 48)
 (.ret [.lit 0,.lit 0,.lit 0,.lit 4])
 (.req 8 [x,y,z] (.lett (n + 192) (.lst (.int .u8)) (.app 8 0 [x,y,z]) (.lett (n + 384) .bit (.lsame (.var (n + 192)) (.var 0)) (.lett (n + 385) .bit (.not (.var (n + 384))) (.split (n + 385)
 (.ret [.lit 0,.lit 0,.lit 0,.lit 4])
 (.req 9 [x,y,z] (.lett (n + 480) .bit (.app 9 0 [x,y,z]) (.lett (n + 481) .bit (.not (.var (n + 480))) (.split (n + 481) (.ret [.lit 0,.lit 0,.lit 0,.lit 5]) (.ret [x,y,z,.lit 0])))))))))))))
open Classical in
theorem tailR_says {T:List K} {e:Nat → Int} {te:TypeId} {f0 f1 f2:FuncId} (h7:T[7]?=some (kCheck1 f0)) (h8:T[8]?=some (kRBytes1 te f1)) (h9:T[9]?=some (kInG1 f2)) (n:Nat) (x y z:A) {b:List Int} (hb:dec (e 0)=b) :
  (tailR n x y z).says T ⟨fun ys=>ys=if onV (x.ev e) (y.ev e) (z.ev e) then fin1V b (x.ev e) (y.ev e) (z.ev e) else [0,0,0,4],[]⟩ e:=by
 refine ⟨by rw [h7]; trivial,fun a0 _ a1 _=>?_⟩
 have v0:e n=bj (onV (x.ev e) (y.ev e) (z.ev e)):=by
  have:=a0; simp only [D.ev,h7] at this; exact this
 have b1:=c_not a1
 simp only [ev_var] at b1
 refine ⟨fun h=>?_,fun h=>?_⟩
 ·rw [if_neg (bj_z v0 (b_yes b1 h))]; rfl
 have hon:=bj_nz v0 (b_no b1 h)
 rw [if_pos hon]
 unfold fin1V
 refine ⟨by rw [h8]; exact hon.1.1,fun a2 _ a3 _ a4 _=>?_⟩
 have v2:e (n + 192)=enc (bytes1V (x.ev e) (y.ev e) (z.ev e)):=by
  have:=a2; simp only [D.ev,h8] at this; exact this
 have b3:=c_same a3
 have b4:=c_not a4
 simp only [ev_var] at b3 b4
 rw [v2,dec_enc,hb] at b3
 refine ⟨fun h=>?_,fun h=>?_⟩
 ·have:¬ bytes1V (x.ev e) (y.ev e) (z.ev e)=b:=by
   have:=b_yes b4 h
   rcases b3 with ⟨h1,_⟩ | ⟨_,h2⟩
   ·omega
   ·exact h2
  rw [if_neg this]; rfl
 ·have:bytes1V (x.ev e) (y.ev e) (z.ev e)=b:=by
   have:=b_no b4 h
   rcases b3 with ⟨_,h2⟩ | ⟨h1,_⟩
   ·exact h2
   ·exact absurd h1 this
  rw [if_pos this]
  refine ⟨by rw [h9]; trivial,fun a5 _ a6 _=>?_⟩
  have v5:e (n + 480)=bj (inG (x.ev e) (y.ev e) (z.ev e)):=by
   have:=a5; simp only [D.ev,h9] at this; exact this
  have b6:=c_not a6
  simp only [ev_var] at b6
  refine ⟨fun h=>?_,fun h=>?_⟩
  ·rw [if_neg (bj_z v5 (b_yes b6 h))]; rfl
  ·rw [if_pos (bj_nz v5 (b_no b6 h))]; rfl
theorem pow_0 (k:Nat) (h:k ≠ 0):(0:Int) ^ k=0:=by
 cases k with
 | zero=>exact absurd rfl h
 | succ k=>rw [Int.pow_succ,Int.mul_zero]
theorem eR_nz:eR ≠ 0:=by decide
theorem sq_zero:sqV 0:=by
 unfold sqV rtV
 rw [pow_0 eR eR_nz]; rfl
theorem off_zero {x:Int} (h:¬ sqV (side1V x)):¬ onV x 0 0:=fun hc=>by
 have h2:=hc.2
 rw [if_pos rfl] at h2
 have:side1V x=0:=h2.symm.trans (show (0:Int) * 0 % bP=0 by rw [Int.zero_mul,Int.zero_emod])
 rw [this] at h; exact h sq_zero
def tRRead1:Tree:=(.lett 1 (.int .i64) (.llen (.var 0))
(.lett 2 .bit (.cmp .neq (.var 1) (.lit 48))
(.split 2
(.ret [.lit 0,.lit 0,.lit 0,.lit 4])
(.lett 3 (.int .i64) (.llen (.lit 0))
(.lett 4 .bit (.cmp .lss (.var 3) (.lit 2147483648))
(.lett 5 (.int .i64) (.llen (.var 0))
(.lett 6 .bit (.cmp .lss (.var 5) (.lit 2147483648))
(.nz (.var 4)
(.nz (.var 6)
(.lett 7 (.lst (.int .u8)) (.lcat (.lit 0) (.var 0))
(.lett 8 (.int .i64) (.llen (.var 7))
(.lett 9 .bit (.cmp .leq (.lit 0) (.lit 0))
(.lett 10 .bit (.cmp .lss (.lit 0) (.var 8))
(.nz (.var 9)
(.nz (.var 10)
(.lett 11 (.int .u8) (.lget (.var 7) (.lit 0))
(.lett 12 (.int .u8) (.bin .and .u8 (.var 11) (.lit 31))
(.lett 13 (.int .i64) (.llen (.var 7))
(.lett 14 .bit (.cmp .leq (.lit 0) (.lit 0))
(.lett 15 .bit (.cmp .lss (.lit 0) (.var 13))
(.nz (.var 14)
(.nz (.var 15)
(.lett 16 (.lst (.int .u8)) (.lput (.var 7) (.lit 0) (.var 12))
(.req 0 [.var 16]
(.lett 17 .num (.app 0 0 [.var 16])
(.lett 18 (.int .i64) (.app 0 1 [.var 16])
(.lett 19 (.int .i64) (.llen (.var 0))
(.lett 20 .bit (.cmp .leq (.lit 0) (.lit 0))
(.lett 21 .bit (.cmp .lss (.lit 0) (.var 19))
(.nz (.var 20)
(.nz (.var 21)
(.lett 22 (.int .u8) (.lget (.var 0) (.lit 0))
(.lett 23 (.int .u8) (.bin .and .u8 (.var 22) (.lit 64))
(.lett 24 .bit (.cmp .neq (.var 23) (.lit 0))
(.split 24
 (.req 7 [.lit 0,.lit 0,.lit 1]
 (.lett 73 .bit (.app 7 0 [.lit 0,.lit 0,.lit 1])
 (.lett 121 .bit (.not (.var 73))
 (.split 121
 (.ret [.lit 0,.lit 0,.lit 0,.lit 4])
 (.req 8 [.lit 0,.lit 0,.lit 1]
 (.lett 265 (.lst (.int .u8)) (.app 8 0 [.lit 0,.lit 0,.lit 1])
 (.lett 457 .bit (.lsame (.var 265) (.var 0))
 (.lett 458 .bit (.not (.var 457))
 (.split 458
 (.ret [.lit 0,.lit 0,.lit 0,.lit 4])
 (.req 9 [.lit 0,.lit 0,.lit 1]
 (.lett 553 .bit (.app 9 0 [.lit 0,.lit 0,.lit 1])
 (.lett 554 .bit (.not (.var 553))
 (.split 554
 (.ret [.lit 0,.lit 0,.lit 0,.lit 5])
 (.ret [.lit 0,.lit 0,.lit 1,.lit 0]))))))))))))))
 (.req 1 []
 (.lett 73 .num (.app 1 0 [])
 (.req 2 [.var 17,.var 73]
 (.lett 121 (.int .i64) (.app 2 0 [.var 17,.var 73])
 (.lett 169 .bit (.cmp .lss (.var 121) (.lit 0))
 (.split 169
 (.req 4 [.var 17]
 (.lett 217 .num (.app 4 0 [.var 17])
 (.req 3 [.var 217]
 (.lett 218 .num (.app 3 0 [.var 217])
 (.lett 219 .bit (.app 3 1 [.var 217])
 (.lett 220 (.int .i64) (.llen (.var 0))
 (.lett 221 .bit (.cmp .leq (.lit 0) (.lit 0))
 (.lett 222 .bit (.cmp .lss (.lit 0) (.var 220))
 (.nz (.var 221)
 (.nz (.var 222)
 (.lett 223 (.int .u8) (.lget (.var 0) (.lit 0))
 (.lett 224 (.int .u8) (.bin .and .u8 (.var 223) (.lit 32))
 (.lett 225 .bit (.cmp .neq (.var 224) (.lit 0))
 (.split 225
 (.req 5 []
 (.lett 226 .num (.app 5 0 [])
 (.lett 227 (.int .u64) (.app 5 1 [])
 (.lett 228 .num (.app 5 2 [])
 (.req 6 [.var 226,.var 227,.var 228,.var 218]
 (.lett 370 .num (.app 6 0 [.var 226,.var 227,.var 228,.var 218])
 (.req 7 [.var 17,.var 370,.lit 0]
 (.lett 562 .bit (.app 7 0 [.var 17,.var 370,.lit 0])
 (.lett 610 .bit (.not (.var 562))
 (.split 610
 (.ret [.lit 0,.lit 0,.lit 0,.lit 4])
 (.req 8 [.var 17,.var 370,.lit 0]
 (.lett 754 (.lst (.int .u8)) (.app 8 0 [.var 17,.var 370,.lit 0])
 (.lett 946 .bit (.lsame (.var 754) (.var 0))
 (.lett 947 .bit (.not (.var 946))
 (.split 947
 (.ret [.lit 0,.lit 0,.lit 0,.lit 4])
 (.req 9 [.var 17,.var 370,.lit 0]
 (.lett 1042 .bit (.app 9 0 [.var 17,.var 370,.lit 0])
 (.lett 1043 .bit (.not (.var 1042))
 (.split 1043
 (.ret [.lit 0,.lit 0,.lit 0,.lit 5])
 (.ret [.var 17,.var 370,.lit 0,.lit 0]))))))))))))))))))))
 (.req 7 [.var 17,.var 218,.lit 0]
 (.lett 274 .bit (.app 7 0 [.var 17,.var 218,.lit 0])
 (.lett 322 .bit (.not (.var 274))
 (.split 322
 (.ret [.lit 0,.lit 0,.lit 0,.lit 4])
 (.req 8 [.var 17,.var 218,.lit 0]
 (.lett 466 (.lst (.int .u8)) (.app 8 0 [.var 17,.var 218,.lit 0])
 (.lett 658 .bit (.lsame (.var 466) (.var 0))
 (.lett 659 .bit (.not (.var 658))
 (.split 659
 (.ret [.lit 0,.lit 0,.lit 0,.lit 4])
 (.req 9 [.var 17,.var 218,.lit 0]
 (.lett 754 .bit (.app 9 0 [.var 17,.var 218,.lit 0])
 (.lett 755 .bit (.not (.var 754))
 (.split 755
 (.ret [.lit 0,.lit 0,.lit 0,.lit 5])
 (.ret [.var 17,.var 218,.lit 0,.lit 0]))))))))))))))))))))))))))))
 (.req 7 [.var 17,.lit 0,.lit 0]
 (.lett 265 .bit (.app 7 0 [.var 17,.lit 0,.lit 0])
 (.lett 313 .bit (.not (.var 265))
 (.split 313
 (.ret [.lit 0,.lit 0,.lit 0,.lit 4])
 (.req 8 [.var 17,.lit 0,.lit 0]
 (.lett 457 (.lst (.int .u8)) (.app 8 0 [.var 17,.lit 0,.lit 0])
 (.lett 649 .bit (.lsame (.var 457) (.var 0))
 (.lett 650 .bit (.not (.var 649))
 (.split 650
 (.ret [.lit 0,.lit 0,.lit 0,.lit 4])
 (.req 9 [.var 17,.lit 0,.lit 0]
 (.lett 745 .bit (.app 9 0 [.var 17,.lit 0,.lit 0])
 (.lett 746 .bit (.not (.var 745))
 (.split 746
 (.ret [.lit 0,.lit 0,.lit 0,.lit 5])
 (.ret [.var 17,.lit 0,.lit 0,.lit 0])))))))))))))))))))))))))))))))))))))))))))))))))))))))
theorem law_rRead1 (te:TypeId) (f1 f2 f3 f4 f5 f6 f7 f8 f9 f10 f:FuncId) (e:Nat → Int):tRRead1.says [kWRead f1,kMBase f2,kWCmp f3,kRRoot1 f4,kRSide1 f5,kRP f6,kFNeg f7,kCheck1 f8,kRBytes1 te f9,kInG1 f10] ⟨fun ys=>ys=(kRead1 f).sem [e 0],[]⟩ e:=by
 obtain ⟨b,d0⟩:∃ b,dec (e 0)=b:=⟨_,rfl⟩
 show tRRead1.says _ ⟨fun ys=>ys=read1V (dec (e 0)),[]⟩ e
 rw [d0]
 have len:∀ {v:Int},v=((dec (e 0)).length:Int) → v=(b.length:Int):=fun h=>by rw [h,d0]
 intro a1 _ a2 _
 have v1:=len a1
 have b2:=c_ne a2
 simp only [ev_var,ev_lit] at b2
 refine ⟨fun h=>?_,fun h=>?_⟩
 ·rw [read1V_len (by omega)]; rfl
 have hn:b.length=48:=by omega
 have pos:∀ {v:Int},v=((dec (e 0)).length:Int) → 0 < v:=fun h=>by rw [len h,hn]; decide
 clear b2 h v1 a1 a2
 intro a3 _ a4 _ a5 _ a6 _
 have v3:e 3=0:=by rw [show e 3=((dec 0).length:Int) from a3,dec_zero]; rfl
 have v5:=len a5
 refine ⟨lt_nz a4 (by show e 3 < 2147483648; omega),lt_nz a6 (by show e 5 < 2147483648; omega),fun a7 _ a8 _ a9 _ a10 _=>?_⟩
 have d7:dec (e 7)=b:=by rw [show e 7=enc (dec 0 ++ dec (e 0)) from a7,dec_enc,dec_zero,d0]; rfl
 have v8:e 8=(b.length:Int):=by rw [← d7]; exact a8
 refine ⟨bit_nz a9 (Int.le_refl _),lt_nz a10 (by show 0 < e 8; omega),fun a11 _ a12 _ a13 _ a14 _ a15 _=>?_⟩
 have v11:e 11=b.getD 0 0:=by rw [← d7]; exact a11
 have v12:e 12=binE .and .u8 (b.getD 0 0) 31:=by rw [← v11]; exact a12
 have v13:e 13=(b.length:Int):=by rw [← d7]; exact a13
 refine ⟨bit_nz a14 (Int.le_refl _),lt_nz a15 (by show 0 < e 13; omega),fun a16 _=>⟨trivial,fun a17 _ a18 _ a19 _ a20 _ a21 _=>⟨bit_nz a20 (Int.le_refl _),lt_nz a21 (pos a19),fun a22 _ a23 _ a24 _=>?_⟩⟩⟩
 have d16:dec (e 16)=b.set 0 (binE .and .u8 (b.getD 0 0) 31):=by rw [show e 16=enc ((dec (e 7)).set 0 (e 12)) from a16,dec_enc,d7,v12]
 have v17:e 17=bx0 b:=by
  rw [show e 17=(if (dec (e 16)).length ≤ 48 then [readV (dec (e 16)),0] else [0,3]:List Int).getD 0 0 from a17,d16,if_pos (set_len48 hn _)]; rfl
 have v22:e 22=b.getD 0 0:=by rw [← d0]; exact a22
 have v23:e 23=binE .and .u8 (b.getD 0 0) 64:=by rw [← v22]; exact a23
 have b24:=c_ne a24
 simp only [ev_var,ev_lit] at b24
 rw [v23] at b24
 clear a3 a4 a5 a6 a7 a8 a9 a10 a11 a12 a13 a14 a15 a16 a17 a18 a19 a20 a21 a22 a23 a24 v3 v5 d7 v8 v11 v12 v13 d16 v22 v23
 refine ⟨fun h=>?_,fun h=>?_⟩
 ·have h64:¬ binE .and .u8 (b.getD 0 0) 64=0:=by
   rcases b24 with ⟨_,h2⟩ | ⟨h1,_⟩
   ·exact h2
   ·exact absurd h1 h
  rw [read1V_z hn h64]
  have:=tailR_says (T:=[kWRead f1,kMBase f2,kWCmp f3,kRRoot1 f4,kRSide1 f5,kRP f6,kFNeg f7,kCheck1 f8,kRBytes1 te f9,kInG1 f10]) rfl rfl rfl 73 (.lit 0) (.lit 0) (.lit 1) d0
  rw [if_pos (show onV ((A.lit 0).ev e) ((A.lit 0).ev e) ((A.lit 1).ev e) from on_zero)] at this
  exact this
 have h64:binE .and .u8 (b.getD 0 0) 64=0:=by
  rcases b24 with ⟨h1,_⟩ | ⟨_,h2⟩
  ·omega
  ·exact h2
 clear b24 h
 refine ⟨trivial,fun a73 _=>⟨trivial,fun a121 _ a169 _=>?_⟩⟩
 have v73:e 73=bP:=a73
 have v121:e 121 < 0 ↔ e 17 < e 73:=cmpV_lt a121
 rw [v17,v73] at v121
 have b169:=c_lt a169
 simp only [ev_var,ev_lit] at b169
 clear a73 a121 a169
 refine ⟨fun h=>?_,fun h=>?_⟩
 ·have hlt:bx0 b < bP:=by rw [← v121]; omega
  clear v121 b169 h v73
  refine ⟨by show e 17 < bP; rw [v17]; exact hlt,fun a217 _=>?_⟩
  have v217:e 217=side1V (bx0 b):=by rw [← v17]; exact a217
  refine ⟨by show e 217 < bP; rw [v217]; exact (md_lt bP_pos).2,fun a218 _ a219 _ a220 _ a221 _ a222 _=>⟨bit_nz a221 (Int.le_refl _),lt_nz a222 (pos a220),fun a223 _ a224 _ a225 _=>?_⟩⟩
  have v218:e 218=(root1V (side1V (bx0 b))).getD 0 0:=by rw [← v217]; exact a218
  have v223:e 223=b.getD 0 0:=by rw [← d0]; exact a223
  have v224:e 224=binE .and .u8 (b.getD 0 0) 32:=by rw [← v223]; exact a224
  have b225:=c_ne a225
  simp only [ev_var,ev_lit] at b225
  rw [v224] at b225
  have u218:0 ≤ e 218 ∧ e 218 < bP:=by
   rw [v218]; unfold root1V; split
   ·exact les_rng (rt_rng _)
   ·exact ⟨Int.le_refl _,bP_pos⟩
  clear a217 a218 a219 a220 a221 a222 a223 a224 a225 v223 v224 v217
  have fin:∀ (n:Nat) (y:A),y.ev e=(if binE .and .u8 (b.getD 0 0) 32=0 then e 218 else (-e 218) % bP) → (tailR n (.var 17) y (.lit 0)).says [kWRead f1,kMBase f2,kWCmp f3,kRRoot1 f4,kRSide1 f5,kRP f6,kFNeg f7,kCheck1 f8,kRBytes1 te f9,kInG1 f10] ⟨fun ys=>ys=read1V b,[]⟩ e:=fun n y hy=>by
   have:=tailR_says (T:=[kWRead f1,kMBase f2,kWCmp f3,kRRoot1 f4,kRSide1 f5,kRP f6,kFNeg f7,kCheck1 f8,kRBytes1 te f9,kInG1 f10]) (e:=e) rfl rfl rfl n (.var 17) y (.lit 0) d0
   have hx:(A.var 17).ev e=bx0 b:=v17
   rw [hx,hy] at this
   by_cases hs:sqV (side1V (bx0 b))
   ·have v218:e 218=lesV (rtV (side1V (bx0 b))):=by rw [v218]; unfold root1V; rw [if_pos hs]; rfl
    rw [read1V_p hn h64 ⟨hlt,hs⟩,← v218]
    have hon:=on_les hlt hs
    rw [← v218] at hon
    rw [if_pos (show onV (bx0 b) (if binE .and .u8 (b.getD 0 0) 32=0 then e 218 else (-e 218) % bP) ((A.lit 0).ev e) by
     split
     ·exact hon
     ·exact on_neg hon)] at this
    exact this
   ·have v218:e 218=0:=by rw [v218]; unfold root1V; rw [if_neg hs]; rfl
    rw [read1V_n hn h64 (fun hc=>hs hc.2)]
    have h0:(if binE .and .u8 (b.getD 0 0) 32=0 then e 218 else (-e 218) % bP)=0:=by
     rw [v218,Int.neg_zero,Int.zero_emod]; split <;> rfl
    rw [h0,if_neg (show ¬ onV (bx0 b) 0 ((A.lit 0).ev e) from off_zero hs)] at this
    exact this
  refine ⟨fun h=>?_,fun h=>?_⟩
  ·have h32:¬ binE .and .u8 (b.getD 0 0) 32=0:=by
    rcases b225 with ⟨_,h2⟩ | ⟨h1,_⟩
    ·exact h2
    ·exact absurd h1 h
   refine ⟨trivial,fun a226 _ a227 _ a228 _=>⟨by show e 218 < e 226; rw [show e 226=bP from a226]; exact u218.2,fun a370 _=>?_⟩⟩
   exact fin 562 (.var 370) (by rw [if_neg h32]; show e 370=_; rw [show e 370=(-e 218) % e 226 from a370,show e 226=bP from a226])
  ·have h32:binE .and .u8 (b.getD 0 0) 32=0:=by
    rcases b225 with ⟨h1,_⟩ | ⟨_,h2⟩
    ·omega
    ·exact h2
   exact fin 274 (.var 218) (by rw [if_pos h32]; rfl)
 ·have hlt:¬ bx0 b < bP:=by rw [← v121]; omega
  rw [read1V_n hn h64 (fun hc=>hlt hc.1)]
  have:=tailR_says (T:=[kWRead f1,kMBase f2,kWCmp f3,kRRoot1 f4,kRSide1 f5,kRP f6,kFNeg f7,kCheck1 f8,kRBytes1 te f9,kInG1 f10]) rfl rfl rfl 265 (.var 17) (.lit 0) (.lit 0) d0
  rw [if_neg (show ¬ onV ((A.var 17).ev e) ((A.lit 0).ev e) ((A.lit 0).ev e) from fun hc=>hlt (by rw [← v17]; exact hc.1.1))] at this
  exact this
end Go.Sx

namespace Go.Sx
open Go Go.RowKit
set_option maxRecDepth 100000
set_option linter.unusedVariables false
set_option linter.unusedSimpArgs false
def prP (p:Int):Prop:=p=786251 ∨ p=1152921504606846223
theorem pr_ok {p:Int} (h:prP p):pOk p:=by rcases h with rfl | rfl <;> exact ⟨by decide,by decide⟩
theorem pr_odd {p:Int} (h:prP p):p % 2=1:=by rcases h with rfl | rfl <;> decide
theorem pr_isP {p:Int} (h:prP p):Np.isP p.toNat:=by
 rcases h with rfl | rfl
 ·exact Np.p786251
 ·exact Np.p_mid7
theorem dvd_md {p a b:Int}:a % p=b % p ↔ p ∣ a - b:=by
 constructor
 ·intro h; exact Int.dvd_of_emod_eq_zero (Int.emod_eq_emod_iff_emod_sub_eq_zero.1 h)
 ·intro h; exact Int.emod_eq_emod_iff_emod_sub_eq_zero.2 (Int.emod_eq_zero_of_dvd h)
theorem inv_pr {p a:Int} (hp:prP p) (h0:0 ≤ a) (hn:¬ p ∣ a):p ∣ a * invP p a - 1:=by
 have ok:=pr_ok hp
 have hP:=pr_isP hp
 obtain ⟨n,rfl⟩:=Int.eq_ofNat_of_zero_le h0
 obtain ⟨q,rfl⟩:=Int.eq_ofNat_of_zero_le (show 0 ≤ p by have:=ok.1; omega)
 have hq:3 ≤ q:=by have:=ok.1; omega
 have hf:=Np.fermat (x:=n) hP (fun h=>hn (Int.natCast_dvd_natCast.2 (by simpa using h)))
 rw [Int.toNat_natCast] at hf
 refine dvd_md.1 ?_
 unfold invP pwM
 rw [Int.toNat_natCast,Int.toNat_natCast,show ((q:Int) - 2).toNat=q - 2 by omega]
 have:n * (n ^ (q - 2) % q) % q=1:=by
  rw [Nat.mul_mod,Nat.mod_mod,← Nat.mul_mod,Nat.mul_comm,← Nat.pow_succ,show (q - 2).succ=q - 1 by omega]; exact hf
 rw [show (1:Int) % (q:Int)=((1:Nat):Int) from Int.emod_eq_of_lt (by decide) (by omega),← this]
 simp only [Int.natCast_mul,Int.natCast_emod]
theorem close_chord {p x1 y1 x2 y2 m i:Int} (h1:p ∣ y1 * y1 - (x1 * x1 * x1 + x1)) (h2:p ∣ y2 * y2 - (x2 * x2 * x2 + x2)) (hi:p ∣ (x2 - x1) * i - 1) (hm:p ∣ m * (x2 - x1) - (y2 - y1)) :
  p ∣ (m * (x1 - (m * m - x1 - x2)) - y1) * (m * (x1 - (m * m - x1 - x2)) - y1) - ((m * m - x1 - x2) * (m * m - x1 - x2) * (m * m - x1 - x2) + (m * m - x1 - x2)):=by
 have h:(m * (x1 - (m * m - x1 - x2)) - y1) * (m * (x1 - (m * m - x1 - x2)) - y1) - ((m * m - x1 - x2) * (m * m - x1 - x2) * (m * m - x1 - x2) + (m * m - x1 - x2)) =
   (y2 * y2 - (x2 * x2 * x2 + x2)) * (i * (m * m - x1 - x2 - x1)) + (m * (x2 - x1) - (y2 - y1)) * ((y1 + m * (x2 - x1) + y2) * i * (m * m - x1 - x2 - x1)) + (y1 * y1 - (x1 * x1 * x1 + x1)) * (1 - i * (m * m - x1 - x2 - x1)) +
   ((x2 - x1) * i - 1) * ((1 - 2 * m * (y1 - m * x1) - (x1 * x2 + (x1 + x2) * (m * m - x1 - x2))) * (m * m - x1 - x2 - x1)):=by grind
 rw [h]
 exact Int.dvd_add (Int.dvd_add (Int.dvd_add (Int.dvd_mul_of_dvd_left h2) (Int.dvd_mul_of_dvd_left hm)) (Int.dvd_mul_of_dvd_left h1)) (Int.dvd_mul_of_dvd_left hi)
theorem close_tan {p x1 y1 m:Int} (h1:p ∣ y1 * y1 - (x1 * x1 * x1 + x1)) (hm:p ∣ m * (y1 + y1) - (x1 * x1 + x1 * x1 + x1 * x1 + 1)) :
  p ∣ (m * (x1 - (m * m - x1 - x1)) - y1) * (m * (x1 - (m * m - x1 - x1)) - y1) - ((m * m - x1 - x1) * (m * m - x1 - x1) * (m * m - x1 - x1) + (m * m - x1 - x1)):=by
 have h:(m * (x1 - (m * m - x1 - x1)) - y1) * (m * (x1 - (m * m - x1 - x1)) - y1) - ((m * m - x1 - x1) * (m * m - x1 - x1) * (m * m - x1 - x1) + (m * m - x1 - x1)) =
   (m * (y1 + y1) - (x1 * x1 + x1 * x1 + x1 * x1 + 1)) * (m * m - x1 - x1 - x1) + (y1 * y1 - (x1 * x1 * x1 + x1)):=by grind
 rw [h]
 exact Int.dvd_add (Int.dvd_mul_of_dvd_left hm) h1
theorem md2 (x p:Int):x % p % p=x % p:=Int.emod_emod_of_dvd _ (Int.dvd_refl _)
theorem right_md (p x:Int):rightP p x=(x * x * x + x) % p:=by
 unfold rightP
 have h1:x * x % p * x % p % p=x * x * x % p:=(md2 _ _).trans (mdE_mul (md2 (x * x) p) rfl)
 exact mdE_add h1 rfl
def onL (p:Int) (a:Pt):Prop:=onP p a.x a.y a.z ∧ (0 ≤ a.x ∧ 0 ≤ a.y) ∧ (a.z=0 ∨ a.z=1)
theorem onL.lt {p:Int} (hp:0 < p) {a:Pt} (h:onL p a):a.lt p:=by
 have:=h.1
 unfold onP at this
 have h2:=h.2.1
 split at this
 ·exact ⟨⟨h2.1,this.1⟩,h2.2,this.2.1⟩
 ·exact ⟨⟨h2.1,by omega⟩,h2.2,by omega⟩
theorem onL.eq {p:Int} {a:Pt} (h:onL p a) (hz:a.z=0):p ∣ a.y * a.y - (a.x * a.x * a.x + a.x):=by
 have:=h.1
 unfold onP at this
 rw [if_pos hz,right_md] at this
 exact dvd_md.1 this.2.2
theorem onL_O (p:Int):onL p ⟨0,0,1⟩:=⟨by unfold onP; rw [if_neg (by decide)]; exact ⟨rfl,rfl⟩,⟨Int.le_refl _,Int.le_refl _⟩,.inr rfl⟩
theorem onL_mk {p x1 y1 x2 m:Int} (hp:0 < p) (h:p ∣ (m * (x1 - (m * m - x1 - x2)) - y1) * (m * (x1 - (m * m - x1 - x2)) - y1) - ((m * m - x1 - x2) * (m * m - x1 - x2) * (m * m - x1 - x2) + (m * m - x1 - x2))) :
  onL p ⟨((m * m % p - x1) % p - x2) % p,(m * ((x1 - ((m * m % p - x1) % p - x2) % p) % p) % p - y1) % p,0⟩:=by
 have hx:((m * m % p - x1) % p - x2) % p=(m * m - x1 - x2) % p:=mdE_sub ((md2 _ _).trans (mdE_sub (md2 _ _) rfl)) rfl
 have hy:(m * ((x1 - (m * m - x1 - x2) % p) % p) % p - y1) % p=(m * (x1 - (m * m - x1 - x2)) - y1) % p:=mdE_sub ((md2 _ _).trans (mdE_mul rfl ((md2 _ _).trans (mdE_sub rfl (md2 _ _))))) rfl
 rw [hx,hy]
 generalize hX:m * m - x1 - x2=X at *
 generalize hY:m * (x1 - X) - y1=Y at *
 have l1:=md_lt (x:=X) hp
 have l2:=md_lt (x:=Y) hp
 refine ⟨?_,⟨l1.1,l2.1⟩,.inl rfl⟩
 unfold onP
 rw [if_pos rfl,right_md]
 refine ⟨l1.2,l2.2,?_⟩
 rw [mdE_mul (md2 Y p) (md2 Y p),mdE_add (mdE_mul (mdE_mul (md2 X p) (md2 X p)) (md2 X p)) (md2 X p)]
 exact dvd_md.2 h
theorem nd_of {p a:Int} (h0:0 < a) (h1:a < p):¬ p ∣ a:=fun h=>by
 have:=Int.emod_eq_zero_of_dvd h
 rw [Int.emod_eq_of_lt (by omega) h1] at this; omega
theorem sub_nd {p a b:Int} (ha:0 ≤ a ∧ a < p) (hb:0 ≤ b ∧ b < p) (h:a ≠ b):¬ p ∣ (b - a) % p:=fun hc=>by
 have h1:=md_lt (x:=b - a) (n:=p) (by omega)
 have h2:(b - a) % p=0:=by have:=Int.emod_eq_zero_of_dvd hc; rwa [md2] at this
 have h3:=Int.dvd_of_emod_eq_zero h2
 rcases Int.lt_trichotomy a b with h4 | h4 | h4
 ·exact nd_of (by omega) (by omega) h3
 ·exact h h4
 ·have:p ∣ a - b:=by rw [show a - b=-(b - a) by omega]; exact (Int.dvd_neg).2 h3
  exact nd_of (by omega) (by omega) this
theorem slope_chord {p x y x' y':Int} (hp:prP p) (hx:0 ≤ x ∧ x < p) (hx':0 ≤ x' ∧ x' < p) (h:x ≠ x'):∃ i,p ∣ (x' - x) * i - 1 ∧ p ∣ (y' - y) % p * invP p ((x' - x) % p) % p * (x' - x) - (y' - y):=by
 have hi:=inv_pr hp (md_lt (x:=x' - x) (by have:=(pr_ok hp).1; omega)).1 (sub_nd hx hx' h)
 refine ⟨invP p ((x' - x) % p),?_,?_⟩
 ·refine dvd_md.1 ?_
  have:=dvd_md.2 hi
  rw [← this]; exact mdE_mul (md2 _ _).symm rfl
 ·generalize invP p ((x' - x) % p)=i at *
  have h1:=dvd_md.2 hi
  refine dvd_md.1 ?_
  have e1:((y' - y) % p * i % p * (x' - x)) % p=((y' - y) * ((x' - x) % p * i)) % p:=by
   rw [show (y' - y) * ((x' - x) % p * i)=(y' - y) * i * ((x' - x) % p) by rw [Int.mul_comm ((x' - x) % p) i,Int.mul_assoc]]
   exact mdE_mul ((md2 _ _).trans (mdE_mul (md2 _ _) rfl)) (md2 _ _).symm
  rw [e1,mdE_mul (p:=p) rfl h1,Int.mul_one]
theorem slope_tan {p x y:Int} (hp:prP p) (hy:0 < y ∧ y < p):p ∣ (((x * x % p + x * x % p) % p + x * x % p) % p + 1) % p * invP p ((y + y) % p) % p * (y + y) - (x * x + x * x + x * x + 1):=by
 have ho:=pr_odd hp
 have p0:0 < p:=by omega
 have hn:¬ p ∣ (y + y) % p:=fun hc=>by
  have h2:(y + y) % p=0:=by have:=Int.emod_eq_zero_of_dvd hc; rwa [md2] at this
  rcases Int.lt_or_le (y + y) p with h | h
  ·rw [Int.emod_eq_of_lt (by omega) h] at h2; omega
  ·have:(y + y) % p=y + y - p:=md_eq 1 (by omega) (by omega) (by omega)
   omega
 have hi:=inv_pr hp (md_lt (x:=y + y) p0).1 hn
 generalize invP p ((y + y) % p)=i at *
 have h1:=dvd_md.2 hi
 refine dvd_md.1 ?_
 have q:=md2 (x * x) p
 have e0:(((x * x % p + x * x % p) % p + x * x % p) % p + 1) % p % p=(x * x + x * x + x * x + 1) % p:=(md2 _ _).trans (mdE_add ((md2 _ _).trans (mdE_add ((md2 _ _).trans (mdE_add q q)) q)) rfl)
 generalize (((x * x % p + x * x % p) % p + x * x % p) % p + 1) % p=u at *
 generalize x * x + x * x + x * x + 1=v at *
 have e1:(u * i % p * (y + y)) % p=(v * ((y + y) % p * i)) % p:=by
  rw [show v * ((y + y) % p * i)=v * i * ((y + y) % p) by rw [Int.mul_comm ((y + y) % p) i,Int.mul_assoc]]
  exact mdE_mul ((md2 _ _).trans (mdE_mul e0 rfl)) (md2 _ _).symm
 rw [e1,mdE_mul (p:=p) rfl h1,Int.mul_one]
theorem sum_ok {p:Int} (hp:prP p) {a b:Pt} (ha:onL p a) (hb:onL p b):onL p (sumP p a b):=by
 have p0:0 < p:=by have:=(pr_ok hp).1; omega
 have la:=ha.lt p0
 have lb:=hb.lt p0
 unfold sumP
 split
 ·exact hb
 ·rename_i hza
  split
  ·exact ha
  ·rename_i hzb
   have ea:=ha.eq (by omega)
   have eb:=hb.eq (by omega)
   unfold slopeP
   by_cases hx:a.x ≠ b.x
   ·rw [if_pos hx]
    simp only []
    rw [if_neg (by decide)]
    obtain ⟨i,h1,h2⟩:=slope_chord (y:=a.y) (y':=b.y) hp la.1 lb.1 hx
    exact onL_mk p0 (close_chord ea eb h1 h2)
   ·rw [if_neg hx]
    by_cases hy:a.y ≠ b.y ∨ a.y=0
    ·rw [if_pos hy]
     simp only []
     rw [if_pos trivial]
     exact onL_O p
    ·rw [if_neg hy]
     simp only []
     rw [if_neg (by decide)]
     have hx':b.x=a.x:=by omega
     have:=slope_tan (x:=a.x) (y:=a.y) hp ⟨by have:=la.2.1; omega,la.2.2⟩
     rw [hx']
     exact onL_mk p0 (close_tan ea this)
theorem mul_ok {p:Int} (hp:prP p) {a:Pt} (ha:onL p a):∀ (k n:Nat),onL p (mulP p a k n)
 | 0,_=>onL_O p
 | k + 1,n=>by
  unfold mulP
  split
  ·exact onL_O p
  ·simp only []
   have h:=mul_ok hp ha k (n / 2)
   split
   ·exact sum_ok hp (sum_ok hp h h) ha
   ·exact sum_ok hp h h
theorem opp_iff {p:Int} (hp:prP p) {a b:Pt} (ha:onL p a) (hb:onL p b) (hza:a.z=0) (hzb:b.z=0) (hx:a.x=b.x):a.y=(-b.y) % p ↔ (a.y ≠ b.y ∨ a.y=0):=by
 have p0:0 < p:=by have:=(pr_ok hp).1; omega
 have la:=(ha.lt p0).2
 have lb:=(hb.lt p0).2
 have ho:=pr_odd hp
 have hneg:(-b.y) % p=if b.y=0 then 0 else p - b.y:=by
  split
  ·rename_i h; rw [h]; rfl
  ·exact md_eq (-1) (by omega) (by omega) (by omega)
 rw [hneg]
 constructor
 ·intro h
  by_cases hy:a.y=b.y
  ·right
   split at h
   ·exact h
   ·omega
  ·exact .inl hy
 ·intro h
  by_cases hy:a.y=b.y
  ·have:a.y=0:=by
    rcases h with h | h
    ·exact absurd hy h
    ·exact h
   rw [if_pos (by omega)]; exact this
  ·have h1:p ∣ (b.y - a.y) * (b.y + a.y):=by
    have e1:=ha.eq hza
    have e2:=hb.eq hzb
    have:(b.y - a.y) * (b.y + a.y)=(b.y * b.y - (b.x * b.x * b.x + b.x)) - (a.y * a.y - (a.x * a.x * a.x + a.x)):=by rw [hx]; grind
    rw [this]; exact Int.dvd_sub e2 e1
   have hn:=sub_nd la lb hy
   have hi:=inv_pr hp (md_lt (x:=b.y - a.y) p0).1 hn
   generalize invP p ((b.y - a.y) % p)=i at *
   have h2:p ∣ (b.y - a.y) * i - 1:=by
    refine dvd_md.1 ?_
    rw [← dvd_md.2 hi]; exact mdE_mul (md2 _ _).symm rfl
   have h3:p ∣ b.y + a.y:=by
    have:b.y + a.y=(b.y - a.y) * (b.y + a.y) * i - ((b.y - a.y) * i - 1) * (b.y + a.y):=by grind
    rw [this]; exact Int.dvd_sub (Int.dvd_mul_of_dvd_left h1) (Int.dvd_mul_of_dvd_left h2)
   have h4:=Int.emod_eq_zero_of_dvd h3
   rcases Int.lt_or_le (b.y + a.y) p with h | h
   ·rw [Int.emod_eq_of_lt (by omega) h] at h4; omega
   ·have:(b.y + a.y) % p=b.y + a.y - p:=md_eq 1 (by omega) (by omega) (by omega)
    rw [if_neg (by omega)]; omega
end Go.Sx

namespace Go.Sx
open Go Go.RowKit
set_option maxRecDepth 100000
set_option linter.unusedVariables false
set_option linter.unusedSimpArgs false
def tanP (p x y:Int):Int:=(((x * x % p + x * x % p) % p + x * x % p) % p + 1) % p * invP p ((y + y) % p) % p
def chordP (p x y x' y':Int):Int:=(y' - y) % p * invP p ((x' - x) % p) % p
def slopeR (p x y z x' y' z':Int):Int:=if x=x' ∧ y=y' ∧ z=z' then tanP p x y else chordP p x y x' y'
def kCSlope (f:FuncId):K:={fn:=f,ext:=false,ins:=[iC,iPt,iPt],outs:=[oU],pre:=fun | [p,_,_,_,_,_,x,y,_,x',y',_]=>pOk p ∧ x < p ∧ y < p ∧ x' < p ∧ y' < p | _=>False,sem:=fun | [p,_,_,_,_,_,x,y,z,x',y',z']=>[slopeR p x y z x' y' z'] | _=>[] }
def kCNegP (f:FuncId):K:={fn:=f,ext:=false,ins:=[iC,iPt],outs:=[oPt],pre:=fun | [p,_,_,_,_,_,_,y,_]=>pOk p ∧ y < p | _=>False,sem:=fun | [p,_,_,_,_,_,x,y,z]=>[x,(-y) % p,z] | _=>[] }
def kCAddP (f:FuncId):K:={fn:=f,ext:=false,ins:=[iC,iPt,iPt],outs:=[oPt],pre:=fun | [p,_,_,_,_,_,x,y,z,x',y',z']=>prP p ∧ onL p ⟨x,y,z⟩ ∧ onL p ⟨x',y',z'⟩ | _=>False,sem:=fun | [p,_,_,_,_,_,x,y,z,x',y',z']=>(sumP p ⟨x,y,z⟩ ⟨x',y',z'⟩).l | _=>[] }
def kCTimes (f:FuncId):K:={fn:=f,ext:=false,ins:=[iC,iPt,iU],outs:=[oPt],pre:=fun | [p,_,_,_,_,_,x,y,z,_]=>prP p ∧ onL p ⟨x,y,z⟩ | _=>False,sem:=fun | [p,_,_,_,_,_,x,y,z,n]=>(mulP p ⟨x,y,z⟩ 64 n.toNat).l | _=>[] }
def kCIn (f:FuncId):K:={fn:=f,ext:=false,ins:=[iC,iPt],outs:=[oB],pre:=fun | [p,_,_,_,_,_,_,_,_]=>prP p | _=>False,sem:=fun | [p,r,_,_,_,_,x,y,z]=>[bi (inP p r x y z)] | _=>[] }
theorem c_v3 {T:List K} {e:Nat → Int} {v:Int} {i j k i' j' k':Nat} (h:v=(D.eqs [(.var i,.var i'),(.var j,.var j'),(.var k,.var k')]).ev T e):(v=1 ∧ (e i=e i' ∧ e j=e j' ∧ e k=e k')) ∨ (v=0 ∧ ¬ (e i=e i' ∧ e j=e j' ∧ e k=e k')):=by
 have h:v=b2i ([(A.var i,A.var i'),(.var j,.var j'),(.var k,.var k')].all fun p=>p.1.ev e == p.2.ev e):=h
 simp only [List.all_cons,List.all_nil,Bool.and_true,A.ev] at h
 by_cases h1:e i=e i' <;> by_cases h2:e j=e j' <;> by_cases h3:e k=e k' <;> simp [h1,h2,h3,b2i] at h <;> simp [h,h1,h2,h3]
theorem law_cSide (f1 f2 f:FuncId) (e:Nat → Int) (hp:(kLRight f).pre [e 0,e 1,e 2,e 3,e 4,e 5,e 6]):tLRight.says [kLMul f1,kLAdd f2] ⟨fun ys=>ys=(kLRight f).sem [e 0,e 1,e 2,e 3,e 4,e 5,e 6],[]⟩ e:=law_lRight f1 f2 f e hp
def tCNegP:Tree:=(.req 0 [.var 0,.var 1,.var 2,.var 3,.var 4,.var 5,.var 7]
(.lett 9 (.int .u64) (.app 0 0 [.var 0,.var 1,.var 2,.var 3,.var 4,.var 5,.var 7])
(.ret [.var 6,.var 9,.var 8])))
theorem law_cNegP (f1 f:FuncId) (e:Nat → Int) (hp:(kCNegP f).pre [e 0,e 1,e 2,e 3,e 4,e 5,e 6,e 7,e 8]):tCNegP.says [kCNeg f1] ⟨fun ys=>ys=(kCNegP f).sem [e 0,e 1,e 2,e 3,e 4,e 5,e 6,e 7,e 8],[]⟩ e:=by
 obtain ⟨hp,h7⟩:pOk (e 0) ∧ e 7 < e 0:=hp
 have h1:=hp.1
 have h2:=hp.2
 refine ⟨⟨by show 0 < e 0; omega,by show e 0 < 9223372036854775808; omega,by show e 7 ≤ e 0; omega⟩,fun a9 _=>?_⟩
 show [e 6,e 9,e 8]=[e 6,(-e 7) % e 0,e 8]
 rw [show e 9=(-e 7) % e 0 from a9]
def tCSlope:Tree:=(.lett 12 .bit (.eqs [((.var 6),(.var 9)),((.var 7),(.var 10)),((.var 8),(.var 11))])
(.split 12
(.req 0 [.var 0,.var 1,.var 2,.var 3,.var 4,.var 5,.var 6,.var 6]
(.lett 13 (.int .u64) (.app 0 0 [.var 0,.var 1,.var 2,.var 3,.var 4,.var 5,.var 6,.var 6])
(.req 1 [.var 0,.var 1,.var 2,.var 3,.var 4,.var 5,.var 13,.var 13]
(.lett 302 (.int .u64) (.app 1 0 [.var 0,.var 1,.var 2,.var 3,.var 4,.var 5,.var 13,.var 13])
(.req 1 [.var 0,.var 1,.var 2,.var 3,.var 4,.var 5,.var 302,.var 13]
(.lett 398 (.int .u64) (.app 1 0 [.var 0,.var 1,.var 2,.var 3,.var 4,.var 5,.var 302,.var 13])
(.req 1 [.var 0,.var 1,.var 2,.var 3,.var 4,.var 5,.var 398,.lit 1]
(.lett 446 (.int .u64) (.app 1 0 [.var 0,.var 1,.var 2,.var 3,.var 4,.var 5,.var 398,.lit 1])
(.req 1 [.var 0,.var 1,.var 2,.var 3,.var 4,.var 5,.var 7,.var 7]
(.lett 782 (.int .u64) (.app 1 0 [.var 0,.var 1,.var 2,.var 3,.var 4,.var 5,.var 7,.var 7])
(.req 3 [.var 0,.var 1,.var 2,.var 3,.var 4,.var 5,.var 782]
(.lett 830 (.int .u64) (.app 3 0 [.var 0,.var 1,.var 2,.var 3,.var 4,.var 5,.var 782])
(.req 0 [.var 0,.var 1,.var 2,.var 3,.var 4,.var 5,.var 446,.var 830]
(.lett 878 (.int .u64) (.app 0 0 [.var 0,.var 1,.var 2,.var 3,.var 4,.var 5,.var 446,.var 830])
(.ret [.var 878])))))))))))))))
(.req 2 [.var 0,.var 1,.var 2,.var 3,.var 4,.var 5,.var 10,.var 7]
(.lett 301 (.int .u64) (.app 2 0 [.var 0,.var 1,.var 2,.var 3,.var 4,.var 5,.var 10,.var 7])
(.req 2 [.var 0,.var 1,.var 2,.var 3,.var 4,.var 5,.var 9,.var 6]
(.lett 637 (.int .u64) (.app 2 0 [.var 0,.var 1,.var 2,.var 3,.var 4,.var 5,.var 9,.var 6])
(.req 3 [.var 0,.var 1,.var 2,.var 3,.var 4,.var 5,.var 637]
(.lett 685 (.int .u64) (.app 3 0 [.var 0,.var 1,.var 2,.var 3,.var 4,.var 5,.var 637])
(.req 0 [.var 0,.var 1,.var 2,.var 3,.var 4,.var 5,.var 301,.var 685]
(.lett 733 (.int .u64) (.app 0 0 [.var 0,.var 1,.var 2,.var 3,.var 4,.var 5,.var 301,.var 685])
(.ret [.var 733])))))))))))
theorem law_cSlope (f1 f2 f3 f4 f:FuncId) (e:Nat → Int) (hp:(kCSlope f).pre [e 0,e 1,e 2,e 3,e 4,e 5,e 6,e 7,e 8,e 9,e 10,e 11]):tCSlope.says [kLMul f1,kLAdd f2,kCSub f3,kLInv f4] ⟨fun ys=>ys=(kCSlope f).sem [e 0,e 1,e 2,e 3,e 4,e 5,e 6,e 7,e 8,e 9,e 10,e 11],[]⟩ e:=by
 obtain ⟨hp,h6,h7,h9,h10⟩:pOk (e 0) ∧ e 6 < e 0 ∧ e 7 < e 0 ∧ e 9 < e 0 ∧ e 10 < e 0:=hp
 have h1:=hp.1
 have h2:=hp.2
 have p0:0 < e 0:=by omega
 have hl:∀ {v X:Int},v=X % e 0 → v < e 0:=fun h=>by rw [h]; exact (md_lt p0).2
 show tCSlope.says _ ⟨fun ys=>ys=[slopeR (e 0) (e 6) (e 7) (e 8) (e 9) (e 10) (e 11)],[]⟩ e
 unfold slopeR
 intro a12 _
 have b12:=c_v3 a12
 refine ⟨fun h=>?_,fun h=>?_⟩
 ·rw [if_pos (b_yes b12 h)]
  refine ⟨hp,fun a13 _=>?_⟩
  have v13:e 13=e 6 * e 6 % e 0:=a13
  refine ⟨⟨hp,hl v13,hl v13⟩,fun a302 _=>?_⟩
  have v302:e 302=(e 13 + e 13) % e 0:=a302
  refine ⟨⟨hp,hl v302,hl v13⟩,fun a398 _=>?_⟩
  have v398:e 398=(e 302 + e 13) % e 0:=a398
  refine ⟨⟨hp,hl v398,by show (1:Int) < e 0; omega⟩,fun a446 _=>⟨⟨hp,h7,h7⟩,fun a782 _=>⟨hp,fun a830 _=>⟨hp,fun a878 _=>?_⟩⟩⟩⟩
  show [e 878]=[tanP (e 0) (e 6) (e 7)]
  unfold tanP
  rw [show e 878=e 446 * e 830 % e 0 from a878,show e 830=invP (e 0) (e 782) from a830,show e 782=(e 7 + e 7) % e 0 from a782,show e 446=(e 398 + 1) % e 0 from a446,v398,v302,v13]
 ·rw [if_neg (b_no b12 h)]
  have sb:∀ {a b:Int},a < e 0 → b < e 0 → (0 < e 0 ∧ e 0 < 9223372036854775808 ∧ a ≤ e 0 ∧ b ≤ e 0):=fun ha hb=>⟨p0,by omega,by omega,by omega⟩
  refine ⟨sb h10 h7,fun a301 _=>⟨sb h9 h6,fun a637 _=>⟨hp,fun a685 _=>⟨hp,fun a733 _=>?_⟩⟩⟩⟩
  show [e 733]=[chordP (e 0) (e 6) (e 7) (e 9) (e 10)]
  unfold chordP
  rw [show e 733=e 301 * e 685 % e 0 from a733,show e 685=invP (e 0) (e 637) from a685,show e 637=(e 9 - e 6) % e 0 from a637,show e 301=(e 10 - e 7) % e 0 from a301]
def tCAddP:Tree:=(.split 8
(.ret [.var 9,.var 10,.var 11])
(.split 11
 (.ret [.var 6,.var 7,.var 8])
 (.req 0 [.var 0,.var 1,.var 2,.var 3,.var 4,.var 5,.var 9,.var 10,.var 11]
 (.lett 156 (.int .u64) (.app 0 0 [.var 0,.var 1,.var 2,.var 3,.var 4,.var 5,.var 9,.var 10,.var 11])
 (.lett 157 (.int .u64) (.app 0 1 [.var 0,.var 1,.var 2,.var 3,.var 4,.var 5,.var 9,.var 10,.var 11])
 (.lett 158 .bit (.app 0 2 [.var 0,.var 1,.var 2,.var 3,.var 4,.var 5,.var 9,.var 10,.var 11])
 (.lett 204 .bit (.eqs [((.var 6),(.var 156)),((.var 7),(.var 157)),((.var 8),(.var 158))])
 (.split 204
 (.ret [.lit 0,.lit 0,.lit 1])
 (.req 1 [.var 0,.var 1,.var 2,.var 3,.var 4,.var 5,.var 6,.var 7,.var 8,.var 9,.var 10,.var 11]
 (.lett 252 (.int .u64) (.app 1 0 [.var 0,.var 1,.var 2,.var 3,.var 4,.var 5,.var 6,.var 7,.var 8,.var 9,.var 10,.var 11])
 (.req 3 [.var 0,.var 1,.var 2,.var 3,.var 4,.var 5,.var 252,.var 252]
 (.lett 493 (.int .u64) (.app 3 0 [.var 0,.var 1,.var 2,.var 3,.var 4,.var 5,.var 252,.var 252])
 (.req 2 [.var 0,.var 1,.var 2,.var 3,.var 4,.var 5,.var 493,.var 6]
 (.lett 637 (.int .u64) (.app 2 0 [.var 0,.var 1,.var 2,.var 3,.var 4,.var 5,.var 493,.var 6])
 (.req 2 [.var 0,.var 1,.var 2,.var 3,.var 4,.var 5,.var 637,.var 9]
 (.lett 781 (.int .u64) (.app 2 0 [.var 0,.var 1,.var 2,.var 3,.var 4,.var 5,.var 637,.var 9])
 (.req 2 [.var 0,.var 1,.var 2,.var 3,.var 4,.var 5,.var 6,.var 781]
 (.lett 1261 (.int .u64) (.app 2 0 [.var 0,.var 1,.var 2,.var 3,.var 4,.var 5,.var 6,.var 781])
 (.req 3 [.var 0,.var 1,.var 2,.var 3,.var 4,.var 5,.var 252,.var 1261]
 (.lett 1309 (.int .u64) (.app 3 0 [.var 0,.var 1,.var 2,.var 3,.var 4,.var 5,.var 252,.var 1261])
 (.req 2 [.var 0,.var 1,.var 2,.var 3,.var 4,.var 5,.var 1309,.var 7]
 (.lett 1453 (.int .u64) (.app 2 0 [.var 0,.var 1,.var 2,.var 3,.var 4,.var 5,.var 1309,.var 7])
 (.ret [.var 781,.var 1453,.lit 0])))))))))))))))))))))))
theorem law_cAddP (f1 f2 f3 f4 f:FuncId) (e:Nat → Int) (hp:(kCAddP f).pre [e 0,e 1,e 2,e 3,e 4,e 5,e 6,e 7,e 8,e 9,e 10,e 11]):tCAddP.says [kCNegP f1,kCSlope f2,kCSub f3,kLMul f4] ⟨fun ys=>ys=(kCAddP f).sem [e 0,e 1,e 2,e 3,e 4,e 5,e 6,e 7,e 8,e 9,e 10,e 11],[]⟩ e:=by
 obtain ⟨hpr,ha,hb⟩:prP (e 0) ∧ onL (e 0) ⟨e 6,e 7,e 8⟩ ∧ onL (e 0) ⟨e 9,e 10,e 11⟩:=hp
 have hp:=pr_ok hpr
 have h1:=hp.1
 have h2:=hp.2
 have p0:0 < e 0:=by omega
 have la:=ha.lt p0
 have lb:=hb.lt p0
 show tCAddP.says _ ⟨fun ys=>ys=(sumP (e 0) ⟨e 6,e 7,e 8⟩ ⟨e 9,e 10,e 11⟩).l,[]⟩ e
 unfold sumP
 refine ⟨fun h=>?_,fun h=>⟨fun h3=>?_,fun h3=>?_⟩⟩
 ·rw [if_pos h]; rfl
 ·rw [if_neg (fun hc=>hc h),if_pos h3]; rfl
 rw [if_neg (fun hc=>hc h),if_neg (fun hc=>hc h3)]
 refine ⟨⟨hp,lb.2.2⟩,fun a156 _ a157 _ a158 _ a204 _=>?_⟩
 have v156:e 156=e 9:=a156
 have v157:e 157=(-e 10) % e 0:=a157
 have v158:e 158=e 11:=a158
 have b204:=c_v3 a204
 rw [v156,v157,v158] at b204
 have hop:=opp_iff hpr ha hb h h3
 have key:(e 6=e 9 ∧ e 7=(-e 10) % e 0 ∧ e 8=e 11) ↔ ¬ (e 6 ≠ e 9) ∧ (e 7 ≠ e 10 ∨ e 7=0):=by
  constructor
  ·intro ⟨k1,k2,k3⟩; exact ⟨fun hc=>hc k1,(hop k1).1 k2⟩
  ·intro ⟨k1,k2⟩
   have k1:e 6=e 9:=by omega
   exact ⟨k1,(hop k1).2 k2,by omega⟩
 rw [key] at b204
 unfold slopeP
 refine ⟨fun h4=>?_,fun h4=>?_⟩
 ·have hz:=b_yes b204 h4
  simp only []
  rw [if_neg hz.1,if_pos hz.2]; rfl
 have hnz:=b_no b204 h4
 refine ⟨⟨hp,la.1.2,la.2.2,lb.1.2,lb.2.2⟩,fun a252 _=>?_⟩
 have v252:e 252=slopeR (e 0) (e 6) (e 7) (e 8) (e 9) (e 10) (e 11):=a252
 have hl:∀ {v X:Int},v=X % e 0 → v ≤ e 0:=fun h=>by rw [h]; exact Int.le_of_lt (md_lt p0).2
 have sb:∀ {a b:Int},a ≤ e 0 → b ≤ e 0 → (0 < e 0 ∧ e 0 < 9223372036854775808 ∧ a ≤ e 0 ∧ b ≤ e 0):=fun ha hb=>⟨p0,by omega,ha,hb⟩
 have l6:e 6 ≤ e 0:=by have:=la.1.2; simp only at this; omega
 have l7:e 7 ≤ e 0:=by have:=la.2.2; simp only at this; omega
 have l9:e 9 ≤ e 0:=by have:=lb.1.2; simp only at this; omega
 refine ⟨hp,fun a493 _=>?_⟩
 have v493:e 493=e 252 * e 252 % e 0:=a493
 refine ⟨sb (hl v493) l6,fun a637 _=>?_⟩
 have v637:e 637=(e 493 - e 6) % e 0:=a637
 refine ⟨sb (hl v637) l9,fun a781 _=>?_⟩
 have v781:e 781=(e 637 - e 9) % e 0:=a781
 refine ⟨sb l6 (hl v781),fun a1261 _=>⟨hp,fun a1309 _=>?_⟩⟩
 have v1261:e 1261=(e 6 - e 781) % e 0:=a1261
 have v1309:e 1309=e 252 * e 1261 % e 0:=a1309
 refine ⟨sb (hl v1309) l7,fun a1453 _=>?_⟩
 have v1453:e 1453=(e 1309 - e 7) % e 0:=a1453
 show [e 781,e 1453,0]=_
 by_cases hx:e 6 ≠ e 9
 ·have hs:e 252=chordP (e 0) (e 6) (e 7) (e 9) (e 10):=by rw [v252]; unfold slopeR; rw [if_neg (fun hc=>hx hc.1)]
  simp only []
  rw [if_pos hx,if_neg (show ¬ (1:Int)=0 by decide),v1453,v1309,v1261,v781,v637,v493,hs]; rfl
 ·have hx':e 6=e 9:=by omega
  have hy:¬ (e 7 ≠ e 10 ∨ e 7=0):=fun hc=>hnz ⟨hx,hc⟩
  have hy':e 7=e 10:=by omega
  have hs:e 252=tanP (e 0) (e 6) (e 7):=by rw [v252]; unfold slopeR; rw [if_pos ⟨hx',hy',by omega⟩]
  simp only []
  rw [if_neg hx,if_neg hy,if_neg (show ¬ (1:Int)=0 by decide),v1453,v1309,v1261,v781,v637,v493,hs]; rfl
theorem law_cTimes (f1 f2 f:FuncId) (e:Nat → Int) (hk:kkHas [.int .u64,.int .u64,.int .u64,.int .u64,.int .u64,.bit,.int .u64,.int .u64,.bit,.int .u64] [e 0,e 1,e 2,e 3,e 4,e 5,e 6,e 7,e 8,e 9]) (hp:(kCTimes f).pre [e 0,e 1,e 2,e 3,e 4,e 5,e 6,e 7,e 8,e 9]):tLTimes.says [kLen64 f1,kCAddP f2] ⟨fun ys=>ys=(kCTimes f).sem [e 0,e 1,e 2,e 3,e 4,e 5,e 6,e 7,e 8,e 9],[]⟩ e:=by
 obtain ⟨hpr,hon⟩:=hp
 have hp:=pr_ok hpr
 have p0:0 < e 0:=by have:=hp.1; omega
 obtain ⟨_,_,_,_,_,_,h6,h7,h8,h9,_⟩:=hk
 have u6:=has_u64 h6
 have u7:=has_u64 h7
 have u9:=has_u64 h9
 have ha:(⟨e 6,e 7,e 8⟩:Pt).lt (e 0):=hon.lt p0
 simp only [tLTimes,kLen64,kCAddP,kCTimes,Tree.says,List.getElem?_cons_zero,List.getElem?_cons_succ,List.map,ev_lit,ev_var,ev_limb,D.ev,List.getD_cons_zero,List.getD_cons_succ]
 refine ⟨trivial,fun a10 _ a11 _=>?_⟩
 have b0:=blen_nn (e 9)
 have b1:=blen_le 64 (e 9) u9.1 (by rw [p64']; exact u9.2)
 have c11:e 11=blen (e 9) - 1:=by rw [a11,a10]; simp only [binE,wr]; omega
 refine ⟨TimesI (e 0) ⟨e 6,e 7,e 8⟩ (e 9),fun | [i,_,_,_]=>(i + 1).toNat | _=>0,?_,fun e' he hkk hI=>?_⟩
 ·rw [c11]
  refine ⟨by omega,by omega,?_⟩
  rw [Int.sub_add_cancel]
  have h1:e 9 / 2 ^ (blen (e 9)).toNat=0:=by
   by_cases hc:e 9 < 2 ^ (blen (e 9)).toNat
   ·exact Int.ediv_eq_zero_of_lt u9.1 hc
   ·have:=blen_gt (blen (e 9)).toNat (e 9) (by omega); omega
  rw [h1]; rfl
 ·obtain ⟨i1,i2,i3⟩:TimesI (e 0) ⟨e 6,e 7,e 8⟩ (e 9) [e' 12,e' 13,e' 14,e' 15]:=hI
  simp only [he 0 (by decide),he 1 (by decide),he 2 (by decide),he 3 (by decide),he 4 (by decide),he 5 (by decide),he 6 (by decide),he 7 (by decide),he 8 (by decide),he 9 (by decide)]
  intro a16 _
  have b16:=c_ge a16
  refine ⟨fun hs=>?_,fun hs=>?_⟩
  ·obtain ⟨n,hi⟩:=Int.eq_ofNat_of_zero_le (show 0 ≤ e' 12 by omega)
   rw [hi,show ((n:Int) + 1).toNat=n + 1 by omega] at i3
   have hq:(0:Int) < 2 ^ n:=Int.pow_pos (by decide)
   have hn0:=Int.ediv_nonneg u9.1 (show (0:Int) ≤ 2 ^ n by omega)
   have hn1:e 9 / 2 ^ n < 18446744073709551616:=Int.lt_of_le_of_lt (Int.ediv_le_self _ u9.1) u9.2
   have hok:=mul_ok hpr hon 64 (e 9 / 2 ^ (n + 1)).toNat
   rw [← i3] at hok
   have hst:=mulP_step (p:=e 0) (a:=⟨e 6,e 7,e 8⟩) (n:=(e 9 / 2 ^ n).toNat) (by omega)
   have hhalf:(e 9 / 2 ^ n).toNat / 2=(e 9 / 2 ^ (n + 1)).toNat:=by
    rw [Int.pow_succ,← Int.ediv_ediv_of_nonneg (by omega)]; omega
   rw [hhalf,← i3] at hst
   refine ⟨⟨hpr,hok,hok⟩,fun a17 _ a18 _ a19 _ a20 _ a21 _=>⟨bit_nz a20 (by omega),fun a22 _ a23 _=>?_⟩⟩
   have b23:=c_eq a23
   rw [hi] at a21
   have c21:=shr_n a21 (by omega)
   have c22:=and_1 a22 (by rw [c21]; exact ⟨hn0,hn1⟩)
   rw [c21] at c22
   have hd:(⟨e' 17,e' 18,e' 19⟩:Pt)=sumP (e 0) ⟨e' 13,e' 14,e' 15⟩ ⟨e' 13,e' 14,e' 15⟩:=by rw [a17,a18,a19]; rfl
   have hdl:=sum_ok hpr hok hok
   rw [← hd] at hdl hst
   refine ⟨fun hs2=>?_,fun hs2=>?_⟩
   ·refine ⟨⟨hpr,hdl,hon⟩,fun a24 _ a25 _ a26 _ a27 _=>?_⟩
    have h27:e' 27=n - 1:=by rw [a27]; simp only [binE,wr]; omega
    show TimesI (e 0) ⟨e 6,e 7,e 8⟩ (e 9) [e' 27,e' 24,e' 25,e' 26] ∧ (e' 27 + 1).toNat < (e' 12 + 1).toNat
    rw [h27,hi]
    refine ⟨⟨by omega,by omega,?_⟩,by omega⟩
    rw [show ((n:Int) - 1 + 1).toNat=n by omega,hst,if_pos (by omega),a24,a25,a26]; rfl
   ·intro a24 _
    have h24:e' 24=n - 1:=by rw [a24]; simp only [binE,wr]; omega
    show TimesI (e 0) ⟨e 6,e 7,e 8⟩ (e 9) [e' 24,e' 17,e' 18,e' 19] ∧ (e' 24 + 1).toNat < (e' 12 + 1).toNat
    rw [h24,hi]
    refine ⟨⟨by omega,by omega,?_⟩,by omega⟩
    rw [show ((n:Int) - 1 + 1).toNat=n by omega,hst,if_neg (by omega)]
  ·have h1:e' 12=-1:=by omega
   rw [h1] at i3
   have h2:(⟨e' 13,e' 14,e' 15⟩:Pt)=mulP (e 0) ⟨e 6,e 7,e 8⟩ 64 (e 9).toNat:=by
    rw [i3]; congr 2
    show e 9 / 1=e 9
    rw [Int.ediv_one]
   rw [← h2]; rfl
theorem law_cIn (f1 f2 f:FuncId) (e:Nat → Int) (hk:kkHas [.int .u64,.int .u64,.int .u64,.int .u64,.int .u64,.bit,.int .u64,.int .u64,.bit] [e 0,e 1,e 2,e 3,e 4,e 5,e 6,e 7,e 8]) (hp:(kCIn f).pre [e 0,e 1,e 2,e 3,e 4,e 5,e 6,e 7,e 8]):tLIn.says [kLOn f1,kCTimes f2] ⟨fun ys=>ys=(kCIn f).sem [e 0,e 1,e 2,e 3,e 4,e 5,e 6,e 7,e 8],[]⟩ e:=by
 have hpr:prP (e 0):=hp
 have hp:=pr_ok hpr
 have p0:=hp.1
 have u6:=(has_u64 hk.2.2.2.2.2.2.1).1
 have u7:=(has_u64 hk.2.2.2.2.2.2.2.1).1
 have h8:0 ≤ e 8 ∧ e 8 ≤ 1:=hk.2.2.2.2.2.2.2.2.1
 simp only [tLIn,kLOn,kCTimes,kCIn,Tree.says,List.getElem?_cons_zero,List.getElem?_cons_succ,List.map,ev_lit,ev_var,ev_limb,D.ev,List.getD_cons_zero,List.getD_cons_succ]
 refine ⟨hp,fun a9 _=>?_⟩
 unfold bi at a9 ⊢
 refine ⟨fun h=>?_,fun h=>?_⟩
 ·have hon:onP (e 0) (e 6) (e 7) (e 8):=by
   by_cases hc:onP (e 0) (e 6) (e 7) (e 8)
   ·exact hc
   ·rw [if_neg hc] at a9; omega
  have hb:e 6 < e 0 ∧ e 7 < e 0:=by
   unfold onP at hon
   split at hon <;> omega
  refine ⟨⟨hpr,hon,⟨u6,u7⟩,(by show e 8=0 ∨ e 8=1; omega)⟩,fun a10 _ a11 _ a12 k12=>?_⟩
  have hz:e 12=(mulP (e 0) ⟨e 6,e 7,e 8⟩ 64 (e 1).toNat).z:=a12
  have k12:0 ≤ e 12 ∧ e 12 ≤ 1:=k12
  by_cases hc:(mulP (e 0) ⟨e 6,e 7,e 8⟩ 64 (e 1).toNat).z ≠ 0
  ·rw [if_pos ⟨hon,hc⟩]; congr 1; omega
  ·rw [if_neg (fun hh=>hc hh.2)]; congr 1; omega
 ·have hon:¬ onP (e 0) (e 6) (e 7) (e 8):=fun hc=>by rw [if_pos hc] at a9; omega
  rw [if_neg (fun hh=>hon hh.1)]
end Go.Sx

namespace Go.Sx
open Go Go.RowKit
set_option maxRecDepth 100000
set_option linter.unusedVariables false
set_option linter.unusedSimpArgs false
end Go.Sx

namespace Go.Sx
open Go Go.RowKit
set_option maxRecDepth 100000
set_option linter.unusedSimpArgs false
set_option linter.unusedVariables false
def tIs:Tree:=(.lett 1 .bit (.cmp .geq (.var 0) (.lit 0))
(.split 1
(.lett 2 .bit (.cmp .leq (.var 0) (.lit 2))
(.ret [.var 2]))
(.ret [.lit 0])))
theorem law_is (f:FuncId) (e:Nat → Int):tIs.says [] ⟨fun ys=>ys=(kIs f).sem [e 0],[]⟩ e:=by
 simp only [tIs,kIs,Tree.says,List.getElem?_cons_zero,List.getElem?_cons_succ,List.map,ev_lit,ev_var,ev_limb,D.ev,List.getD_cons_zero,List.getD_cons_succ]
 intro a1 _
 have b1:=c_ge a1
 refine ⟨fun n=>?_,fun n=>?_⟩
 ·intro a2 _
  have b2:=c_le a2
  by_cases h:isS (e 0)
  ·rw [bi,if_pos h]; unfold isS at h; congr 1; omega
  ·rw [bi,if_neg h]; unfold isS at h; congr 1; omega
 ·rw [bi,if_neg (by unfold isS; omega)]
end Go.Sx

namespace Go.Sx
open Go Go.RowKit
theorem fermat_int {p:Nat} (hp:Np.isP p) {a:Int} (h0:0 < a) (h1:a < p):a * (a ^ ((p:Int) - 2).toNat % p) % p=1:=by
 obtain ⟨x,rfl⟩:=Int.eq_ofNat_of_zero_le (Int.le_of_lt h0)
 have h2:=hp.1
 have hx:¬ p ∣ x:=fun h=>by have:=Nat.le_of_dvd (by omega) h; omega
 have hf:=Np.fermat hp hx
 rw [show ((p:Int) - 2).toNat=p - 2 by omega]
 have e:x * (x ^ (p - 2) % p) % p=1:=by rw [Nat.mul_mod_mod,← Nat.pow_succ',show (p - 2).succ=p - 1 by omega]; exact hf
 have:((x * (x ^ (p - 2) % p) % p:Nat):Int)=1:=by rw [e]; rfl
 rw [← this,Int.natCast_emod,Int.natCast_mul,Int.natCast_emod,Int.natCast_pow]
end Go.Sx

namespace Go.Sx
open Go Go.RowKit
set_option maxRecDepth 100000
set_option linter.unusedSimpArgs false
set_option linter.unusedVariables false
def pL (s:Int):Int:=if s=1 then 786251 else 1152921504606846223
theorem c_p1 {e:Nat → Int} {v:Int} {i j k:Nat} (h:v=(D.eqs [((.limb i 0),(.lit 0)),((.limb i 1),(.lit 0)),((.limb i 2),(.lit 0)),((.limb i 3),(.lit 0)),((.limb i 4),(.lit 0)),((.limb i 5),(.lit 0)),((.limb j 0),(.lit 0)),((.limb j 1),(.lit 0)),((.limb j 2),(.lit 0)),((.limb j 3),(.lit 0)),((.limb j 4),(.lit 0)),((.limb j 5),(.lit 0)),((.var k),(.lit 0))]).ev [] e)
  (hi:0 ≤ e i ∧ e i < N384) (hj:0 ≤ e j ∧ e j < N384):(v=1 ∧ e i=0 ∧ e j=0 ∧ e k=0) ∨ (v=0 ∧ ¬ (e i=0 ∧ e j=0 ∧ e k=0)):=by
 simp only [D.ev,List.all_cons,List.all_nil,ev_limb,ev_lit,ev_var,Bool.and_true,b2i_bi,Bool.and_eq_true,beq_iff_eq] at h
 by_cases hc:e i=0 ∧ e j=0 ∧ e k=0
 ·left; rw [hc.1,hc.2.1,hc.2.2] at h; simp [lim] at h; exact ⟨h,hc⟩
 ·right
  rw [if_neg (fun hh=>hc (by have:=lim_eq hi; have:=lim_eq hj; omega))] at h
  exact ⟨h,hc⟩
end Go.Sx
