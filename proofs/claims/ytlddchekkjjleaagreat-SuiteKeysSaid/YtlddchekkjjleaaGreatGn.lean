/- Part Gn of the proof. -/
import Derived.Test.YtlddchekkjjleaaGreatGm
import Derived.Test.YtlddchekkjjleaaGreatGh
set_option linter.unusedVariables false
set_option linter.unusedSimpArgs false
namespace Go.Sx
open Go Go.RowKit
set_option maxRecDepth 100000
set_option linter.unusedVariables false
set_option linter.unusedSimpArgs false
def isL (s:Int):Prop:=s=1 ∨ s=2
def cvL (s:Int):List Int:=if s=1 then [786251,65521,12,9723,164643,0,1] else if s=2 then [1152921504606846223,72057594037927889,16,613740293506734924,666621259561003659,0,1] else [0,0,0,0,0,0,0]
abbrev lsKey:List L:=[.int .i64,.num,.num,.bool,.int .u64,.int .u64,.bool]
def kLOf (f:FuncId):K:={fn:=f,ext:=false,ins:=[iI],outs:=[.agg [.int .u64,.int .u64,.int .u64,.int .u64,.int .u64,.bool],oB],pre:=fun _=>True,sem:=fun | [s]=>cvL s | _=>[] }
def tLOf:Tree:=(.lett 1 .bit (.cmp .eql (.var 0) (.lit 1))
(.split 1
(.ret [.lit 786251,.lit 65521,.lit 12,.lit 9723,.lit 164643,.lit 0,.lit 1])
(.lett 2 .bit (.cmp .eql (.var 0) (.lit 2))
(.split 2
 (.ret [.lit 1152921504606846223,.lit 72057594037927889,.lit 16,.lit 613740293506734924,.lit 666621259561003659,.lit 0,.lit 1])
 (.ret [.lit 0,.lit 0,.lit 0,.lit 0,.lit 0,.lit 0,.lit 0])))))
theorem law_lOf (f:FuncId) (e:Nat → Int):tLOf.says [] ⟨fun ys=>ys=(kLOf f).sem [e 0],[]⟩ e:=by
 show tLOf.says _ ⟨fun ys=>ys=cvL (e 0),[]⟩ e
 intro a1 _
 have b1:=c_eq a1
 refine ⟨fun h=>?_,fun h=>?_⟩
 ·show _=cvL (e 0)
  unfold cvL
  rw [if_pos (show e 0=1 from b_yes b1 h)]; rfl
 ·intro a2 _
  have b2:=c_eq a2
  have n1:¬ e 0=1:=b_no b1 h
  refine ⟨fun h=>?_,fun h=>?_⟩
  ·show _=cvL (e 0)
   unfold cvL
   rw [if_neg n1,if_pos (show e 0=2 from b_yes b2 h)]; rfl
  ·show _=cvL (e 0)
   unfold cvL
   rw [if_neg n1,if_neg (show ¬ e 0=2 from b_no b2 h)]; rfl
theorem pL_ok (s:Int):pOk (pL s):=by
 unfold pL; split <;> exact ⟨by decide,by decide⟩
theorem cvL_t {s:Int} (h:isL s):cvL s=[pL s,rOf s,if s=1 then 12 else 16,if s=1 then 9723 else 613740293506734924,if s=1 then 164643 else 666621259561003659,0,1]:=by
 rcases h with rfl | rfl <;> rfl
theorem cvL_f {s:Int} (h:¬ isL s):cvL s=[0,0,0,0,0,0,0]:=by
 unfold cvL
 rw [if_neg (fun h1=>h (.inl h1)),if_neg (fun h1=>h (.inr h1))]
open Classical in
theorem isL_6 (s:Int):(cvL s).getD 6 0=bj (isL s):=by
 by_cases h:isL s
 ·rw [cvL_t h,bj_t h]; rfl
 ·rw [cvL_f h,bj_f h]; rfl
theorem bi_bj {p:Prop} [Decidable p]:bi p=bj p:=by
 by_cases h:p
 ·rw [bj_t h]; exact if_pos h
 ·rw [bj_f h]; exact if_neg h
noncomputable def kLIn2 (f:FuncId):K:={fn:=f,ext:=false,ins:=[iI,iPt],outs:=[oB],pre:=fun _=>True,sem:=fun | [s,x,y,z]=>[bj (isL s ∧ inP (pL s) (rOf s) x y z)] | _=>[] }
def tLIn2:Tree:=(.req 0 [.var 0]
(.lett 4 (.int .u64) (.app 0 0 [.var 0])
(.lett 5 (.int .u64) (.app 0 1 [.var 0])
(.lett 6 (.int .u64) (.app 0 2 [.var 0])
(.lett 7 (.int .u64) (.app 0 3 [.var 0])
(.lett 8 (.int .u64) (.app 0 4 [.var 0])
(.lett 9 .bit (.app 0 5 [.var 0])
(.lett 10 .bit (.app 0 6 [.var 0])
(.split 10
(.req 1 [.var 4,.var 5,.var 6,.var 7,.var 8,.var 9,.var 1,.var 2,.var 3]
(.lett 11 .bit (.app 1 0 [.var 4,.var 5,.var 6,.var 7,.var 8,.var 9,.var 1,.var 2,.var 3])
(.ret [.var 11])))
(.ret [.lit 0]))))))))))
theorem law_lIn2 (f1 f2 f:FuncId) (e:Nat → Int):tLIn2.says [kLOf f1,kLIn f2] ⟨fun ys=>ys=(kLIn2 f).sem [e 0,e 1,e 2,e 3],[]⟩ e:=by
 show tLIn2.says _ ⟨fun ys=>ys=[bj (isL (e 0) ∧ inP (pL (e 0)) (rOf (e 0)) (e 1) (e 2) (e 3))],[]⟩ e
 refine ⟨trivial,fun a4 _ a5 _ a6 _ a7 _ a8 _ a9 _ a10 _=>?_⟩
 have v10:e 10=bj (isL (e 0)):=(show e 10=(cvL (e 0)).getD 6 0 from a10).trans (isL_6 _)
 refine ⟨fun h=>?_,fun h=>?_⟩
 ·have hl:=bj_nz v10 h
  have v4:e 4=pL (e 0):=by rw [show e 4=(cvL (e 0)).getD 0 0 from a4,cvL_t hl]; rfl
  have v5:e 5=rOf (e 0):=by rw [show e 5=(cvL (e 0)).getD 1 0 from a5,cvL_t hl]; rfl
  refine ⟨(by show pOk (e 4); rw [v4]; exact pL_ok _),fun a11 _=>?_⟩
  have v11:e 11=bi (inP (e 4) (e 5) (e 1) (e 2) (e 3)):=a11
  show [e 11]=_
  rw [v11,bi_bj,v4,v5]
  exact congrArg (fun x=>[x]) (bj_iff ⟨fun h=>⟨hl,h⟩,fun h=>h.2⟩)
 ·show [(0:Int)]=_
  rw [bj_f fun hh=>bj_z v10 h hh.1]
noncomputable def kLMul2 (f:FuncId):K:={fn:=f,ext:=false,ins:=[iI,iPt,iU],outs:=[.agg [.int .u64,.int .u64,.bool],oI],pre:=fun | [s,x,y,z,_]=>isL s ∧ onP (pL s) x y z | _=>False,sem:=fun | [s,x,y,z,n]=>(mulP (pL s) ⟨x,y,z⟩ 64 n.toNat).l ++ [0] | _=>[] }
theorem on_lt {p x y z:Int} (hp:0 < p) (h:onP p x y z):x < p ∧ y < p:=by
 unfold onP at h
 split at h <;> omega
def tLMul2:Tree:=(.req 0 [.var 0]
(.lett 5 (.int .u64) (.app 0 0 [.var 0])
(.lett 6 (.int .u64) (.app 0 1 [.var 0])
(.lett 7 (.int .u64) (.app 0 2 [.var 0])
(.lett 8 (.int .u64) (.app 0 3 [.var 0])
(.lett 9 (.int .u64) (.app 0 4 [.var 0])
(.lett 10 .bit (.app 0 5 [.var 0])
(.lett 11 .bit (.app 0 6 [.var 0])
(.lett 12 .bit (.not (.var 11))
(.split 12
(.ret [.lit 0,.lit 0,.lit 0,.lit 2])
(.req 1 [.var 5,.var 6,.var 7,.var 8,.var 9,.var 10,.var 1,.var 2,.var 3]
(.lett 13 .bit (.app 1 0 [.var 5,.var 6,.var 7,.var 8,.var 9,.var 10,.var 1,.var 2,.var 3])
(.lett 14 .bit (.not (.var 13))
(.split 14
 (.ret [.lit 0,.lit 0,.lit 0,.lit 5])
 (.req 2 [.var 5,.var 6,.var 7,.var 8,.var 9,.var 10,.var 1,.var 2,.var 3,.var 4]
 (.lett 15 (.int .u64) (.app 2 0 [.var 5,.var 6,.var 7,.var 8,.var 9,.var 10,.var 1,.var 2,.var 3,.var 4])
 (.lett 16 (.int .u64) (.app 2 1 [.var 5,.var 6,.var 7,.var 8,.var 9,.var 10,.var 1,.var 2,.var 3,.var 4])
 (.lett 17 .bit (.app 2 2 [.var 5,.var 6,.var 7,.var 8,.var 9,.var 10,.var 1,.var 2,.var 3,.var 4])
 (.ret [.var 15,.var 16,.var 17,.lit 0])))))))))))))))))))
theorem law_lMul2 (f1 f2 f3 f:FuncId) (e:Nat → Int) (hp:(kLMul2 f).pre [e 0,e 1,e 2,e 3,e 4]):tLMul2.says [kLOf f1,kLOn f2,kLTimes f3] ⟨fun ys=>ys=(kLMul2 f).sem [e 0,e 1,e 2,e 3,e 4],[]⟩ e:=by
 obtain ⟨hl,ho⟩:isL (e 0) ∧ onP (pL (e 0)) (e 1) (e 2) (e 3):=hp
 have hok:=pL_ok (e 0)
 show tLMul2.says _ ⟨fun ys=>ys=(mulP (pL (e 0)) ⟨e 1,e 2,e 3⟩ 64 (e 4).toNat).l ++ [0],[]⟩ e
 refine ⟨trivial,fun a5 _ a6 _ a7 _ a8 _ a9 _ a10 _ a11 _ a12 _=>?_⟩
 have v5:e 5=pL (e 0):=by rw [show e 5=(cvL (e 0)).getD 0 0 from a5,cvL_t hl]; rfl
 have v11:e 11=1:=by rw [show e 11=(cvL (e 0)).getD 6 0 from a11,cvL_t hl]; rfl
 have b12:=c_not a12
 simp only [ev_var] at b12
 refine ⟨fun h=>by omega,fun _=>⟨(by show pOk (e 5); rw [v5]; exact hok),fun a13 _ a14 _=>?_⟩⟩
 have v13:e 13=bi (onP (e 5) (e 1) (e 2) (e 3)):=a13
 rw [v5,bi_bj,bj_t ho] at v13
 have b14:=c_not a14
 simp only [ev_var] at b14
 have hlt:=on_lt (show 0 < pL (e 0) by have:=hok.1; omega) ho
 refine ⟨fun h=>by omega,fun _=>⟨(by show pOk (e 5) ∧ e 1 < e 5 ∧ e 2 < e 5; rw [v5]; exact ⟨hok,hlt.1,hlt.2⟩),fun a15 _ a16 _ a17 _=>?_⟩⟩
 have hs:[e 15,e 16,e 17]=(mulP (e 5) ⟨e 1,e 2,e 3⟩ 64 (e 4).toNat).l:=by
  rw [show e 15=_ from a15,show e 16=_ from a16,show e 17=_ from a17]; rfl
 rw [v5] at hs
 show [e 15,e 16,e 17,0]=_
 rw [← hs]; rfl
noncomputable def kLAdd2 (f:FuncId):K:={fn:=f,ext:=false,ins:=[iI,iPt,iPt],outs:=[.agg [.int .u64,.int .u64,.bool],oI],pre:=fun | [s,x,y,z,x',y',z']=>isL s ∧ onP (pL s) x y z ∧ onP (pL s) x' y' z' | _=>False,sem:=fun | [s,x,y,z,x',y',z']=>(sumP (pL s) ⟨x,y,z⟩ ⟨x',y',z'⟩).l ++ [0] | _=>[] }
def tLAdd2:Tree:=(.req 0 [.var 0]
(.lett 7 (.int .u64) (.app 0 0 [.var 0])
(.lett 8 (.int .u64) (.app 0 1 [.var 0])
(.lett 9 (.int .u64) (.app 0 2 [.var 0])
(.lett 10 (.int .u64) (.app 0 3 [.var 0])
(.lett 11 (.int .u64) (.app 0 4 [.var 0])
(.lett 12 .bit (.app 0 5 [.var 0])
(.lett 13 .bit (.app 0 6 [.var 0])
(.lett 14 .bit (.not (.var 13))
(.split 14
(.ret [.lit 0,.lit 0,.lit 0,.lit 2])
(.req 1 [.var 7,.var 8,.var 9,.var 10,.var 11,.var 12,.var 1,.var 2,.var 3]
(.lett 15 .bit (.app 1 0 [.var 7,.var 8,.var 9,.var 10,.var 11,.var 12,.var 1,.var 2,.var 3])
(.lett 16 .bit (.not (.var 15))
(.split 16
 (.ret [.lit 0,.lit 0,.lit 0,.lit 5])
 (.req 1 [.var 7,.var 8,.var 9,.var 10,.var 11,.var 12,.var 4,.var 5,.var 6]
 (.lett 17 .bit (.app 1 0 [.var 7,.var 8,.var 9,.var 10,.var 11,.var 12,.var 4,.var 5,.var 6])
 (.lett 18 .bit (.not (.var 17))
 (.split 18
 (.ret [.lit 0,.lit 0,.lit 0,.lit 5])
 (.req 2 [.var 7,.var 8,.var 9,.var 10,.var 11,.var 12,.var 1,.var 2,.var 3,.var 4,.var 5,.var 6]
 (.lett 19 (.int .u64) (.app 2 0 [.var 7,.var 8,.var 9,.var 10,.var 11,.var 12,.var 1,.var 2,.var 3,.var 4,.var 5,.var 6])
 (.lett 20 (.int .u64) (.app 2 1 [.var 7,.var 8,.var 9,.var 10,.var 11,.var 12,.var 1,.var 2,.var 3,.var 4,.var 5,.var 6])
 (.lett 21 .bit (.app 2 2 [.var 7,.var 8,.var 9,.var 10,.var 11,.var 12,.var 1,.var 2,.var 3,.var 4,.var 5,.var 6])
 (.ret [.var 19,.var 20,.var 21,.lit 0])))))))))))))))))))))))
theorem law_lAdd2 (f1 f2 f3 f:FuncId) (e:Nat → Int) (hp:(kLAdd2 f).pre [e 0,e 1,e 2,e 3,e 4,e 5,e 6]):tLAdd2.says [kLOf f1,kLOn f2,kLSum f3] ⟨fun ys=>ys=(kLAdd2 f).sem [e 0,e 1,e 2,e 3,e 4,e 5,e 6],[]⟩ e:=by
 obtain ⟨hl,ho,ho'⟩:isL (e 0) ∧ onP (pL (e 0)) (e 1) (e 2) (e 3) ∧ onP (pL (e 0)) (e 4) (e 5) (e 6):=hp
 have hok:=pL_ok (e 0)
 show tLAdd2.says _ ⟨fun ys=>ys=(sumP (pL (e 0)) ⟨e 1,e 2,e 3⟩ ⟨e 4,e 5,e 6⟩).l ++ [0],[]⟩ e
 refine ⟨trivial,fun a7 _ a8 _ a9 _ a10 _ a11 _ a12 _ a13 _ a14 _=>?_⟩
 have v7:e 7=pL (e 0):=by rw [show e 7=(cvL (e 0)).getD 0 0 from a7,cvL_t hl]; rfl
 have v13:e 13=1:=by rw [show e 13=(cvL (e 0)).getD 6 0 from a13,cvL_t hl]; rfl
 have b14:=c_not a14
 simp only [ev_var] at b14
 refine ⟨fun h=>by omega,fun _=>⟨(by show pOk (e 7); rw [v7]; exact hok),fun a15 _ a16 _=>?_⟩⟩
 have v15:e 15=bi (onP (e 7) (e 1) (e 2) (e 3)):=a15
 rw [v7,bi_bj,bj_t ho] at v15
 have b16:=c_not a16
 simp only [ev_var] at b16
 refine ⟨fun h=>by omega,fun _=>⟨(by show pOk (e 7); rw [v7]; exact hok),fun a17 _ a18 _=>?_⟩⟩
 have v17:e 17=bi (onP (e 7) (e 4) (e 5) (e 6)):=a17
 rw [v7,bi_bj,bj_t ho'] at v17
 have b18:=c_not a18
 simp only [ev_var] at b18
 have p0:0 < pL (e 0):=by have:=hok.1; omega
 have hlt:=on_lt p0 ho
 have hlt':=on_lt p0 ho'
 refine ⟨fun h=>by omega,fun _=>⟨(by show pOk (e 7) ∧ e 1 < e 7 ∧ e 2 < e 7 ∧ e 4 < e 7 ∧ e 5 < e 7; rw [v7]; exact ⟨hok,hlt.1,hlt.2,hlt'.1,hlt'.2⟩),fun a19 _ a20 _ a21 _=>?_⟩⟩
 have hs:[e 19,e 20,e 21]=(sumP (e 7) ⟨e 1,e 2,e 3⟩ ⟨e 4,e 5,e 6⟩).l:=by
  rw [show e 19=_ from a19,show e 20=_ from a20,show e 21=_ from a21]; rfl
 rw [v7] at hs
 show [e 19,e 20,e 21,0]=_
 rw [← hs]; rfl
def keyOk (s px py pz x y z:Int):Prop:=(s=0 ∧ (x=0 ∧ y=0 ∧ z=0) ∧ inG px py pz) ∨ (isL s ∧ (px=0 ∧ py=0 ∧ pz=0) ∧ inP (pL s) (rOf s) x y z)
noncomputable def kKeyChk (f:FuncId):K:={fn:=f,ext:=false,ins:=[.agg lsKey],outs:=[oB],pre:=fun _=>True,sem:=fun | [s,px,py,pz,x,y,z]=>[bj (keyOk s px py pz x y z)] | _=>[] }
theorem c_eqs {T:List K} {e:Nat → Int} {v:Int} {l:List (A × A)} (h:v=(D.eqs l).ev T e):(v=1 ∧ ∀ p ∈ l,p.1.ev e=p.2.ev e) ∨ (v=0 ∧ ¬ ∀ p ∈ l,p.1.ev e=p.2.ev e):=by
 have h:v=b2i (l.all fun p=>p.1.ev e == p.2.ev e):=h
 by_cases hc:∀ p ∈ l,p.1.ev e=p.2.ev e
 ·refine .inl ⟨?_,hc⟩
  rw [h,show (l.all fun p=>p.1.ev e == p.2.ev e)=true from List.all_eq_true.2 fun p hp=>beq_iff_eq.2 (hc p hp)]; rfl
 ·refine .inr ⟨?_,hc⟩
  have:(l.all fun p=>p.1.ev e == p.2.ev e)=false:=by
   cases hb:(l.all fun p=>p.1.ev e == p.2.ev e) with
   | false=>rfl
   | true=>exact absurd (fun p hp=>beq_iff_eq.1 (List.all_eq_true.1 hb p hp)) hc
  rw [h,this]; rfl
theorem c_l1 {T:List K} {e:Nat → Int} {v:Int} {i j k:Nat} (h:v=(D.eqs [(.var i,.lit 0),(.var j,.lit 0),(.var k,.lit 0)]).ev T e):(v=1 ∧ (e i=0 ∧ e j=0 ∧ e k=0)) ∨ (v=0 ∧ ¬ (e i=0 ∧ e j=0 ∧ e k=0)):=by
 have hi:(∀ p ∈ [(A.var i,A.lit 0),(.var j,.lit 0),(.var k,.lit 0)],p.1.ev e=p.2.ev e) ↔ (e i=0 ∧ e j=0 ∧ e k=0):=by
  constructor
  ·intro h
   exact ⟨h _ (List.mem_cons_self ..),h _ (List.mem_cons_of_mem _ (List.mem_cons_self ..)),h _ (List.mem_cons_of_mem _ (List.mem_cons_of_mem _ (List.mem_cons_self ..)))⟩
  ·rintro ⟨h1,h2,h3⟩ p hp
   simp only [List.mem_cons,List.not_mem_nil,or_false] at hp
   rcases hp with rfl | rfl | rfl
   ·exact h1
   ·exact h2
   ·exact h3
 rcases c_eqs h with ⟨h1,h2⟩ | ⟨h1,h2⟩
 ·exact .inl ⟨h1,hi.1 h2⟩
 ·exact .inr ⟨h1,fun hh=>h2 (hi.2 hh)⟩
def tKeyChk:Tree:=(.lett 7 .bit (.cmp .eql (.var 0) (.lit 0))
(.split 7
(.lett 8 .bit (.eqs [((.var 4),(.lit 0)),((.var 5),(.lit 0)),((.var 6),(.lit 0))])
(.split 8
 (.req 0 [.var 1,.var 2,.var 3]
 (.lett 9 .bit (.app 0 0 [.var 1,.var 2,.var 3])
 (.ret [.var 9])))
 (.ret [.lit 0])))
(.lett 8 .bit (.cmp .eql (.var 0) (.lit 1))
(.split 8
 (.lett 9 .bit (.eqs [((.limb 1 0),(.lit 0)),((.limb 1 1),(.lit 0)),((.limb 1 2),(.lit 0)),((.limb 1 3),(.lit 0)),((.limb 1 4),(.lit 0)),((.limb 1 5),(.lit 0)),((.limb 2 0),(.lit 0)),((.limb 2 1),(.lit 0)),((.limb 2 2),(.lit 0)),((.limb 2 3),(.lit 0)),((.limb 2 4),(.lit 0)),((.limb 2 5),(.lit 0)),((.var 3),(.lit 0))])
 (.split 9
 (.req 1 [.var 0,.var 4,.var 5,.var 6]
 (.lett 10 .bit (.app 1 0 [.var 0,.var 4,.var 5,.var 6])
 (.ret [.var 10])))
 (.ret [.lit 0])))
 (.lett 9 .bit (.cmp .eql (.var 0) (.lit 2))
 (.split 9
 (.lett 10 .bit (.eqs [((.limb 1 0),(.lit 0)),((.limb 1 1),(.lit 0)),((.limb 1 2),(.lit 0)),((.limb 1 3),(.lit 0)),((.limb 1 4),(.lit 0)),((.limb 1 5),(.lit 0)),((.limb 2 0),(.lit 0)),((.limb 2 1),(.lit 0)),((.limb 2 2),(.lit 0)),((.limb 2 3),(.lit 0)),((.limb 2 4),(.lit 0)),((.limb 2 5),(.lit 0)),((.var 3),(.lit 0))])
 (.split 10
 (.req 1 [.var 0,.var 4,.var 5,.var 6]
 (.lett 11 .bit (.app 1 0 [.var 0,.var 4,.var 5,.var 6])
 (.ret [.var 11])))
 (.ret [.lit 0])))
 (.ret [.lit 0])))))))
theorem law_keyChk (f1 f2 f:FuncId) (e:Nat → Int) (hk:kkHas [.int .i64,.num,.num,.bit,.int .u64,.int .u64,.bit] [e 0,e 1,e 2,e 3,e 4,e 5,e 6]):tKeyChk.says [kInG1 f1,kLIn2 f2] ⟨fun ys=>ys=(kKeyChk f).sem [e 0,e 1,e 2,e 3,e 4,e 5,e 6],[]⟩ e:=by
 obtain ⟨_,u1,u2,_⟩:=hk
 simp only [KK.has] at u1 u2
 show tKeyChk.says _ ⟨fun ys=>ys=[bj (keyOk (e 0) (e 1) (e 2) (e 3) (e 4) (e 5) (e 6))],[]⟩ e
 intro a7 _
 have b7:=c_eq a7
 simp only [ev_var,ev_lit] at b7
 refine ⟨fun h7=>?_,fun h7=>?_⟩
 ·have e0:e 0=0:=by omega
  intro a8 _
  have b8:=c_l1 a8
  refine ⟨fun h8=>⟨trivial,fun a9 _=>?_⟩,fun h8=>?_⟩
  ·have v9:e 9=bj (inG (e 1) (e 2) (e 3)):=a9
   show [e 9]=_
   rw [v9]
   exact congrArg (fun x=>[x]) (bj_iff ⟨fun h=>.inl ⟨e0,b_yes b8 h8,h⟩,fun h=>by
    rcases h with h | h
    ·exact h.2.2
    ·rcases h.1 with h1 | h1 <;> (rw [e0] at h1; exact absurd h1 (by decide))⟩)
  ·show [(0:Int)]=_
   rw [bj_f]
   intro h
   rcases h with h | h
   ·exact b_no b8 h8 h.2.1
   ·rcases h.1 with h1 | h1 <;> (rw [e0] at h1; exact absurd h1 (by decide))
 ·have n0:¬ e 0=0:=by omega
  intro a8 _
  have b8:=c_eq a8
  simp only [ev_var,ev_lit] at b8
  have key:∀ (v w:Int),isL (e 0) → v=bj (isL (e 0) ∧ inP (pL (e 0)) (rOf (e 0)) (e 4) (e 5) (e 6)) → (e 1=0 ∧ e 2=0 ∧ e 3=0) → [v]=[bj (keyOk (e 0) (e 1) (e 2) (e 3) (e 4) (e 5) (e 6))]:=fun v w hl hv hz=>by
   rw [hv]
   exact congrArg (fun x=>[x]) (bj_iff ⟨fun h=>.inr ⟨hl,hz,h.2⟩,fun h=>by
    rcases h with h | h
    ·exact absurd h.1 n0
    ·exact ⟨hl,h.2.2⟩⟩)
  have none:¬ (e 1=0 ∧ e 2=0 ∧ e 3=0) → [(0:Int)]=[bj (keyOk (e 0) (e 1) (e 2) (e 3) (e 4) (e 5) (e 6))]:=fun hz=>by
   rw [bj_f]
   intro h
   rcases h with h | h
   ·exact n0 h.1
   ·exact hz h.2.1
  refine ⟨fun h8=>?_,fun h8=>?_⟩
  ·intro a9 _
   have b9:=c_p1 a9 u1 u2
   refine ⟨fun h9=>⟨trivial,fun a10 _=>key _ 0 (.inl (by omega)) a10 (by omega)⟩,fun h9=>none (by omega)⟩
  ·intro a9 _
   have b9:=c_eq a9
   simp only [ev_var,ev_lit] at b9
   refine ⟨fun h9=>?_,fun h9=>?_⟩
   ·intro a10 _
    have b10:=c_p1 a10 u1 u2
    refine ⟨fun h10=>⟨trivial,fun a11 _=>key _ 0 (.inr (by omega)) a11 (by omega)⟩,fun h10=>none (by omega)⟩
   ·show [(0:Int)]=_
    rw [bj_f]
    intro h
    rcases h with h | h
    ·exact n0 h.1
    ·rcases h.1 with h1 | h1 <;> omega
end Go.Sx

namespace Go.Sx
open Go Go.RowKit
set_option maxRecDepth 100000
set_option linter.unusedVariables false
set_option linter.unusedSimpArgs false
def by8 (x:Int):List Int:=[wr .u8 (binE .shr .u64 x 56),wr .u8 (binE .shr .u64 x 48),wr .u8 (binE .shr .u64 x 40),wr .u8 (binE .shr .u64 x 32),wr .u8 (binE .shr .u64 x 24),wr .u8 (binE .shr .u64 x 16),wr .u8 (binE .shr .u64 x 8),wr .u8 (binE .shr .u64 x 0)]
def bytesL (x y z:Int):List Int:=(if z=0 then 0 else 1) :: (by8 x ++ by8 y)
def rdF (b:List Int) (o:Nat):Nat → Int
 | 0=>0
 | n + 1=>binE .or .u64 (binE .shl .u64 (rdF b o n) 8) (b.getD (o + n) 0)
def readLV (p r:Int) (b:List Int):List Int :=
 if b.length ≠ 17 then [0,0,0,4]
 else if b.getD 0 0 > 1 ∨ ¬ onP p (rdF b 1 8) (rdF b 9 8) (bi (b.getD 0 0=1)) then [0,0,0,4]
 else if inP p r (rdF b 1 8) (rdF b 9 8) (bi (b.getD 0 0=1)) then [rdF b 1 8,rdF b 9 8,bi (b.getD 0 0=1),0] else [0,0,0,5]
def kWritten (f:FuncId):K:={fn:=f,ext:=false,ins:=[iPt],outs:=[.agg (List.replicate 17 (.int .u8))],pre:=fun _=>True,sem:=fun | [x,y,z]=>bytesL x y z | _=>[] }
def kCBytes (te:TypeId) (f:FuncId):K:={fn:=f,ext:=false,ins:=[iPt],outs:=[.lst te (.int .u8)],pre:=fun _=>True,sem:=fun | [x,y,z]=>[enc (bytesL x y z)] | _=>[] }
noncomputable def kLRead (f:FuncId):K:={fn:=f,ext:=false,ins:=[iI,.lst (.int .u8)],outs:=[.agg [.int .u64,.int .u64,.bool],oI],pre:=fun | [s,_]=>isL s | _=>False,sem:=fun | [s,l]=>readLV (pL s) (rOf s) (dec l) | _=>[] }
noncomputable def kCRead (f:FuncId):K:={fn:=f,ext:=false,ins:=[iC,.lst (.int .u8)],outs:=[.agg [.int .u64,.int .u64,.bool],oI],pre:=fun | [p,_,_,_,_,_,_]=>prP p | _=>False,sem:=fun | [p,r,_,_,_,_,l]=>readLV p r (dec l) | _=>[] }
noncomputable def kLNeg2 (f:FuncId):K:={fn:=f,ext:=false,ins:=[iI,iPt],outs:=[.agg [.int .u64,.int .u64,.bool],oI],pre:=fun | [s,x,y,z]=>isL s ∧ onP (pL s) x y z | _=>False,sem:=fun | [s,x,y,z]=>[x,(-y) % pL s,z,0] | _=>[] }
theorem pL_pr {s:Int} (h:isL s):prP (pL s):=by rcases h with rfl | rfl; exact .inl rfl; exact .inr rfl
theorem bi_eq {T:List K} {e:Nat → Int} {v:Int} {a b:A} (h:v=(D.cmp .eql a b).ev T e):v=bi (a.ev e=b.ev e):=by
 have h:v=b2i (a.ev e == b.ev e):=h
 rw [h]; unfold bi b2i
 by_cases hc:a.ev e=b.ev e
 ·rw [if_pos hc]; simp [hc]
 ·rw [if_neg hc]; simp [hc]
def wrT (z:Int):Tree:=(.lett 435 (.int .u64) (.bin .shr .u64 (.var 0) (.lit 56)) (.lett 483 (.int .u8) (.conv .u8 (.var 435)) (.lett 771 (.int .u64) (.bin .shr .u64 (.var 1) (.lit 56)) (.lett 819 (.int .u8) (.conv .u8 (.var 771)) (.lett 1491 (.int .u64) (.bin .shr .u64 (.var 0) (.lit 48)) (.lett 1539 (.int .u8) (.conv .u8 (.var 1491)) (.lett 1827 (.int .u64) (.bin .shr .u64 (.var 1) (.lit 48)) (.lett 1875 (.int .u8) (.conv .u8 (.var 1827)) (.lett 2547 (.int .u64) (.bin .shr .u64 (.var 0) (.lit 40)) (.lett 2595 (.int .u8) (.conv .u8 (.var 2547)) (.lett 2883 (.int .u64) (.bin .shr .u64 (.var 1) (.lit 40)) (.lett 2931 (.int .u8) (.conv .u8 (.var 2883)) (.lett 3603 (.int .u64) (.bin .shr .u64 (.var 0) (.lit 32)) (.lett 3651 (.int .u8) (.conv .u8 (.var 3603)) (.lett 3939 (.int .u64) (.bin .shr .u64 (.var 1) (.lit 32)) (.lett 3987 (.int .u8) (.conv .u8 (.var 3939)) (.lett 4659 (.int .u64) (.bin .shr .u64 (.var 0) (.lit 24)) (.lett 4707 (.int .u8) (.conv .u8 (.var 4659)) (.lett 4995 (.int .u64) (.bin .shr .u64 (.var 1) (.lit 24)) (.lett 5043 (.int .u8) (.conv .u8 (.var 4995)) (.lett 5715 (.int .u64) (.bin .shr .u64 (.var 0) (.lit 16)) (.lett 5763 (.int .u8) (.conv .u8 (.var 5715)) (.lett 6051 (.int .u64) (.bin .shr .u64 (.var 1) (.lit 16)) (.lett 6099 (.int .u8) (.conv .u8 (.var 6051)) (.lett 6771 (.int .u64) (.bin .shr .u64 (.var 0) (.lit 8)) (.lett 6819 (.int .u8) (.conv .u8 (.var 6771)) (.lett 7107 (.int .u64) (.bin .shr .u64 (.var 1) (.lit 8)) (.lett 7155 (.int .u8) (.conv .u8 (.var 7107)) (.lett 7827 (.int .u64) (.bin .shr .u64 (.var 0) (.lit 0)) (.lett 7875 (.int .u8) (.conv .u8 (.var 7827)) (.lett 8163 (.int .u64) (.bin .shr .u64 (.var 1) (.lit 0)) (.lett 8211 (.int .u8) (.conv .u8 (.var 8163)) (.ret [.lit z,.var 483,.var 1539,.var 2595,.var 3651,.var 4707,.var 5763,.var 6819,.var 7875,.var 819,.var 1875,.var 2931,.var 3987,.var 5043,.var 6099,.var 7155,.var 8211])))))))))))))))))))))))))))))))))
theorem wrT_says (z:Int) (e:Nat → Int):(wrT z).says [] ⟨fun ys=>ys=z :: (by8 (e 0) ++ by8 (e 1)),[]⟩ e:=by
 intro a435 _ a483 _ a771 _ a819 _ a1491 _ a1539 _ a1827 _ a1875 _ a2547 _ a2595 _ a2883 _ a2931 _ a3603 _ a3651 _ a3939 _ a3987 _ a4659 _ a4707 _ a4995 _ a5043 _ a5715 _ a5763 _ a6051 _ a6099 _ a6771 _ a6819 _ a7107 _ a7155 _ a7827 _ a7875 _ a8163 _ a8211 _
 show [z,e 483,e 1539,e 2595,e 3651,e 4707,e 5763,e 6819,e 7875,e 819,e 1875,e 2931,e 3987,e 5043,e 6099,e 7155,e 8211]=_
 rw [show e 483=wr .u8 (binE .shr .u64 (e 0) 56) by rw [show e 483=wr .u8 (e 435) from a483]; exact congrArg (wr .u8) a435,show e 819=wr .u8 (binE .shr .u64 (e 1) 56) by rw [show e 819=wr .u8 (e 771) from a819]; exact congrArg (wr .u8) a771,show e 1539=wr .u8 (binE .shr .u64 (e 0) 48) by rw [show e 1539=wr .u8 (e 1491) from a1539]; exact congrArg (wr .u8) a1491,show e 1875=wr .u8 (binE .shr .u64 (e 1) 48) by rw [show e 1875=wr .u8 (e 1827) from a1875]; exact congrArg (wr .u8) a1827,show e 2595=wr .u8 (binE .shr .u64 (e 0) 40) by rw [show e 2595=wr .u8 (e 2547) from a2595]; exact congrArg (wr .u8) a2547,show e 2931=wr .u8 (binE .shr .u64 (e 1) 40) by rw [show e 2931=wr .u8 (e 2883) from a2931]; exact congrArg (wr .u8) a2883,show e 3651=wr .u8 (binE .shr .u64 (e 0) 32) by rw [show e 3651=wr .u8 (e 3603) from a3651]; exact congrArg (wr .u8) a3603,show e 3987=wr .u8 (binE .shr .u64 (e 1) 32) by rw [show e 3987=wr .u8 (e 3939) from a3987]; exact congrArg (wr .u8) a3939,show e 4707=wr .u8 (binE .shr .u64 (e 0) 24) by rw [show e 4707=wr .u8 (e 4659) from a4707]; exact congrArg (wr .u8) a4659,show e 5043=wr .u8 (binE .shr .u64 (e 1) 24) by rw [show e 5043=wr .u8 (e 4995) from a5043]; exact congrArg (wr .u8) a4995,show e 5763=wr .u8 (binE .shr .u64 (e 0) 16) by rw [show e 5763=wr .u8 (e 5715) from a5763]; exact congrArg (wr .u8) a5715,show e 6099=wr .u8 (binE .shr .u64 (e 1) 16) by rw [show e 6099=wr .u8 (e 6051) from a6099]; exact congrArg (wr .u8) a6051,show e 6819=wr .u8 (binE .shr .u64 (e 0) 8) by rw [show e 6819=wr .u8 (e 6771) from a6819]; exact congrArg (wr .u8) a6771,show e 7155=wr .u8 (binE .shr .u64 (e 1) 8) by rw [show e 7155=wr .u8 (e 7107) from a7155]; exact congrArg (wr .u8) a7107,show e 7875=wr .u8 (binE .shr .u64 (e 0) 0) by rw [show e 7875=wr .u8 (e 7827) from a7875]; exact congrArg (wr .u8) a7827,show e 8211=wr .u8 (binE .shr .u64 (e 1) 0) by rw [show e 8211=wr .u8 (e 8163) from a8211]; exact congrArg (wr .u8) a8163]
 rfl
def tWritten:Tree:=.split 2 (wrT 1) (wrT 0)
theorem law_written (f:FuncId) (e:Nat → Int):tWritten.says [] ⟨fun ys=>ys=(kWritten f).sem [e 0,e 1,e 2],[]⟩ e:=by
 show tWritten.says [] ⟨fun ys=>ys=bytesL (e 0) (e 1) (e 2),[]⟩ e
 unfold bytesL
 refine ⟨fun h=>?_,fun h=>?_⟩
 ·rw [if_neg h]; exact wrT_says 1 e
 ·rw [if_pos h]; exact wrT_says 0 e
def apT:List (Nat × Int) → Nat → Nat → Tree
 | [],p,_=>.ret [.var p]
 | x :: r,p,n=>.lett n (.int .u64) (.bin .shr .u64 (.var x.1) (.lit x.2)) (.lett (n + 1) (.int .u8) (.conv .u8 (.var n)) (.lett (n + 2) (.int .i64) (.llen (.var p)) (.lett (n + 3) .bit (.cmp .lss (.var (n + 2)) (.lit 4294967296)) (.nz (.var (n + 3)) (.lett (n + 4) (.lst (.int .u8)) (.lapp (.var p) [.var (n + 1)]) (apT r (n + 4) (n + 5)))))))
theorem apT_says {e:Nat → Int}:∀ (r:List (Nat × Int)) (p n:Nat) (l:List Int),e p=enc l → l.length + r.length ≤ 1000 → (apT r p n).says [] ⟨fun ys=>ys=[enc (l ++ r.map fun x=>wr .u8 (binE .shr .u64 (e x.1) x.2))],[]⟩ e
 | [],p,n,l,h,_=>by show [e p]=_; rw [h]; simp
 | x :: r,p,n,l,h,hl=>by
  intro a0 _ a1 _ a2 _ a3 _
  have d:dec (e p)=l:=by rw [h,dec_enc]
  have v2:e (n + 2)=(l.length:Int):=by rw [← d]; exact a2
  simp only [List.length_cons] at hl
  refine ⟨lt_nz a3 (by show e (n + 2) < 4294967296; omega),fun a4 _=>?_⟩
  have v1:e (n + 1)=wr .u8 (binE .shr .u64 (e x.1) x.2):=by rw [show e (n + 1)=wr .u8 (e n) from a1]; exact congrArg (wr .u8) a0
  have h4:e (n + 4)=enc (l ++ [wr .u8 (binE .shr .u64 (e x.1) x.2)]):=by rw [← v1,← d]; exact a4
  have:=apT_says r (n + 4) (n + 5) _ h4 (by simp only [List.length_append,List.length_cons,List.length_nil]; omega)
  rw [List.append_assoc] at this
  exact this
def cbT (z:Int):Tree:=.lett 3 (.int .u64) (.bin .shr .u64 (.var 0) (.lit 56)) (.lett 4 (.int .u8) (.conv .u8 (.var 3)) (.lett 5 (.lst (.int .u8)) (.lapp (.lit 0) [.lit z]) (.lett 6 (.int .i64) (.llen (.var 5)) (.lett 7 .bit (.cmp .lss (.var 6) (.lit 4294967296)) (.nz (.var 7) (.lett 8 (.lst (.int .u8)) (.lapp (.var 5) [.var 4])
 (apT [(0,48),(0,40),(0,32),(0,24),(0,16),(0,8),(0,0),(1,56),(1,48),(1,40),(1,32),(1,24),(1,16),(1,8),(1,0)] 8 9)))))))
theorem cbT_says (z:Int) (e:Nat → Int):(cbT z).says [] ⟨fun ys=>ys=[enc (z :: (by8 (e 0) ++ by8 (e 1)))],[]⟩ e:=by
 intro a3 _ a4 _ a5 _ a6 _ a7 _
 have d5:dec (e 5)=[z]:=by rw [show e 5=enc (dec 0 ++ [z]) from a5,dec_enc,dec_zero]; rfl
 have v6:e 6=1:=by rw [show e 6=((dec (e 5)).length:Int) from a6,d5]; rfl
 refine ⟨lt_nz a7 (by show e 6 < 4294967296; omega),fun a8 _=>?_⟩
 have v4:e 4=wr .u8 (binE .shr .u64 (e 0) 56):=by rw [show e 4=wr .u8 (e 3) from a4]; exact congrArg (wr .u8) a3
 have h8:e 8=enc [z,wr .u8 (binE .shr .u64 (e 0) 56)]:=by rw [← v4,show e 8=enc (dec (e 5) ++ [e 4]) from a8,d5]; rfl
 exact apT_says _ 8 9 _ h8 (by simp)
def tCBytes:Tree:=.split 2 (cbT 1) (cbT 0)
theorem law_cBytes (te:TypeId) (f:FuncId) (e:Nat → Int):tCBytes.says [] ⟨fun ys=>ys=(kCBytes te f).sem [e 0,e 1,e 2],[]⟩ e:=by
 show tCBytes.says [] ⟨fun ys=>ys=[enc (bytesL (e 0) (e 1) (e 2))],[]⟩ e
 unfold bytesL
 refine ⟨fun h=>?_,fun h=>?_⟩
 ·rw [if_neg h]; exact cbT_says 1 e
 ·rw [if_pos h]; exact cbT_says 0 e
def tLRead:Tree:=(.req 0 [.var 0]
(.lett 2 (.int .u64) (.app 0 0 [.var 0])
(.lett 3 (.int .u64) (.app 0 1 [.var 0])
(.lett 4 (.int .u64) (.app 0 2 [.var 0])
(.lett 5 (.int .u64) (.app 0 3 [.var 0])
(.lett 6 (.int .u64) (.app 0 4 [.var 0])
(.lett 7 .bit (.app 0 5 [.var 0])
(.lett 8 .bit (.app 0 6 [.var 0])
(.lett 9 .bit (.not (.var 8))
(.split 9
(.ret [.lit 0,.lit 0,.lit 0,.lit 2])
(.lett 10 (.int .i64) (.llen (.var 1))
(.lett 11 .bit (.cmp .neq (.var 10) (.lit 17))
(.split 11
 (.ret [.lit 0,.lit 0,.lit 0,.lit 4])
 (.lett 12 (.int .i64) (.llen (.var 1))
 (.lett 13 .bit (.cmp .leq (.lit 0) (.lit 0))
 (.lett 14 .bit (.cmp .lss (.lit 0) (.var 12))
 (.nz (.var 13)
 (.nz (.var 14)
 (.lett 15 (.int .u8) (.lget (.var 1) (.lit 0))
 (.lett 16 .bit (.cmp .eql (.var 15) (.lit 1))
 (.loop [.lit 0,.lit 0,.lit 0,.var 16] [(.int .i64),(.int .u64),(.int .u64),.bit] 17
 (.lett 21 .bit (.cmp .lss (.var 17) (.lit 8))
 (.split 21
 (.lett 118 (.int .u64) (.bin .shl .u64 (.var 18) (.lit 8))
 (.lett 262 (.int .i64) (.bin .add .i64 (.lit 1) (.var 17))
 (.lett 310 (.int .i64) (.llen (.var 1))
 (.lett 311 .bit (.cmp .leq (.lit 0) (.var 262))
 (.lett 312 .bit (.cmp .lss (.var 262) (.var 310))
 (.nz (.var 311)
 (.nz (.var 312)
 (.lett 358 (.int .u8) (.lget (.var 1) (.var 262))
 (.lett 454 (.int .u64) (.bin .or .u64 (.var 118) (.var 358))
 (.lett 598 (.int .u64) (.bin .shl .u64 (.var 19) (.lit 8))
 (.lett 742 (.int .i64) (.bin .add .i64 (.lit 9) (.var 17))
 (.lett 790 (.int .i64) (.llen (.var 1))
 (.lett 791 .bit (.cmp .leq (.lit 0) (.var 742))
 (.lett 792 .bit (.cmp .lss (.var 742) (.var 790))
 (.nz (.var 791)
 (.nz (.var 792)
 (.lett 838 (.int .u8) (.lget (.var 1) (.var 742))
 (.lett 934 (.int .u64) (.bin .or .u64 (.var 598) (.var 838))
 (.lett 1174 (.int .i64) (.bin .add .i64 (.var 17) (.lit 1))
 (.back 0 [.var 1174,.var 454,.var 934,.var 20]))))))))))))))))))))
 (.lett 22 (.int .i64) (.llen (.var 1))
 (.lett 23 .bit (.cmp .leq (.lit 0) (.lit 0))
 (.lett 24 .bit (.cmp .lss (.lit 0) (.var 22))
 (.nz (.var 23)
 (.nz (.var 24)
 (.lett 25 (.int .u8) (.lget (.var 1) (.lit 0))
 (.lett 26 .bit (.cmp .gtr (.var 25) (.lit 1))
 (.split 26
 (.ret [.lit 0,.lit 0,.lit 0,.lit 4])
 (.req 1 [.var 2,.var 3,.var 4,.var 5,.var 6,.var 7,.var 18,.var 19,.var 20]
 (.lett 27 .bit (.app 1 0 [.var 2,.var 3,.var 4,.var 5,.var 6,.var 7,.var 18,.var 19,.var 20])
 (.lett 28 .bit (.not (.var 27))
 (.split 28
 (.ret [.lit 0,.lit 0,.lit 0,.lit 4])
 (.req 2 [.var 2,.var 3,.var 4,.var 5,.var 6,.var 7,.var 18,.var 19,.var 20]
 (.lett 29 .bit (.app 2 0 [.var 2,.var 3,.var 4,.var 5,.var 6,.var 7,.var 18,.var 19,.var 20])
 (.lett 30 .bit (.not (.var 29))
 (.split 30
 (.ret [.lit 0,.lit 0,.lit 0,.lit 5])
 (.ret [.var 18,.var 19,.var 20,.lit 0]))))))))))))))))))))))))))))))))))))))))
theorem law_lRead (f1 f2 f3 f:FuncId) (e:Nat → Int) (hp:(kLRead f).pre [e 0,e 1]):tLRead.says [kLOf f1,kLOn f2,kLIn f3] ⟨fun ys=>ys=(kLRead f).sem [e 0,e 1],[]⟩ e:=by
 have hl:isL (e 0):=hp
 have hpr:=pL_pr hl
 obtain ⟨b,d1⟩:∃ b,dec (e 1)=b:=⟨_,rfl⟩
 show tLRead.says _ ⟨fun ys=>ys=readLV (pL (e 0)) (rOf (e 0)) (dec (e 1)),[]⟩ e
 rw [d1]
 have len:∀ {v:Int},v=((dec (e 1)).length:Int) → v=(b.length:Int):=fun h=>by rw [h,d1]
 refine ⟨trivial,fun a2 _ a3 _ a4 _ a5 _ a6 _ a7 _ a8 _ a9 _=>?_⟩
 have v2:e 2=pL (e 0):=by rw [show e 2=(cvL (e 0)).getD 0 0 from a2,cvL_t hl]; rfl
 have v3:e 3=rOf (e 0):=by rw [show e 3=(cvL (e 0)).getD 1 0 from a3,cvL_t hl]; rfl
 have v8:e 8=1:=by rw [show e 8=(cvL (e 0)).getD 6 0 from a8,cvL_t hl]; rfl
 have b9:=c_not a9
 simp only [ev_var] at b9
 refine ⟨fun h=>by omega,fun _=>?_⟩
 clear a2 a3 a4 a5 a6 a7 a8 a9 b9 v8
 generalize pL (e 0)=p at *
 generalize rOf (e 0)=r at *
 intro a10 _ a11 _
 have v10:=len a10
 have b11:=c_ne a11
 simp only [ev_var,ev_lit] at b11
 refine ⟨fun h=>?_,fun h=>?_⟩
 ·unfold readLV; rw [if_pos (show b.length ≠ 17 by omega)]; rfl
 have hn:b.length=17:=by omega
 have pos:∀ {v:Int},v=((dec (e 1)).length:Int) → v=17:=fun h=>by rw [len h,hn]; rfl
 clear b11 h v10 a10 a11
 intro a12 _ a13 _ a14 _
 refine ⟨bit_nz a13 (Int.le_refl _),lt_nz a14 (by show (0:Int) < e 12; rw [pos a12]; decide),fun a15 _ a16 _=>?_⟩
 have v15:e 15=b.getD 0 0:=by rw [← d1]; exact a15
 have v16:e 16=bi (b.getD 0 0=1):=by rw [← v15]; exact bi_eq a16
 clear a12 a13 a14 a15 a16 v15
 obtain ⟨z0,hz0⟩:∃ z,z=bi (b.getD 0 0=1):=⟨_,rfl⟩
 rw [← hz0] at v16
 refine ⟨fun | [i,x,y,z]=>(0 ≤ i ∧ i ≤ 8) ∧ x=rdF b 1 i.toNat ∧ y=rdF b 9 i.toNat ∧ z=z0 | _=>False,fun | [i,_,_,_]=>(8 - i).toNat | _=>0,⟨⟨Int.le_refl _,(show (0:Int) ≤ 8 by decide)⟩,rfl,rfl,v16⟩,fun e' he hkk hI=>?_⟩
 obtain ⟨⟨i0,i1⟩,qx,qy,qz⟩:(0 ≤ e' 17 ∧ e' 17 ≤ 8) ∧ e' 18=rdF b 1 (e' 17).toNat ∧ e' 19=rdF b 9 (e' 17).toNat ∧ e' 20=z0:=hI
 have d1:=(congrArg dec (he 1 (by decide))).trans d1
 have pos:∀ {v:Int},v=((dec (e' 1)).length:Int) → v=17:=fun h=>by rw [h,d1,hn]; rfl
 have qp:=(he 2 (by decide)).trans v2
 have qr:=(he 3 (by decide)).trans v3
 clear he hkk v16 len
 intro a21 _
 have b21:=c_lt a21
 simp only [ev_var,ev_lit] at b21
 refine ⟨fun h=>?_,fun h=>?_⟩
 ·have c21:e' 17 < 8:=b_yes b21 h
  intro a118 _ a262 _ a310 _ a311 _ a312 _
  have v262:=add_ (a:=1) (b:=e' 17) a262 (by omega)
  refine ⟨bit_nz a311 (by show 0 ≤ e' 262; omega),lt_nz a312 (by show e' 262 < e' 310; rw [pos a310]; omega),fun a358 _ a454 _ a598 _ a742 _ a790 _ a791 _ a792 _=>?_⟩
  have v742:=add_ (a:=9) (b:=e' 17) a742 (by omega)
  refine ⟨bit_nz a791 (by show 0 ≤ e' 742; omega),lt_nz a792 (by show e' 742 < e' 790; rw [pos a790]; omega),fun a838 _ a934 _ a1174 _=>?_⟩
  have v1174:=add_ (a:=e' 17) (b:=1) a1174 (by omega)
  show ((0 ≤ e' 1174 ∧ e' 1174 ≤ 8) ∧ e' 454=rdF b 1 (e' 1174).toNat ∧ e' 934=rdF b 9 (e' 1174).toNat ∧ e' 20=z0) ∧ (8 - e' 1174).toNat < (8 - e' 17).toNat
  refine ⟨⟨by omega,?_,?_,qz⟩,by omega⟩
  ·rw [show (e' 1174).toNat=(e' 17).toNat + 1 by omega,show e' 454=binE .or .u64 (e' 118) (e' 358) from a454,show e' 118=binE .shl .u64 (e' 18) 8 from a118,show e' 358=(dec (e' 1)).getD (e' 262).toNat 0 from a358,d1,qx,show (e' 262).toNat=1 + (e' 17).toNat by omega]; rfl
  ·rw [show (e' 1174).toNat=(e' 17).toNat + 1 by omega,show e' 934=binE .or .u64 (e' 598) (e' 838) from a934,show e' 598=binE .shl .u64 (e' 19) 8 from a598,show e' 838=(dec (e' 1)).getD (e' 742).toNat 0 from a838,d1,qy,show (e' 742).toNat=9 + (e' 17).toNat by omega]; rfl
 ·have c21:e' 17=8:=by have:=b_no b21 h; omega
  rw [c21] at qx qy
  intro a22 _ a23 _ a24 _
  refine ⟨bit_nz a23 (Int.le_refl _),lt_nz a24 (by show (0:Int) < e' 22; rw [pos a22]; decide),fun a25 _ a26 _=>?_⟩
  have v25:e' 25=b.getD 0 0:=by rw [← d1]; exact a25
  have b26:=c_gt a26
  simp only [ev_var,ev_lit] at b26
  rw [v25] at b26
  unfold readLV
  rw [if_neg (show ¬ b.length ≠ 17 from fun hc=>hc hn),← hz0]
  refine ⟨fun h=>?_,fun h=>?_⟩
  ·rw [if_pos (.inl (b_yes b26 h))]; rfl
  have h1:=b_no b26 h
  refine ⟨by show pOk (e' 2); rw [qp]; exact pr_ok hpr,fun a27 _ a28 _=>?_⟩
  have v27:e' 27=bi (onP p (rdF b 1 8) (rdF b 9 8) z0):=by rw [← qp,show rdF b 1 8=e' 18 from qx.symm,show rdF b 9 8=e' 19 from qy.symm,← qz]; exact a27
  rw [bi_bj] at v27
  have b28:=c_not a28
  simp only [ev_var] at b28
  refine ⟨fun h=>?_,fun h=>?_⟩
  ·rw [if_pos (.inr (bj_z v27 (b_yes b28 h)))]; rfl
  have hon:=bj_nz v27 (b_no b28 h)
  rw [if_neg (fun hc=>hc.elim h1 (fun k=>k hon))]
  refine ⟨by show pOk (e' 2); rw [qp]; exact pr_ok hpr,fun a29 _ a30 _=>?_⟩
  have v29:e' 29=bi (inP p r (rdF b 1 8) (rdF b 9 8) z0):=by rw [← qp,← qr,show rdF b 1 8=e' 18 from qx.symm,show rdF b 9 8=e' 19 from qy.symm,← qz]; exact a29
  rw [bi_bj] at v29
  have b30:=c_not a30
  simp only [ev_var] at b30
  refine ⟨fun h=>?_,fun h=>?_⟩
  ·rw [if_neg (bj_z v29 (b_yes b30 h))]; rfl
  ·rw [if_pos (bj_nz v29 (b_no b30 h)),show rdF b 1 8=e' 18 from qx.symm,show rdF b 9 8=e' 19 from qy.symm,← qz]; rfl
def tCRead:Tree:=(.lett 7 (.int .i64) (.llen (.var 6))
(.lett 8 .bit (.cmp .neq (.var 7) (.lit 17))
(.split 8
(.ret [.lit 0,.lit 0,.lit 0,.lit 4])
(.lett 9 (.int .i64) (.llen (.var 6))
(.lett 10 .bit (.cmp .leq (.lit 0) (.lit 0))
(.lett 11 .bit (.cmp .lss (.lit 0) (.var 9))
(.nz (.var 10)
(.nz (.var 11)
(.lett 12 (.int .u8) (.lget (.var 6) (.lit 0))
(.lett 13 .bit (.cmp .eql (.var 12) (.lit 1))
(.loop [.lit 0,.lit 0,.lit 0,.var 13] [(.int .i64),(.int .u64),(.int .u64),.bit] 14
(.lett 18 .bit (.cmp .lss (.var 14) (.lit 8))
(.split 18
 (.lett 115 (.int .u64) (.bin .shl .u64 (.var 15) (.lit 8))
 (.lett 259 (.int .i64) (.bin .add .i64 (.lit 1) (.var 14))
 (.lett 307 (.int .i64) (.llen (.var 6))
 (.lett 308 .bit (.cmp .leq (.lit 0) (.var 259))
 (.lett 309 .bit (.cmp .lss (.var 259) (.var 307))
 (.nz (.var 308)
 (.nz (.var 309)
 (.lett 355 (.int .u8) (.lget (.var 6) (.var 259))
 (.lett 451 (.int .u64) (.bin .or .u64 (.var 115) (.var 355))
 (.lett 691 (.int .u64) (.bin .shl .u64 (.var 16) (.lit 8))
 (.lett 835 (.int .i64) (.bin .add .i64 (.lit 9) (.var 14))
 (.lett 883 (.int .i64) (.llen (.var 6))
 (.lett 884 .bit (.cmp .leq (.lit 0) (.var 835))
 (.lett 885 .bit (.cmp .lss (.var 835) (.var 883))
 (.nz (.var 884)
 (.nz (.var 885)
 (.lett 931 (.int .u8) (.lget (.var 6) (.var 835))
 (.lett 1027 (.int .u64) (.bin .or .u64 (.var 691) (.var 931))
 (.lett 1171 (.int .i64) (.bin .add .i64 (.var 14) (.lit 1))
 (.back 0 [.var 1171,.var 451,.var 1027,.var 17]))))))))))))))))))))
 (.lett 19 (.int .i64) (.llen (.var 6))
 (.lett 20 .bit (.cmp .leq (.lit 0) (.lit 0))
 (.lett 21 .bit (.cmp .lss (.lit 0) (.var 19))
 (.nz (.var 20)
 (.nz (.var 21)
 (.lett 22 (.int .u8) (.lget (.var 6) (.lit 0))
 (.lett 23 .bit (.cmp .gtr (.var 22) (.lit 1))
 (.split 23
 (.ret [.lit 0,.lit 0,.lit 0,.lit 4])
 (.req 0 [.var 0,.var 1,.var 2,.var 3,.var 4,.var 5,.var 15,.var 16,.var 17]
 (.lett 24 .bit (.app 0 0 [.var 0,.var 1,.var 2,.var 3,.var 4,.var 5,.var 15,.var 16,.var 17])
 (.lett 25 .bit (.not (.var 24))
 (.split 25
 (.ret [.lit 0,.lit 0,.lit 0,.lit 4])
 (.req 1 [.var 0,.var 1,.var 2,.var 3,.var 4,.var 5,.var 15,.var 16,.var 17]
 (.lett 26 .bit (.app 1 0 [.var 0,.var 1,.var 2,.var 3,.var 4,.var 5,.var 15,.var 16,.var 17])
 (.lett 27 .bit (.not (.var 26))
 (.split 27
 (.ret [.lit 0,.lit 0,.lit 0,.lit 5])
 (.ret [.var 15,.var 16,.var 17,.lit 0]))))))))))))))))))))))))))))))
theorem law_cRead (f1 f2 f:FuncId) (e:Nat → Int) (hp:(kCRead f).pre [e 0,e 1,e 2,e 3,e 4,e 5,e 6]):tCRead.says [kLOn f1,kCIn f2] ⟨fun ys=>ys=(kCRead f).sem [e 0,e 1,e 2,e 3,e 4,e 5,e 6],[]⟩ e:=by
 have hpr:prP (e 0):=hp
 obtain ⟨b,d6⟩:∃ b,dec (e 6)=b:=⟨_,rfl⟩
 obtain ⟨p,v0⟩:∃ p,e 0=p:=⟨_,rfl⟩
 obtain ⟨r,v1⟩:∃ r,e 1=r:=⟨_,rfl⟩
 show tCRead.says _ ⟨fun ys=>ys=readLV (e 0) (e 1) (dec (e 6)),[]⟩ e
 rw [d6,v0,v1]
 rw [v0] at hpr
 have len:∀ {v:Int},v=((dec (e 6)).length:Int) → v=(b.length:Int):=fun h=>by rw [h,d6]
 intro a7 _ a8 _
 have v7:=len a7
 have b8:=c_ne a8
 simp only [ev_var,ev_lit] at b8
 refine ⟨fun h=>?_,fun h=>?_⟩
 ·unfold readLV; rw [if_pos (show b.length ≠ 17 by omega)]; rfl
 have hn:b.length=17:=by omega
 have pos:∀ {v:Int},v=((dec (e 6)).length:Int) → v=17:=fun h=>by rw [len h,hn]; rfl
 clear b8 h v7 a7 a8
 intro a9 _ a10 _ a11 _
 refine ⟨bit_nz a10 (Int.le_refl _),lt_nz a11 (by show (0:Int) < e 9; rw [pos a9]; decide),fun a12 _ a13 _=>?_⟩
 have v12:e 12=b.getD 0 0:=by rw [← d6]; exact a12
 have v13:e 13=bi (b.getD 0 0=1):=by rw [← v12]; exact bi_eq a13
 clear a9 a10 a11 a12 a13 v12
 obtain ⟨z0,hz0⟩:∃ z,z=bi (b.getD 0 0=1):=⟨_,rfl⟩
 rw [← hz0] at v13
 refine ⟨fun | [i,x,y,z]=>(0 ≤ i ∧ i ≤ 8) ∧ x=rdF b 1 i.toNat ∧ y=rdF b 9 i.toNat ∧ z=z0 | _=>False,fun | [i,_,_,_]=>(8 - i).toNat | _=>0,⟨⟨Int.le_refl _,(show (0:Int) ≤ 8 by decide)⟩,rfl,rfl,v13⟩,fun e' he hkk hI=>?_⟩
 obtain ⟨⟨i0,i1⟩,qx,qy,qz⟩:(0 ≤ e' 14 ∧ e' 14 ≤ 8) ∧ e' 15=rdF b 1 (e' 14).toNat ∧ e' 16=rdF b 9 (e' 14).toNat ∧ e' 17=z0:=hI
 have d6:=(congrArg dec (he 6 (by decide))).trans d6
 have pos:∀ {v:Int},v=((dec (e' 6)).length:Int) → v=17:=fun h=>by rw [h,d6,hn]; rfl
 have qp:=(he 0 (by decide)).trans v0
 have qr:=(he 1 (by decide)).trans v1
 clear he hkk v13 len
 intro a18 _
 have b18:=c_lt a18
 simp only [ev_var,ev_lit] at b18
 refine ⟨fun h=>?_,fun h=>?_⟩
 ·have c18:e' 14 < 8:=b_yes b18 h
  intro a115 _ a259 _ a307 _ a308 _ a309 _
  have v259:=add_ (a:=1) (b:=e' 14) a259 (by omega)
  refine ⟨bit_nz a308 (by show 0 ≤ e' 259; omega),lt_nz a309 (by show e' 259 < e' 307; rw [pos a307]; omega),fun a355 _ a451 _ a691 _ a835 _ a883 _ a884 _ a885 _=>?_⟩
  have v835:=add_ (a:=9) (b:=e' 14) a835 (by omega)
  refine ⟨bit_nz a884 (by show 0 ≤ e' 835; omega),lt_nz a885 (by show e' 835 < e' 883; rw [pos a883]; omega),fun a931 _ a1027 _ a1171 _=>?_⟩
  have v1171:=add_ (a:=e' 14) (b:=1) a1171 (by omega)
  show ((0 ≤ e' 1171 ∧ e' 1171 ≤ 8) ∧ e' 451=rdF b 1 (e' 1171).toNat ∧ e' 1027=rdF b 9 (e' 1171).toNat ∧ e' 17=z0) ∧ (8 - e' 1171).toNat < (8 - e' 14).toNat
  refine ⟨⟨by omega,?_,?_,qz⟩,by omega⟩
  ·rw [show (e' 1171).toNat=(e' 14).toNat + 1 by omega,show e' 451=binE .or .u64 (e' 115) (e' 355) from a451,show e' 115=binE .shl .u64 (e' 15) 8 from a115,show e' 355=(dec (e' 6)).getD (e' 259).toNat 0 from a355,d6,qx,show (e' 259).toNat=1 + (e' 14).toNat by omega]; rfl
  ·rw [show (e' 1171).toNat=(e' 14).toNat + 1 by omega,show e' 1027=binE .or .u64 (e' 691) (e' 931) from a1027,show e' 691=binE .shl .u64 (e' 16) 8 from a691,show e' 931=(dec (e' 6)).getD (e' 835).toNat 0 from a931,d6,qy,show (e' 835).toNat=9 + (e' 14).toNat by omega]; rfl
 ·have c18:e' 14=8:=by have:=b_no b18 h; omega
  rw [c18] at qx qy
  intro a19 _ a20 _ a21 _
  refine ⟨bit_nz a20 (Int.le_refl _),lt_nz a21 (by show (0:Int) < e' 19; rw [pos a19]; decide),fun a22 _ a23 _=>?_⟩
  have v22:e' 22=b.getD 0 0:=by rw [← d6]; exact a22
  have b23:=c_gt a23
  simp only [ev_var,ev_lit] at b23
  rw [v22] at b23
  unfold readLV
  rw [if_neg (show ¬ b.length ≠ 17 from fun hc=>hc hn),← hz0]
  refine ⟨fun h=>?_,fun h=>?_⟩
  ·rw [if_pos (.inl (b_yes b23 h))]; rfl
  have h1:=b_no b23 h
  refine ⟨by show pOk (e' 0); rw [qp]; exact pr_ok hpr,fun a24 _ a25 _=>?_⟩
  have v24:e' 24=bi (onP p (rdF b 1 8) (rdF b 9 8) z0):=by rw [← qp,show rdF b 1 8=e' 15 from qx.symm,show rdF b 9 8=e' 16 from qy.symm,← qz]; exact a24
  rw [bi_bj] at v24
  have b25:=c_not a25
  simp only [ev_var] at b25
  refine ⟨fun h=>?_,fun h=>?_⟩
  ·rw [if_pos (.inr (bj_z v24 (b_yes b25 h)))]; rfl
  have hon:=bj_nz v24 (b_no b25 h)
  rw [if_neg (fun hc=>hc.elim h1 (fun k=>k hon))]
  refine ⟨by show prP (e' 0); rw [qp]; exact hpr,fun a26 _ a27 _=>?_⟩
  have v26:e' 26=bi (inP p r (rdF b 1 8) (rdF b 9 8) z0):=by rw [← qp,← qr,show rdF b 1 8=e' 15 from qx.symm,show rdF b 9 8=e' 16 from qy.symm,← qz]; exact a26
  rw [bi_bj] at v26
  have b27:=c_not a27
  simp only [ev_var] at b27
  refine ⟨fun h=>?_,fun h=>?_⟩
  ·rw [if_neg (bj_z v26 (b_yes b27 h))]; rfl
  ·rw [if_pos (bj_nz v26 (b_no b27 h)),show rdF b 1 8=e' 15 from qx.symm,show rdF b 9 8=e' 16 from qy.symm,← qz]; rfl
def tLNeg2:Tree:=(.req 0 [.var 0]
(.lett 4 (.int .u64) (.app 0 0 [.var 0])
(.lett 5 (.int .u64) (.app 0 1 [.var 0])
(.lett 6 (.int .u64) (.app 0 2 [.var 0])
(.lett 7 (.int .u64) (.app 0 3 [.var 0])
(.lett 8 (.int .u64) (.app 0 4 [.var 0])
(.lett 9 .bit (.app 0 5 [.var 0])
(.lett 10 .bit (.app 0 6 [.var 0])
(.lett 11 .bit (.not (.var 10))
(.split 11
(.ret [.lit 0,.lit 0,.lit 0,.lit 2])
(.req 1 [.var 4,.var 5,.var 6,.var 7,.var 8,.var 9,.var 1,.var 2,.var 3]
(.lett 12 .bit (.app 1 0 [.var 4,.var 5,.var 6,.var 7,.var 8,.var 9,.var 1,.var 2,.var 3])
(.lett 13 .bit (.not (.var 12))
(.split 13
 (.ret [.lit 0,.lit 0,.lit 0,.lit 5])
 (.req 2 [.var 4,.var 5,.var 6,.var 7,.var 8,.var 9,.lit 0,.var 2]
 (.lett 14 (.int .u64) (.app 2 0 [.var 4,.var 5,.var 6,.var 7,.var 8,.var 9,.lit 0,.var 2])
 (.ret [.var 1,.var 14,.var 3,.lit 0])))))))))))))))))
theorem law_lNeg2 (f1 f2 f3 f:FuncId) (e:Nat → Int) (hk:kkHas [.int .i64,.int .u64,.int .u64,.bit] [e 0,e 1,e 2,e 3]) (hp:(kLNeg2 f).pre [e 0,e 1,e 2,e 3]):tLNeg2.says [kLOf f1,kLOn f2,kLSub f3] ⟨fun ys=>ys=(kLNeg2 f).sem [e 0,e 1,e 2,e 3],[]⟩ e:=by
 obtain ⟨hl,ho⟩:isL (e 0) ∧ onP (pL (e 0)) (e 1) (e 2) (e 3):=hp
 have hok:=pL_ok (e 0)
 show tLNeg2.says _ ⟨fun ys=>ys=[e 1,(-e 2) % pL (e 0),e 3,0],[]⟩ e
 refine ⟨trivial,fun a4 _ a5 _ a6 _ a7 _ a8 _ a9 _ a10 _ a11 _=>?_⟩
 have v4:e 4=pL (e 0):=by rw [show e 4=(cvL (e 0)).getD 0 0 from a4,cvL_t hl]; rfl
 have v10:e 10=1:=by rw [show e 10=(cvL (e 0)).getD 6 0 from a10,cvL_t hl]; rfl
 have b11:=c_not a11
 simp only [ev_var] at b11
 refine ⟨fun h=>by omega,fun _=>⟨(by show pOk (e 4); rw [v4]; exact hok),fun a12 _ a13 _=>?_⟩⟩
 have v12:e 12=bi (onP (e 4) (e 1) (e 2) (e 3)):=a12
 rw [v4,bi_bj,bj_t ho] at v12
 have b13:=c_not a13
 simp only [ev_var] at b13
 have hlt:=on_lt (show 0 < pL (e 0) by have:=hok.1; omega) ho
 refine ⟨fun h=>by omega,fun _=>⟨(by show pOk (e 4) ∧ (0:Int) < e 4 ∧ e 2 < e 4; rw [v4]; exact ⟨hok,by have:=hok.1; omega,hlt.2⟩),fun a14 _=>?_⟩⟩
 show [e 1,e 14,e 3,0]=_
 rw [show e 14=(0 - e 2) % e 4 from a14,v4,Int.zero_sub]
end Go.Sx

namespace Go.Sx
open Go Go.RowKit
set_option maxRecDepth 100000
set_option linter.unusedVariables false
set_option linter.unusedSimpArgs false
open Classical in
noncomputable def keyMul (s px py pz x y z n:Int):List Int :=
 if ¬ keyOk s px py pz x y z then [0,0,0,0,0,0,0,5]
 else if ¬ n < rOf s then [0,0,0,0,0,0,0,2]
 else if s=0 then [0] ++ lowV (tmJ R1 (rsV px py pz) 384 n.toNat) ++ [0,0,0,0]
 else [s,0,0,0] ++ (mulP (pL s) ⟨x,y,z⟩ 64 n.toNat).l ++ [0]
noncomputable def kKMul (f:FuncId):K:={fn:=f,ext:=false,ins:=[.agg lsKey,iN],outs:=[.agg lsKey,oI],pre:=fun _=>True,sem:=fun | [s,px,py,pz,x,y,z,n]=>keyMul s px py pz x y z n | _=>[] }
theorem keyOk_s {s px py pz x y z:Int} (h:keyOk s px py pz x y z):isS s:=by
 rcases h with h | h
 ·exact ⟨by omega,by omega⟩
 ·rcases h.1 with h | h <;> exact ⟨by omega,by omega⟩
theorem lim0 {n:Int} (h0:0 ≤ n) (h1:n < 18446744073709551616):lim n 0=n:=by rw [lim_0]; exact Int.emod_eq_of_lt h0 h1
theorem rOf_sm64 {s:Int} (h:isL s):rOf s < 18446744073709551616:=by
 rcases h with rfl | rfl <;> decide
theorem rOf_pos0 (s:Int):0 < rOf s:=by
 unfold rOf
 split
 ·decide
 ·split <;> decide
def tKMul:Tree:=(.req 0 [.var 0,.var 1,.var 2,.var 3,.var 4,.var 5,.var 6]
(.lett 8 .bit (.app 0 0 [.var 0,.var 1,.var 2,.var 3,.var 4,.var 5,.var 6])
(.lett 9 .bit (.not (.var 8))
(.split 9
(.ret [.lit 0,.lit 0,.lit 0,.lit 0,.lit 0,.lit 0,.lit 0,.lit 5])
(.lett 538 .bit (.cmp .neq (.var 0) (.var 0))
(.split 538
 (.ret [.lit 0,.lit 0,.lit 0,.lit 0,.lit 0,.lit 0,.lit 0,.lit 2])
 (.req 1 [.var 0]
 (.lett 874 .num (.app 1 0 [.var 0])
 (.req 2 [.var 7,.var 874]
 (.lett 922 (.int .i64) (.app 2 0 [.var 7,.var 874])
 (.lett 970 .bit (.cmp .geq (.var 922) (.lit 0))
 (.split 970
 (.ret [.lit 0,.lit 0,.lit 0,.lit 0,.lit 0,.lit 0,.lit 0,.lit 2])
 (.lett 1066 .bit (.cmp .eql (.var 0) (.lit 0))
 (.split 1066
 (.req 3 [.var 1,.var 2,.var 3,.var 7]
 (.lett 1067 .num (.app 3 0 [.var 1,.var 2,.var 3,.var 7])
 (.lett 1068 .num (.app 3 1 [.var 1,.var 2,.var 3,.var 7])
 (.lett 1069 .bit (.app 3 2 [.var 1,.var 2,.var 3,.var 7])
 (.lett 1070 (.int .i64) (.app 3 3 [.var 1,.var 2,.var 3,.var 7])
 (.ret [.var 0,.var 1067,.var 1068,.var 1069,.lit 0,.lit 0,.lit 0,.lit 0]))))))
 (.req 4 [.var 0,.var 4,.var 5,.var 6,.limb 7 0]
 (.lett 1067 (.int .u64) (.app 4 0 [.var 0,.var 4,.var 5,.var 6,.limb 7 0])
 (.lett 1068 (.int .u64) (.app 4 1 [.var 0,.var 4,.var 5,.var 6,.limb 7 0])
 (.lett 1069 .bit (.app 4 2 [.var 0,.var 4,.var 5,.var 6,.limb 7 0])
 (.lett 1070 (.int .i64) (.app 4 3 [.var 0,.var 4,.var 5,.var 6,.limb 7 0])
 (.ret [.var 0,.lit 0,.lit 0,.lit 0,.var 1067,.var 1068,.var 1069,.lit 0]))))))))))))))))))))
theorem law_kMul (f1 f2 f3 f4 f5 f:FuncId) (e:Nat → Int) (hk:kkHas [.int .i64,.num,.num,.bit,.int .u64,.int .u64,.bit,.num] [e 0,e 1,e 2,e 3,e 4,e 5,e 6,e 7]):tKMul.says [kKeyChk f1,kOrder f2,kWCmp f3,kMul1 f4,kLMul2 f5] ⟨fun ys=>ys=(kKMul f).sem [e 0,e 1,e 2,e 3,e 4,e 5,e 6,e 7],[]⟩ e:=by
 have h7:0 ≤ e 7:=hk.2.2.2.2.2.2.2.1.1
 show tKMul.says _ ⟨fun ys=>ys=keyMul (e 0) (e 1) (e 2) (e 3) (e 4) (e 5) (e 6) (e 7),[]⟩ e
 unfold keyMul
 refine ⟨trivial,fun a8 _ a9 _=>?_⟩
 have v8:e 8=bj (keyOk (e 0) (e 1) (e 2) (e 3) (e 4) (e 5) (e 6)):=a8
 have b9:=c_not a9
 simp only [ev_var] at b9
 refine ⟨fun h=>?_,fun h=>?_⟩
 ·rw [if_pos (bj_z v8 (by clear v8; omega))]; rfl
 have hok:keyOk (e 0) (e 1) (e 2) (e 3) (e 4) (e 5) (e 6):=bj_nz v8 (by clear v8; omega)
 have hs:=keyOk_s hok
 rw [if_neg (fun hc=>hc hok)]
 intro a538 _
 have b538:=c_ne a538
 simp only [ev_var] at b538
 refine ⟨fun h=>by
  rcases b538 with ⟨_,k⟩ | ⟨k,_⟩
  ·exact absurd trivial k
  ·exact absurd k h,fun _=>⟨hs,fun a874 _=>⟨trivial,fun a922 _ a970 _=>?_⟩⟩⟩
 have v874:e 874=rOf (e 0):=a874
 have v922:e 922 < 0 ↔ e 7 < e 874:=cmpV_lt a922
 have b970:=c_ge a970
 simp only [ev_var,ev_lit] at b970
 refine ⟨fun h=>?_,fun h=>?_⟩
 ·have hn:¬ e 7 < rOf (e 0):=by rw [← v874,← v922]; omega
  rw [if_pos hn]; rfl
 have hn:e 7 < rOf (e 0):=by rw [← v874,← v922]; omega
 rw [if_neg (fun hc=>hc hn)]
 intro a1066 _
 have b1066:=c_eq a1066
 simp only [ev_var,ev_lit] at b1066
 refine ⟨fun h=>?_,fun h=>?_⟩
 ·have e0:e 0=0:=by omega
  have hg:onV (e 1) (e 2) (e 3):=by
   rcases hok with hh | hh
   ·exact hh.2.2.1
   ·rcases hh.1 with h1 | h1 <;> omega
  refine ⟨hg,fun a1 _ a2 _ a3 _ a4 _=>?_⟩
  have hr:[e 1067,e 1068,e 1069,e 1070]=lowV (tmJ R1 (rsV (e 1) (e 2) (e 3)) 384 (e 7).toNat) ++ [0]:=by
   rw [show e 1067=_ from a1,show e 1068=_ from a2,show e 1069=_ from a3,show e 1070=_ from a4]; rfl
  rw [if_pos e0]
  show [e 0,e 1067,e 1068,e 1069,0,0,0,0]=_
  have hl:[e 1067,e 1068,e 1069]=lowV (tmJ R1 (rsV (e 1) (e 2) (e 3)) 384 (e 7).toNat):=by
   unfold lowV at hr ⊢
   injection hr with x1 hr
   injection hr with x2 hr
   injection hr with x3 hr
   rw [x1,x2,x3]
  rw [← hl,e0]; rfl
 ·have n0:¬ e 0=0:=by omega
  obtain ⟨hl,hin⟩:isL (e 0) ∧ inP (pL (e 0)) (rOf (e 0)) (e 4) (e 5) (e 6):=by
   rcases hok with hh | hh
   ·exact absurd hh.1 n0
   ·exact ⟨hh.1,hh.2.2⟩
  refine ⟨⟨hl,hin.1⟩,fun a1 _ a2 _ a3 _ a4 _=>?_⟩
  have hr:[e 1067,e 1068,e 1069,e 1070]=(mulP (pL (e 0)) ⟨e 4,e 5,e 6⟩ 64 (lim (e 7) 0).toNat).l ++ [0]:=by
   rw [show e 1067=_ from a1,show e 1068=_ from a2,show e 1069=_ from a3,show e 1070=_ from a4]; rfl
  rw [lim0 h7 (by have:=rOf_sm64 hl; omega)] at hr
  rw [if_neg n0]
  show [e 0,0,0,0,e 1067,e 1068,e 1069,0]=_
  have hl2:[e 1067,e 1068,e 1069]=(mulP (pL (e 0)) ⟨e 4,e 5,e 6⟩ 64 (e 7).toNat).l:=by
   unfold Pt.l at hr ⊢
   injection hr with x1 hr
   injection hr with x2 hr
   injection hr with x3 hr
   rw [x1,x2,x3]
  rw [← hl2]; rfl
open Classical in
noncomputable def keyAdd (s px py pz x y z s' px' py' pz' x' y' z':Int):List Int :=
 if ¬ keyOk s px py pz x y z ∨ ¬ keyOk s' px' py' pz' x' y' z' then [0,0,0,0,0,0,0,5]
 else if s ≠ s' then [0,0,0,0,0,0,0,2]
 else if s=0 then [0] ++ lowV (sumJ R1 (rsV px py pz) (rsV px' py' pz')) ++ [0,0,0,0]
 else [s,0,0,0] ++ (sumP (pL s) ⟨x,y,z⟩ ⟨x',y',z'⟩).l ++ [0]
noncomputable def kKAdd (f:FuncId):K:={fn:=f,ext:=false,ins:=[.agg lsKey,.agg lsKey],outs:=[.agg lsKey,oI],pre:=fun _=>True,sem:=fun | [s,px,py,pz,x,y,z,s',px',py',pz',x',y',z']=>keyAdd s px py pz x y z s' px' py' pz' x' y' z' | _=>[] }
def tKAdd:Tree:=(.req 0 [.var 0,.var 1,.var 2,.var 3,.var 4,.var 5,.var 6]
(.lett 14 .bit (.app 0 0 [.var 0,.var 1,.var 2,.var 3,.var 4,.var 5,.var 6])
(.lett 15 .bit (.not (.var 14))
(.split 15
(.ret [.lit 0,.lit 0,.lit 0,.lit 0,.lit 0,.lit 0,.lit 0,.lit 5])
(.req 0 [.var 7,.var 8,.var 9,.var 10,.var 11,.var 12,.var 13]
(.lett 16 .bit (.app 0 0 [.var 7,.var 8,.var 9,.var 10,.var 11,.var 12,.var 13])
(.lett 17 .bit (.not (.var 16))
(.split 17
 (.ret [.lit 0,.lit 0,.lit 0,.lit 0,.lit 0,.lit 0,.lit 0,.lit 5])
 (.lett 546 .bit (.cmp .neq (.var 0) (.var 7))
 (.split 546
 (.ret [.lit 0,.lit 0,.lit 0,.lit 0,.lit 0,.lit 0,.lit 0,.lit 2])
 (.req 1 [.var 0]
 (.lett 882 .num (.app 1 0 [.var 0])
 (.req 2 [.lit 0,.var 882]
 (.lett 930 (.int .i64) (.app 2 0 [.lit 0,.var 882])
 (.lett 978 .bit (.cmp .geq (.var 930) (.lit 0))
 (.split 978
 (.ret [.lit 0,.lit 0,.lit 0,.lit 0,.lit 0,.lit 0,.lit 0,.lit 2])
 (.lett 1074 .bit (.cmp .eql (.var 0) (.lit 0))
 (.split 1074
 (.req 3 [.var 1,.var 2,.var 3,.var 8,.var 9,.var 10]
 (.lett 1075 .num (.app 3 0 [.var 1,.var 2,.var 3,.var 8,.var 9,.var 10])
 (.lett 1076 .num (.app 3 1 [.var 1,.var 2,.var 3,.var 8,.var 9,.var 10])
 (.lett 1077 .bit (.app 3 2 [.var 1,.var 2,.var 3,.var 8,.var 9,.var 10])
 (.lett 1078 (.int .i64) (.app 3 3 [.var 1,.var 2,.var 3,.var 8,.var 9,.var 10])
 (.ret [.var 0,.var 1075,.var 1076,.var 1077,.lit 0,.lit 0,.lit 0,.lit 0]))))))
 (.req 4 [.var 0,.var 4,.var 5,.var 6,.var 11,.var 12,.var 13]
 (.lett 1075 (.int .u64) (.app 4 0 [.var 0,.var 4,.var 5,.var 6,.var 11,.var 12,.var 13])
 (.lett 1076 (.int .u64) (.app 4 1 [.var 0,.var 4,.var 5,.var 6,.var 11,.var 12,.var 13])
 (.lett 1077 .bit (.app 4 2 [.var 0,.var 4,.var 5,.var 6,.var 11,.var 12,.var 13])
 (.lett 1078 (.int .i64) (.app 4 3 [.var 0,.var 4,.var 5,.var 6,.var 11,.var 12,.var 13])
 (.ret [.var 0,.lit 0,.lit 0,.lit 0,.var 1075,.var 1076,.var 1077,.lit 0]))))))))))))))))))))))))
theorem law_kAdd (f1 f2 f3 f4 f5 f:FuncId) (e:Nat → Int):tKAdd.says [kKeyChk f1,kOrder f2,kWCmp f3,kAdd1 f4,kLAdd2 f5] ⟨fun ys=>ys=(kKAdd f).sem [e 0,e 1,e 2,e 3,e 4,e 5,e 6,e 7,e 8,e 9,e 10,e 11,e 12,e 13],[]⟩ e:=by
 show tKAdd.says _ ⟨fun ys=>ys=keyAdd (e 0) (e 1) (e 2) (e 3) (e 4) (e 5) (e 6) (e 7) (e 8) (e 9) (e 10) (e 11) (e 12) (e 13),[]⟩ e
 unfold keyAdd
 refine ⟨trivial,fun a14 _ a15 _=>?_⟩
 have v14:e 14=bj (keyOk (e 0) (e 1) (e 2) (e 3) (e 4) (e 5) (e 6)):=a14
 have b15:=c_not a15
 simp only [ev_var] at b15
 refine ⟨fun h=>?_,fun h=>?_⟩
 ·rw [if_pos (.inl (bj_z v14 (by clear v14; omega)))]; rfl
 have hok:keyOk (e 0) (e 1) (e 2) (e 3) (e 4) (e 5) (e 6):=bj_nz v14 (by clear v14; omega)
 refine ⟨trivial,fun a16 _ a17 _=>?_⟩
 have v16:e 16=bj (keyOk (e 7) (e 8) (e 9) (e 10) (e 11) (e 12) (e 13)):=a16
 have b17:=c_not a17
 simp only [ev_var] at b17
 refine ⟨fun h=>?_,fun h=>?_⟩
 ·rw [if_pos (.inr (bj_z v16 (by clear v16; omega)))]; rfl
 have hok':keyOk (e 7) (e 8) (e 9) (e 10) (e 11) (e 12) (e 13):=bj_nz v16 (by clear v16; omega)
 have hs:=keyOk_s hok
 rw [if_neg (fun hc=>by rcases hc with hc | hc; exact hc hok; exact hc hok')]
 intro a546 _
 have b546:=c_ne a546
 simp only [ev_var] at b546
 refine ⟨fun h=>?_,fun h=>?_⟩
 ·rw [if_pos (show e 0 ≠ e 7 by omega)]; rfl
 have hss:e 0=e 7:=by omega
 rw [if_neg (fun hc=>hc hss)]
 refine ⟨hs,fun a882 _=>⟨trivial,fun a930 _ a978 _=>?_⟩⟩
 have v882:e 882=rOf (e 0):=a882
 have v930:e 930 < 0 ↔ 0 < e 882:=cmpV_lt a930
 have b978:=c_ge a978
 simp only [ev_var,ev_lit] at b978
 have hr0:=rOf_pos0 (e 0)
 refine ⟨fun h=>by omega,fun _=>?_⟩
 intro a1074 _
 have b1074:=c_eq a1074
 simp only [ev_var,ev_lit] at b1074
 refine ⟨fun h=>?_,fun h=>?_⟩
 ·have e0:e 0=0:=by omega
  have hg:onV (e 1) (e 2) (e 3):=by
   rcases hok with hh | hh
   ·exact hh.2.2.1
   ·rcases hh.1 with h1 | h1 <;> omega
  have hg':onV (e 8) (e 9) (e 10):=by
   rcases hok' with hh | hh
   ·exact hh.2.2.1
   ·rcases hh.1 with h1 | h1 <;> omega
  refine ⟨⟨hg,hg'⟩,fun a1 _ a2 _ a3 _ a4 _=>?_⟩
  have hr:[e 1075,e 1076,e 1077,e 1078]=lowV (sumJ R1 (rsV (e 1) (e 2) (e 3)) (rsV (e 8) (e 9) (e 10))) ++ [0]:=by
   rw [show e 1075=_ from a1,show e 1076=_ from a2,show e 1077=_ from a3,show e 1078=_ from a4]; rfl
  rw [if_pos e0]
  show [e 0,e 1075,e 1076,e 1077,0,0,0,0]=_
  have hl:[e 1075,e 1076,e 1077]=lowV (sumJ R1 (rsV (e 1) (e 2) (e 3)) (rsV (e 8) (e 9) (e 10))):=by
   unfold lowV at hr ⊢
   injection hr with x1 hr
   injection hr with x2 hr
   injection hr with x3 hr
   rw [x1,x2,x3]
  rw [← hl,e0]; rfl
 ·have n0:¬ e 0=0:=by omega
  obtain ⟨hl,hin⟩:isL (e 0) ∧ inP (pL (e 0)) (rOf (e 0)) (e 4) (e 5) (e 6):=by
   rcases hok with hh | hh
   ·exact absurd hh.1 n0
   ·exact ⟨hh.1,hh.2.2⟩
  have hin':inP (pL (e 0)) (rOf (e 0)) (e 11) (e 12) (e 13):=by
   rcases hok' with hh | hh
   ·exact absurd (hss.trans hh.1) n0
   ·rw [hss]; exact hh.2.2
  refine ⟨⟨hl,hin.1,hin'.1⟩,fun a1 _ a2 _ a3 _ a4 _=>?_⟩
  have hr:[e 1075,e 1076,e 1077,e 1078]=(sumP (pL (e 0)) ⟨e 4,e 5,e 6⟩ ⟨e 11,e 12,e 13⟩).l ++ [0]:=by
   rw [show e 1075=_ from a1,show e 1076=_ from a2,show e 1077=_ from a3,show e 1078=_ from a4]; rfl
  rw [if_neg n0]
  show [e 0,0,0,0,e 1075,e 1076,e 1077,0]=_
  have hl2:[e 1075,e 1076,e 1077]=(sumP (pL (e 0)) ⟨e 4,e 5,e 6⟩ ⟨e 11,e 12,e 13⟩).l:=by
   unfold Pt.l at hr ⊢
   injection hr with x1 hr
   injection hr with x2 hr
   injection hr with x3 hr
   rw [x1,x2,x3]
  rw [← hl2]; rfl
end Go.Sx

namespace Go.Sx
open Go Go.RowKit
set_option maxRecDepth 100000
set_option linter.unusedVariables false
set_option linter.unusedSimpArgs false
def invB (x:Int):Int:=x ^ (bP - 2).toNat
theorem nP_bP:((Np.nP:Nat):Int)=bP:=rfl
theorem invB_ok {x:Int} (h:¬ x % bP=0):(x * invB x) % bP=1:=by
 have h1:=md_lt (x:=x) bP_pos
 have hf:=fermat_int Np.p_base (a:=x % bP) (by omega) (by rw [nP_bP]; exact h1.2)
 rw [nP_bP] at hf
 rw [← hf]
 unfold invB
 generalize (bP - 2).toNat=n
 exact (mdE_mul (md_self x) ((md_self _).trans (mdE_pow (md_self x) n))).symm
theorem one_md:(1:Int) % bP=1:=by decide
theorem mulB_z {x y:Int} (h:(x * y) % bP=0) (hx:¬ x % bP=0):y % bP=0:=by
 have hi:=invB_ok hx
 have h1:(y * (x * invB x)) % bP=y % bP:=by
  have:=mdE_mul (p:=bP) (a:=y) (A:=y) rfl (hi.trans one_md.symm)
  rw [Int.mul_one] at this; exact this
 rw [← h1,show y * (x * invB x)=x * y * invB x by rw [← Int.mul_assoc,Int.mul_comm y x]]
 exact md0_mul _ h
def affX (m x x':Int):Int:=m * m - x - x'
def affY (m x y x':Int):Int:=m * (x - affX m x x') - y
theorem aff_dbl {x y:Int} (hy:¬ (y + y) % bP=0):lowV (dblJ R1 ⟨x,y,1⟩)=[affX ((x * x + x * x + x * x) * invB (y + y)) x x % bP,affY ((x * x + x * x + x * x) * invB (y + y)) x y x % bP,0]:=by
 have hu:=(invB_ok hy).trans one_md.symm
 have ez:(dblJ R1 ⟨x,y,1⟩).z=y + y:=by show y * 1 + y * 1=y + y; rw [Int.mul_one]
 unfold lowV lowJ
 rw [if_neg (by rw [ez]; exact hy)]
 simp only [ez]
 rw [show (y + y) ^ (bP - 2).toNat=invB (y + y) from rfl]
 generalize invB (y + y)=i at *
 generalize hm:(x * x + x * x + x * x) * i=m
 have e1:(dblJ R1 ⟨x,y,1⟩).x * (i * i)=m * m - (x * ((y + y) * i * ((y + y) * i)) + x * ((y + y) * i * ((y + y) * i))):=by
  rw [← hm]
  show ((x * x + x * x + x * x) * (x * x + x * x + x * x) - (x * (y * y) + x * (y * y) + (x * (y * y) + x * (y * y)) + (x * (y * y) + x * (y * y) + (x * (y * y) + x * (y * y))))) * (i * i)=_
  grind
 have hX:(dblJ R1 ⟨x,y,1⟩).x * (i * i) % bP=affX m x x % bP:=by
  rw [e1]
  refine (mdE_sub rfl (mdE_add (mdE_mul rfl (mdE_mul hu hu)) (mdE_mul rfl (mdE_mul hu hu)))).trans ?_
  unfold affX
  rw [Int.mul_one,Int.mul_one]
  congr 1; omega
 have e2:(dblJ R1 ⟨x,y,1⟩).y * (i * i * i)=m * (x * ((y + y) * i * ((y + y) * i)) - (dblJ R1 ⟨x,y,1⟩).x * (i * i)) - y * ((y + y) * i * ((y + y) * i) * ((y + y) * i)):=by
  rw [← hm]
  show ((x * x + x * x + x * x) * (x * (y * y) + x * (y * y) + (x * (y * y) + x * (y * y)) - (dblJ R1 ⟨x,y,1⟩).x) - (y * y * (y * y) + y * y * (y * y) + (y * y * (y * y) + y * y * (y * y)) + (y * y * (y * y) + y * y * (y * y) + (y * y * (y * y) + y * y * (y * y))))) * (i * i * i)=_
  generalize (dblJ R1 ⟨x,y,1⟩).x=X
  grind
 have hY:(dblJ R1 ⟨x,y,1⟩).y * (i * i * i) % bP=affY m x y x % bP:=by
  rw [e2]
  refine (mdE_sub (mdE_mul rfl (mdE_sub (mdE_mul rfl (mdE_mul hu hu)) hX)) (mdE_mul rfl (mdE_mul (mdE_mul hu hu) hu))).trans ?_
  unfold affY
  rw [Int.mul_one,Int.mul_one,Int.mul_one,Int.mul_one]
 rw [hX,hY]
theorem add1_eq (x y x' y':Int):addJ R1 ⟨x,y,1⟩ ⟨x',y',1⟩=⟨(y' - y) * (y' - y) - (x' - x) * (x' - x) * (x' - x) - (x * ((x' - x) * (x' - x)) + x * ((x' - x) * (x' - x))),(y' - y) * (x * ((x' - x) * (x' - x)) - ((y' - y) * (y' - y) - (x' - x) * (x' - x) * (x' - x) - (x * ((x' - x) * (x' - x)) + x * ((x' - x) * (x' - x))))) - y * ((x' - x) * (x' - x) * (x' - x)),x' - x⟩:=by
 simp only [addJ,R1,Int.mul_one]
theorem aff_add {x y x' y':Int} (hh:¬ (x' - x) % bP=0):lowV (addJ R1 ⟨x,y,1⟩ ⟨x',y',1⟩)=[affX ((y' - y) * invB (x' - x)) x x' % bP,affY ((y' - y) * invB (x' - x)) x y x' % bP,0]:=by
 have hu:=(invB_ok hh).trans one_md.symm
 rw [add1_eq]
 unfold lowV lowJ
 rw [if_neg hh]
 simp only []
 rw [show (x' - x) ^ (bP - 2).toNat=invB (x' - x) from rfl]
 generalize invB (x' - x)=i at *
 generalize hm:(y' - y) * i=m
 have hd:x'=x' - x + x:=by omega
 have e1:((y' - y) * (y' - y) - (x' - x) * (x' - x) * (x' - x) - (x * ((x' - x) * (x' - x)) + x * ((x' - x) * (x' - x)))) * (i * i)=m * m - (x' - x) * ((x' - x) * i * ((x' - x) * i)) - (x * ((x' - x) * i * ((x' - x) * i)) + x * ((x' - x) * i * ((x' - x) * i))):=by
  rw [← hm]
  grind
 have hX:((y' - y) * (y' - y) - (x' - x) * (x' - x) * (x' - x) - (x * ((x' - x) * (x' - x)) + x * ((x' - x) * (x' - x)))) * (i * i) % bP=affX m x x' % bP:=by
  rw [e1]
  refine (mdE_sub (mdE_sub rfl (mdE_mul rfl (mdE_mul hu hu))) (mdE_add (mdE_mul rfl (mdE_mul hu hu)) (mdE_mul rfl (mdE_mul hu hu)))).trans ?_
  unfold affX
  rw [Int.mul_one,Int.mul_one,Int.mul_one]
  congr 1; omega
 generalize (y' - y) * (y' - y) - (x' - x) * (x' - x) * (x' - x) - (x * ((x' - x) * (x' - x)) + x * ((x' - x) * (x' - x)))=X at hX ⊢
 have e2:((y' - y) * (x * ((x' - x) * (x' - x)) - X) - y * ((x' - x) * (x' - x) * (x' - x))) * (i * i * i)=m * (x * ((x' - x) * i * ((x' - x) * i)) - X * (i * i)) - y * ((x' - x) * i * ((x' - x) * i) * ((x' - x) * i)):=by
  rw [← hm]
  grind
 have hY:((y' - y) * (x * ((x' - x) * (x' - x)) - X) - y * ((x' - x) * (x' - x) * (x' - x))) * (i * i * i) % bP=affY m x y x' % bP:=by
  rw [e2]
  refine (mdE_sub (mdE_mul rfl (mdE_sub (mdE_mul rfl (mdE_mul hu hu)) hX)) (mdE_mul rfl (mdE_mul (mdE_mul hu hu) hu))).trans ?_
  unfold affY
  rw [Int.mul_one,Int.mul_one,Int.mul_one,Int.mul_one]
 rw [hX,hY]
end Go.Sx

namespace Go.Sx
open Go Go.RowKit
set_option maxRecDepth 100000
set_option linter.unusedVariables false
set_option linter.unusedSimpArgs false
theorem lowV_z {P:J Int} (h:P.z % bP=0):lowV P=[0,0,1]:=by
 unfold lowV lowJ; rw [if_pos h]; rfl
theorem dbl_nz {y:Int} (h0:0 ≤ y) (h1:y < bP) (h:¬ y=0):¬ (y + y) % bP=0:=fun hc=>by
 have ho:=bP_odd
 rcases Int.lt_or_le (y + y) bP with hl | hl
 ·rw [Int.emod_eq_of_lt (by omega) hl] at hc; omega
 ·rw [md_eq (x:=y + y) (n:=bP) (r:=y + y - bP) 1 (by omega) (by omega) (by omega)] at hc
  generalize bP=p at *
  omega
theorem neg_z {y:Int} (h0:0 ≤ y) (h1:y < bP) (h:y=(-y) % bP):y=0:=by
 by_cases hy:y=0
 ·exact hy
 ·refine absurd ?_ (dbl_nz h0 h1 hy)
  have h2:(y + y) % bP=(y + -y) % bP:=mdE_add rfl (by rw [← h]; exact Int.emod_eq_of_lt h0 h1)
  rw [h2,Int.add_right_neg]; rfl
theorem sub_nz {x y:Int} (h0:0 ≤ x ∧ x < bP) (h1:0 ≤ y ∧ y < bP) (h:¬ x=y):¬ (y - x) % bP=0:=by unfold bP at *; omega
theorem opp_of {y y':Int} (h0:0 ≤ y ∧ y < bP) (h1:0 ≤ y' ∧ y' < bP) (h:(y' + y) % bP=0):y=(-y') % bP:=by unfold bP at *; omega
theorem hJ_1 (x y x' y':Int):hJ R1 ⟨x,y,1⟩ ⟨x',y',1⟩=x' - x:=by simp only [hJ,R1,Int.mul_one]
theorem rJ_1 (x y x' y':Int):rJ R1 ⟨x,y,1⟩ ⟨x',y',1⟩=y' - y:=by simp only [rJ,R1,Int.mul_one]
theorem one_nz:¬ R1.isz 1=true:=fun h=>one_ne (isz2.1 h)
section
variable {x y x' y':Int}
theorem sq_dif (h:y * y % bP=(x * x * x + 4) % bP) (h':y' * y' % bP=(x * x * x + 4) % bP):((y' - y) * (y' + y)) % bP=0:=by
 have e:(y' - y) * (y' + y)=y' * y' - y * y:=by grind
 rw [e,Int.sub_emod,h,h',Int.sub_self]; rfl
theorem sum_opp (hy:0 ≤ y ∧ y < bP) (hy':0 ≤ y' ∧ y' < bP) (h:y=(-y') % bP):lowV (sumJ R1 ⟨x,y,1⟩ ⟨x,y',1⟩)=[0,0,1]:=by
 have d1:R1.isz (hJ R1 ⟨x,y,1⟩ ⟨x,y',1⟩)=true:=isz2.2 (by rw [hJ_1,Int.sub_self]; rfl)
 by_cases hc:y=y'
 ·subst hc
  have h0:=neg_z hy.1 hy.2 h
  rw [sumJ_dbl one_nz one_nz d1 (isz2.2 (by rw [rJ_1,Int.sub_self]; rfl))]
  refine lowV_z ?_
  show (y * 1 + y * 1) % bP=0
  rw [h0]; rfl
 ·rw [sumJ_opp one_nz one_nz d1 (fun hz=>sub_nz hy hy' hc (by have:=isz2.1 hz; rw [rJ_1] at this; exact this))]
  exact lowV_z rfl
theorem sum_dbl (hy:0 ≤ y ∧ y < bP) (h:¬ y=(-y) % bP):lowV (sumJ R1 ⟨x,y,1⟩ ⟨x,y,1⟩)=[affX ((x * x + x * x + x * x) * invB (y + y)) x x % bP,affY ((x * x + x * x + x * x) * invB (y + y)) x y x % bP,0]:=by
 rw [sumJ_dbl one_nz one_nz (isz2.2 (by rw [hJ_1,Int.sub_self]; rfl)) (isz2.2 (by rw [rJ_1,Int.sub_self]; rfl))]
 exact aff_dbl (dbl_nz hy.1 hy.2 (fun h0=>h (by rw [h0]; rfl)))
theorem sum_gen (hx:0 ≤ x ∧ x < bP) (hx':0 ≤ x' ∧ x' < bP) (h:¬ x=x'):lowV (sumJ R1 ⟨x,y,1⟩ ⟨x',y',1⟩)=[affX ((y' - y) * invB (x' - x)) x x' % bP,affY ((y' - y) * invB (x' - x)) x y x' % bP,0]:=by
 have hn:=sub_nz hx hx' h
 rw [sumJ_gen one_nz one_nz (fun hz=>hn (by have:=isz2.1 hz; rw [hJ_1] at this; exact this))]
 exact aff_add hn
theorem low_1 (hx:0 ≤ x ∧ x < bP) (hy:0 ≤ y ∧ y < bP):lowV ⟨x,y,1⟩=[x,y,0]:=by
 unfold lowV lowJ
 generalize (bP - 2).toNat=n
 rw [if_neg one_ne]
 simp only [Int.one_pow,Int.mul_one]
 rw [Int.emod_eq_of_lt hx.1 hx.2,Int.emod_eq_of_lt hy.1 hy.2]
end
end Go.Sx

namespace Go.Sx
open Go Go.RowKit
set_option maxRecDepth 100000
set_option linter.unusedVariables false
set_option linter.unusedSimpArgs false
theorem c_pt {e:Nat → Int} {v:Int} {i j i' j' z z':Nat} (h:v=(D.eqs [(.limb i 0,.limb j 0),(.limb i 1,.limb j 1),(.limb i 2,.limb j 2),(.limb i 3,.limb j 3),(.limb i 4,.limb j 4),(.limb i 5,.limb j 5),(.limb i' 0,.limb j' 0),(.limb i' 1,.limb j' 1),(.limb i' 2,.limb j' 2),(.limb i' 3,.limb j' 3),(.limb i' 4,.limb j' 4),(.limb i' 5,.limb j' 5),(.var z,.var z')]).ev [] e) (hi:0 ≤ e i ∧ e i < N384) (hj:0 ≤ e j ∧ e j < N384) (hi':0 ≤ e i' ∧ e i' < N384) (hj':0 ≤ e j' ∧ e j' < N384):(v=1 ∧ (e i=e j ∧ e i'=e j' ∧ e z=e z')) ∨ (v=0 ∧ ¬ (e i=e j ∧ e i'=e j' ∧ e z=e z')):=by
 simp only [D.ev,List.all_cons,List.all_nil,ev_limb,ev_var,Bool.and_true,b2i_bi,Bool.and_eq_true,beq_iff_eq] at h
 by_cases hc:e i=e j ∧ e i'=e j' ∧ e z=e z'
 ·left; rw [hc.1,hc.2.1,hc.2.2] at h; simp at h; exact ⟨h,hc⟩
 ·right
  rw [if_neg (fun hh=>hc ⟨lim_inj hi hj ⟨hh.1,hh.2.1,hh.2.2.1,hh.2.2.2.1,hh.2.2.2.2.1,hh.2.2.2.2.2.1⟩,lim_inj hi' hj' ⟨hh.2.2.2.2.2.2.1,hh.2.2.2.2.2.2.2.1,hh.2.2.2.2.2.2.2.2.1,hh.2.2.2.2.2.2.2.2.2.1,hh.2.2.2.2.2.2.2.2.2.2.1,hh.2.2.2.2.2.2.2.2.2.2.2.1⟩,hh.2.2.2.2.2.2.2.2.2.2.2.2⟩)] at h
  exact ⟨h,hc⟩
def kRAdd1 (f:FuncId):K:={fn:=f,ext:=false,ins:=[.agg lsPl,.agg lsPl],outs:=[.agg lsPl],pre:=fun | [x,y,z,x',y',z']=>onV x y z ∧ onV x' y' z' | _=>False,sem:=fun | [x,y,z,x',y',z']=>lowV (sumJ R1 (rsV x y z) (rsV x' y' z')) | _=>[] }
def tRAdd1:Tree:=(.req 0 []
(.lett 6 .num (.app 0 0 [])
(.lett 7 (.int .u64) (.app 0 1 [])
(.lett 8 .num (.app 0 2 [])
(.split 2
(.ret [.var 3,.var 4,.var 5])
(.split 5
 (.ret [.var 0,.var 1,.var 2])
 (.req 1 [.var 3,.var 4,.var 5]
 (.lett 105 .num (.app 1 0 [.var 3,.var 4,.var 5])
 (.lett 106 .num (.app 1 1 [.var 3,.var 4,.var 5])
 (.lett 107 .bit (.app 1 2 [.var 3,.var 4,.var 5])
 (.lett 153 .bit (.eqs [((.limb 0 0),(.limb 105 0)),((.limb 0 1),(.limb 105 1)),((.limb 0 2),(.limb 105 2)),((.limb 0 3),(.limb 105 3)),((.limb 0 4),(.limb 105 4)),((.limb 0 5),(.limb 105 5)),((.limb 1 0),(.limb 106 0)),((.limb 1 1),(.limb 106 1)),((.limb 1 2),(.limb 106 2)),((.limb 1 3),(.limb 106 3)),((.limb 1 4),(.limb 106 4)),((.limb 1 5),(.limb 106 5)),((.var 2),(.var 107))])
 (.split 153
 (.ret [.lit 0,.lit 0,.lit 1])
 (.lett 201 .bit (.eqs [((.limb 0 0),(.limb 3 0)),((.limb 0 1),(.limb 3 1)),((.limb 0 2),(.limb 3 2)),((.limb 0 3),(.limb 3 3)),((.limb 0 4),(.limb 3 4)),((.limb 0 5),(.limb 3 5)),((.limb 1 0),(.limb 4 0)),((.limb 1 1),(.limb 4 1)),((.limb 1 2),(.limb 4 2)),((.limb 1 3),(.limb 4 3)),((.limb 1 4),(.limb 4 4)),((.limb 1 5),(.limb 4 5)),((.var 2),(.var 5))])
 (.split 201
 (.req 2 [.var 6,.var 7,.var 8,.var 0,.var 0]
 (.lett 202 .num (.app 2 0 [.var 6,.var 7,.var 8,.var 0,.var 0])
 (.req 3 [.var 6,.var 7,.var 8,.var 202,.var 202]
 (.lett 443 .num (.app 3 0 [.var 6,.var 7,.var 8,.var 202,.var 202])
 (.req 3 [.var 6,.var 7,.var 8,.var 443,.var 202]
 (.lett 539 .num (.app 3 0 [.var 6,.var 7,.var 8,.var 443,.var 202])
 (.req 3 [.var 6,.var 7,.var 8,.var 1,.var 1]
 (.lett 875 .num (.app 3 0 [.var 6,.var 7,.var 8,.var 1,.var 1])
 (.req 5 [.var 6,.var 7,.var 8,.var 875]
 (.lett 923 .num (.app 5 0 [.var 6,.var 7,.var 8,.var 875])
 (.req 2 [.var 6,.var 7,.var 8,.var 539,.var 923]
 (.lett 971 .num (.app 2 0 [.var 6,.var 7,.var 8,.var 539,.var 923])
 (.req 2 [.var 6,.var 7,.var 8,.var 971,.var 971]
 (.lett 1307 .num (.app 2 0 [.var 6,.var 7,.var 8,.var 971,.var 971])
 (.req 4 [.var 6,.var 7,.var 8,.var 1307,.var 0]
 (.lett 1451 .num (.app 4 0 [.var 6,.var 7,.var 8,.var 1307,.var 0])
 (.req 4 [.var 6,.var 7,.var 8,.var 1451,.var 3]
 (.lett 1595 .num (.app 4 0 [.var 6,.var 7,.var 8,.var 1451,.var 3])
 (.req 4 [.var 6,.var 7,.var 8,.var 0,.var 1595]
 (.lett 2123 .num (.app 4 0 [.var 6,.var 7,.var 8,.var 0,.var 1595])
 (.req 2 [.var 6,.var 7,.var 8,.var 971,.var 2123]
 (.lett 2171 .num (.app 2 0 [.var 6,.var 7,.var 8,.var 971,.var 2123])
 (.req 4 [.var 6,.var 7,.var 8,.var 2171,.var 1]
 (.lett 2315 .num (.app 4 0 [.var 6,.var 7,.var 8,.var 2171,.var 1])
 (.ret [.var 1595,.var 2315,.lit 0])))))))))))))))))))))))))
 (.req 4 [.var 6,.var 7,.var 8,.var 4,.var 1]
 (.lett 490 .num (.app 4 0 [.var 6,.var 7,.var 8,.var 4,.var 1])
 (.req 4 [.var 6,.var 7,.var 8,.var 3,.var 0]
 (.lett 826 .num (.app 4 0 [.var 6,.var 7,.var 8,.var 3,.var 0])
 (.req 5 [.var 6,.var 7,.var 8,.var 826]
 (.lett 874 .num (.app 5 0 [.var 6,.var 7,.var 8,.var 826])
 (.req 2 [.var 6,.var 7,.var 8,.var 490,.var 874]
 (.lett 922 .num (.app 2 0 [.var 6,.var 7,.var 8,.var 490,.var 874])
 (.req 2 [.var 6,.var 7,.var 8,.var 922,.var 922]
 (.lett 1258 .num (.app 2 0 [.var 6,.var 7,.var 8,.var 922,.var 922])
 (.req 4 [.var 6,.var 7,.var 8,.var 1258,.var 0]
 (.lett 1402 .num (.app 4 0 [.var 6,.var 7,.var 8,.var 1258,.var 0])
 (.req 4 [.var 6,.var 7,.var 8,.var 1402,.var 3]
 (.lett 1546 .num (.app 4 0 [.var 6,.var 7,.var 8,.var 1402,.var 3])
 (.req 4 [.var 6,.var 7,.var 8,.var 0,.var 1546]
 (.lett 2074 .num (.app 4 0 [.var 6,.var 7,.var 8,.var 0,.var 1546])
 (.req 2 [.var 6,.var 7,.var 8,.var 922,.var 2074]
 (.lett 2122 .num (.app 2 0 [.var 6,.var 7,.var 8,.var 922,.var 2074])
 (.req 4 [.var 6,.var 7,.var 8,.var 2122,.var 1]
 (.lett 2266 .num (.app 4 0 [.var 6,.var 7,.var 8,.var 2122,.var 1])
 (.ret [.var 1546,.var 2266,.lit 0])))))))))))))))))))))))))))))))))))
theorem law_rAdd1 (f1 f2 f3 f4 f5 f6 f:FuncId) (e:Nat → Int) (hk:kkHas [.num,.num,.bit,.num,.num,.bit] [e 0,e 1,e 2,e 3,e 4,e 5]) (hp:(kRAdd1 f).pre [e 0,e 1,e 2,e 3,e 4,e 5]):tRAdd1.says [kRP f1,kRNeg1 f2,kFMul f3,kFAdd f4,kFSub f5,kFInv f6] ⟨fun ys=>ys=(kRAdd1 f).sem [e 0,e 1,e 2,e 3,e 4,e 5],[]⟩ e:=by
 obtain ⟨⟨⟨u0,u1⟩,o1⟩,⟨⟨u3,u4⟩,o2⟩⟩:onV (e 0) (e 1) (e 2) ∧ onV (e 3) (e 4) (e 5):=hp
 obtain ⟨h0,h1,h2,h3,h4,h5,_⟩:=hk
 have h0:0 ≤ e 0 ∧ e 0 < N384:=h0
 have h1:0 ≤ e 1 ∧ e 1 < N384:=h1
 have h3:0 ≤ e 3 ∧ e 3 < N384:=h3
 have h4:0 ≤ e 4 ∧ e 4 < N384:=h4
 have h2:0 ≤ e 2 ∧ e 2 ≤ 1:=h2
 have h5:0 ≤ e 5 ∧ e 5 ≤ 1:=h5
 have q0:=M_self h0.1 u0
 have q1:=M_self h1.1 u1
 have q3:=M_self h3.1 u3
 have q4:=M_self h4.1 u4
 show tRAdd1.says _ ⟨fun ys=>ys=lowV (sumJ R1 (rsV (e 0) (e 1) (e 2)) (rsV (e 3) (e 4) (e 5))),[]⟩ e
 refine ⟨trivial,?_⟩
 intro a6 k6
 have q6:=(show e 6=bP from a6)
 clear a6 k6
 intro a7 k7
 have q7:=(show e 7=lowP from a7)
 clear a7 k7
 intro a8 k8
 have q8:=(show e 8=sqP from a8)
 clear a8 k8
 refine ⟨fun h=>?_,fun h=>?_⟩
 ·have c2:=h
  show [e 3,e 4,e 5]=_
  have r1:rsV (e 0) (e 1) (e 2)=oJ R1:=if_neg c2
  rw [r1,sumJ_z1 (isz2.2 rfl)]
  by_cases hz:e 5=0
  ·rw [show rsV (e 3) (e 4) (e 5)=⟨e 3,e 4,1⟩ from if_pos hz,low_1 ⟨h3.1,u3⟩ ⟨h4.1,u4⟩,hz]
  ·rw [if_neg hz] at o2
   rw [show rsV (e 3) (e 4) (e 5)=oJ R1 from if_neg hz,lowV_z rfl,o2.1,o2.2,show e 5=1 by omega]
 ·have c2:=h
  refine ⟨fun h=>?_,fun h=>?_⟩
  ·have c5:=h
   show [e 0,e 1,e 2]=_
   have r2:rsV (e 3) (e 4) (e 5)=oJ R1:=if_neg c5
   have r1:rsV (e 0) (e 1) (e 2)=⟨e 0,e 1,1⟩:=if_pos c2
   rw [r2,r1,sumJ_z2 one_nz (isz2.2 rfl),low_1 ⟨h0.1,u0⟩ ⟨h1.1,u1⟩,c2]
  ·have c5:=h
   have r1:rsV (e 0) (e 1) (e 2)=⟨e 0,e 1,1⟩:=if_pos c2
   have r2:rsV (e 3) (e 4) (e 5)=⟨e 3,e 4,1⟩:=if_pos c5
   rw [if_pos c2] at o1
   rw [if_pos c5] at o2
   rw [r1,r2]
   refine ⟨u4,?_⟩
   intro a105 k105
   have q105:=(show e 105=(e 3) from a105)
   clear a105
   intro a106 k106
   have q106:=(show e 106=(-(e 4)) % bP from a106)
   clear a106
   intro a107 k107
   have q107:=(show e 107=(e 5) from a107)
   clear a107
   intro a153 k153
   clear k153
   have b153:=c_pt a153 h0 k105 h1 k106
   rw [q105,q106,q107] at b153
   clear a153
   refine ⟨fun h=>?_,fun h=>?_⟩
   ·have c153:=h
    have z1:=b_yes b153 c153
    show [0,0,1]=_
    rw [← z1.1,sum_opp ⟨h1.1,u1⟩ ⟨h4.1,u4⟩ z1.2.1]
   ·have c153:=h
    have z1:=b_no b153 c153
    intro a201 k201
    clear k201
    have b201:=c_pt a201 h0 h3 h1 h4
    clear a201
    refine ⟨fun h=>?_,fun h=>?_⟩
    ·have c201:=h
     have z2:=b_yes b201 c201
     refine ⟨⟨F_good q6 q7 q8,Or.inl (F_lt q6 q0)⟩,?_⟩
     intro a202 k202
     have q202:=F_mul q6 (show e 202=(e 0) * (e 0) % (e 6) from a202) q0 q0
     clear a202 k202
     refine ⟨⟨F_382 q6,F_lt q6 q202,F_lt q6 q202⟩,?_⟩
     intro a443 k443
     have q443:=F_add q6 (show e 443=((e 202) + (e 202)) % (e 6) from a443) q202 q202
     clear a443 k443
     refine ⟨⟨F_382 q6,F_lt q6 q443,F_lt q6 q202⟩,?_⟩
     intro a539 k539
     have q539:=F_add q6 (show e 539=((e 443) + (e 202)) % (e 6) from a539) q443 q202
     clear a539 k539
     refine ⟨⟨F_382 q6,F_lt q6 q1,F_lt q6 q1⟩,?_⟩
     intro a875 k875
     have q875:=F_add q6 (show e 875=((e 1) + (e 1)) % (e 6) from a875) q1 q1
     clear a875 k875
     refine ⟨⟨F_good q6 q7 q8,F_lt q6 q875⟩,?_⟩
     intro a923 k923
     have q923:=F_inv q6 (show e 923=(e 875) ^ ((e 6) - 2).toNat % (e 6) from a923) q875
     clear a923 k923
     refine ⟨⟨F_good q6 q7 q8,Or.inl (F_lt q6 q539)⟩,?_⟩
     intro a971 k971
     have q971:=F_mul q6 (show e 971=(e 539) * (e 923) % (e 6) from a971) q539 q923
     clear a971 k971
     refine ⟨⟨F_good q6 q7 q8,Or.inl (F_lt q6 q971)⟩,?_⟩
     intro a1307 k1307
     have q1307:=F_mul q6 (show e 1307=(e 971) * (e 971) % (e 6) from a1307) q971 q971
     clear a1307 k1307
     refine ⟨⟨F_382 q6,F_lt q6 q1307,F_lt q6 q0⟩,?_⟩
     intro a1451 k1451
     have q1451:=F_sub q6 (show e 1451=((e 1307) - (e 0)) % (e 6) from a1451) q1307 q0
     clear a1451 k1451
     refine ⟨⟨F_382 q6,F_lt q6 q1451,F_lt q6 q3⟩,?_⟩
     intro a1595 k1595
     have q1595:=F_sub q6 (show e 1595=((e 1451) - (e 3)) % (e 6) from a1595) q1451 q3
     clear a1595 k1595
     refine ⟨⟨F_382 q6,F_lt q6 q0,F_lt q6 q1595⟩,?_⟩
     intro a2123 k2123
     have q2123:=F_sub q6 (show e 2123=((e 0) - (e 1595)) % (e 6) from a2123) q0 q1595
     clear a2123 k2123
     refine ⟨⟨F_good q6 q7 q8,Or.inl (F_lt q6 q971)⟩,?_⟩
     intro a2171 k2171
     have q2171:=F_mul q6 (show e 2171=(e 971) * (e 2123) % (e 6) from a2171) q971 q2123
     clear a2171 k2171
     refine ⟨⟨F_382 q6,F_lt q6 q2171,F_lt q6 q1⟩,?_⟩
     intro a2315 k2315
     have q2315:=F_sub q6 (show e 2315=((e 2171) - (e 1)) % (e 6) from a2315) q2171 q1
     clear a2315 k2315
     show [e 1595,e 2315,0]=_
     rw [← z2.1,← z2.2.1,sum_dbl ⟨h1.1,u1⟩ (fun hc=>z1 ⟨z2.1,by rw [← z2.2.1]; exact hc,by rw [c2,c5]⟩)]
     rw [q1595,q2315,← z2.1]; rfl
    ·have c201:=h
     have z2:=b_no b201 c201
     refine ⟨⟨F_382 q6,F_lt q6 q4,F_lt q6 q1⟩,?_⟩
     intro a490 k490
     have q490:=F_sub q6 (show e 490=((e 4) - (e 1)) % (e 6) from a490) q4 q1
     clear a490 k490
     refine ⟨⟨F_382 q6,F_lt q6 q3,F_lt q6 q0⟩,?_⟩
     intro a826 k826
     have q826:=F_sub q6 (show e 826=((e 3) - (e 0)) % (e 6) from a826) q3 q0
     clear a826 k826
     refine ⟨⟨F_good q6 q7 q8,F_lt q6 q826⟩,?_⟩
     intro a874 k874
     have q874:=F_inv q6 (show e 874=(e 826) ^ ((e 6) - 2).toNat % (e 6) from a874) q826
     clear a874 k874
     refine ⟨⟨F_good q6 q7 q8,Or.inl (F_lt q6 q490)⟩,?_⟩
     intro a922 k922
     have q922:=F_mul q6 (show e 922=(e 490) * (e 874) % (e 6) from a922) q490 q874
     clear a922 k922
     refine ⟨⟨F_good q6 q7 q8,Or.inl (F_lt q6 q922)⟩,?_⟩
     intro a1258 k1258
     have q1258:=F_mul q6 (show e 1258=(e 922) * (e 922) % (e 6) from a1258) q922 q922
     clear a1258 k1258
     refine ⟨⟨F_382 q6,F_lt q6 q1258,F_lt q6 q0⟩,?_⟩
     intro a1402 k1402
     have q1402:=F_sub q6 (show e 1402=((e 1258) - (e 0)) % (e 6) from a1402) q1258 q0
     clear a1402 k1402
     refine ⟨⟨F_382 q6,F_lt q6 q1402,F_lt q6 q3⟩,?_⟩
     intro a1546 k1546
     have q1546:=F_sub q6 (show e 1546=((e 1402) - (e 3)) % (e 6) from a1546) q1402 q3
     clear a1546 k1546
     refine ⟨⟨F_382 q6,F_lt q6 q0,F_lt q6 q1546⟩,?_⟩
     intro a2074 k2074
     have q2074:=F_sub q6 (show e 2074=((e 0) - (e 1546)) % (e 6) from a2074) q0 q1546
     clear a2074 k2074
     refine ⟨⟨F_good q6 q7 q8,Or.inl (F_lt q6 q922)⟩,?_⟩
     intro a2122 k2122
     have q2122:=F_mul q6 (show e 2122=(e 922) * (e 2074) % (e 6) from a2122) q922 q2074
     clear a2122 k2122
     refine ⟨⟨F_382 q6,F_lt q6 q2122,F_lt q6 q1⟩,?_⟩
     intro a2266 k2266
     have q2266:=F_sub q6 (show e 2266=((e 2122) - (e 1)) % (e 6) from a2266) q2122 q1
     clear a2266 k2266
     show [e 1546,e 2266,0]=_
     rw [q1546,q2266]
     by_cases hx:e 0=e 3
     ·exfalso
      have hd:=sq_dif o1 (by rw [hx]; exact o2)
      have hne:¬ e 1=e 4:=fun hc=>z2 ⟨hx,hc,by rw [c2,c5]⟩
      exact z1 ⟨hx,opp_of ⟨h1.1,u1⟩ ⟨h4.1,u4⟩ (mulB_z hd (sub_nz ⟨h1.1,u1⟩ ⟨h4.1,u4⟩ hne)),by rw [c2,c5]⟩
     ·rw [sum_gen ⟨h0.1,u0⟩ ⟨h3.1,u3⟩ hx]; rfl
end Go.Sx

namespace Go.Sx
open Go Go.RowKit
set_option maxRecDepth 100000
set_option linter.unusedVariables false
set_option linter.unusedSimpArgs false
open Classical in
noncomputable def keyNeg (s px py pz x y z:Int):List Int :=
 if ¬ keyOk s px py pz x y z then [0,0,0,0,0,0,0,5]
 else if s=0 then [0,px,(-py) % bP,pz,0,0,0,0] else [s,0,0,0,x,(-y) % pL s,z,0]
def keyP (r:List Int):List Int:=if r.getD 3 0 ≠ 0 then [0,0,0,0,0,0,0,r.getD 3 0] else [0,r.getD 0 0,r.getD 1 0,r.getD 2 0,0,0,0,0]
def keyL (s:Int) (r:List Int):List Int:=if r.getD 3 0 ≠ 0 then [0,0,0,0,0,0,0,r.getD 3 0] else [s,0,0,0,r.getD 0 0,r.getD 1 0,r.getD 2 0,0]
noncomputable def readKey (s:Int) (b:List Int):List Int :=
 if s=0 then keyP (read1V b) else if s=1 ∨ s=2 then keyL s (readLV (pL s) (rOf s) b) else [0,0,0,0,0,0,0,2]
def keyB (s px py pz x y z:Int):List Int:=if s=0 then bytes1V px py pz else bytesL x y z
noncomputable def kKNeg (f:FuncId):K:={fn:=f,ext:=false,ins:=[.agg lsKey],outs:=[.agg lsKey,oI],pre:=fun _=>True,sem:=fun | [s,px,py,pz,x,y,z]=>keyNeg s px py pz x y z | _=>[] }
noncomputable def kReadKey (f:FuncId):K:={fn:=f,ext:=false,ins:=[iI,.lst (.int .u8)],outs:=[.agg lsKey,oI],pre:=fun _=>True,sem:=fun | [s,l]=>readKey s (dec l) | _=>[] }
noncomputable def kRKAdd (f:FuncId):K:={fn:=f,ext:=false,ins:=[.agg lsKey,.agg lsKey],outs:=[.agg lsKey],pre:=fun | [s,px,py,pz,x,y,z,s',px',py',pz',x',y',z']=>keyOk s px py pz x y z ∧ keyOk s' px' py' pz' x' y' z' ∧ s=s' | _=>False,sem:=fun | [s,px,py,pz,x,y,z,s',px',py',pz',x',y',z']=>(keyAdd s px py pz x y z s' px' py' pz' x' y' z').take 7 | _=>[] }
noncomputable def kRKMul (f:FuncId):K:={fn:=f,ext:=false,ins:=[.agg lsKey,iN],outs:=[.agg lsKey],pre:=fun | [s,px,py,pz,x,y,z,n]=>keyOk s px py pz x y z ∧ n < rOf s | _=>False,sem:=fun | [s,px,py,pz,x,y,z,n]=>(keyMul s px py pz x y z n).take 7 | _=>[] }
noncomputable def kRKNeg (f:FuncId):K:={fn:=f,ext:=false,ins:=[.agg lsKey],outs:=[.agg lsKey],pre:=fun | [s,px,py,pz,x,y,z]=>keyOk s px py pz x y z | _=>False,sem:=fun | [s,px,py,pz,x,y,z]=>(keyNeg s px py pz x y z).take 7 | _=>[] }
def kRKBytes (te:TypeId) (f:FuncId):K:={fn:=f,ext:=false,ins:=[.agg lsKey],outs:=[.lst te (.int .u8)],pre:=fun | [s,px,_,_,_,_,_]=>s=0 → px < bP | _=>False,sem:=fun | [s,px,py,pz,x,y,z]=>[enc (keyB s px py pz x y z)] | _=>[] }
theorem keyOk_0 {s px py pz x y z:Int} (h:keyOk s px py pz x y z) (h0:s=0):(x=0 ∧ y=0 ∧ z=0) ∧ inG px py pz:=by
 rcases h with h | h
 ·exact h.2
 ·rcases h.1 with h1 | h1 <;> omega
theorem keyOk_L {s px py pz x y z:Int} (h:keyOk s px py pz x y z) (h0:¬ s=0):isL s ∧ (px=0 ∧ py=0 ∧ pz=0) ∧ inP (pL s) (rOf s) x y z:=by
 rcases h with h | h
 ·exact absurd h.1 h0
 ·exact h
def tKNeg:Tree:=(.req 0 [.var 0,.var 1,.var 2,.var 3,.var 4,.var 5,.var 6]
(.lett 7 .bit (.app 0 0 [.var 0,.var 1,.var 2,.var 3,.var 4,.var 5,.var 6])
(.lett 8 .bit (.not (.var 7))
(.split 8
(.ret [.lit 0,.lit 0,.lit 0,.lit 0,.lit 0,.lit 0,.lit 0,.lit 5])
(.lett 537 .bit (.cmp .neq (.var 0) (.var 0))
(.split 537
 (.ret [.lit 0,.lit 0,.lit 0,.lit 0,.lit 0,.lit 0,.lit 0,.lit 2])
 (.req 1 [.var 0]
 (.lett 873 .num (.app 1 0 [.var 0])
 (.req 2 [.lit 0,.var 873]
 (.lett 921 (.int .i64) (.app 2 0 [.lit 0,.var 873])
 (.lett 969 .bit (.cmp .geq (.var 921) (.lit 0))
 (.split 969
 (.ret [.lit 0,.lit 0,.lit 0,.lit 0,.lit 0,.lit 0,.lit 0,.lit 2])
 (.lett 1065 .bit (.cmp .eql (.var 0) (.lit 0))
 (.split 1065
 (.req 3 [.var 1,.var 2,.var 3]
 (.lett 1066 .num (.app 3 0 [.var 1,.var 2,.var 3])
 (.lett 1067 .num (.app 3 1 [.var 1,.var 2,.var 3])
 (.lett 1068 .bit (.app 3 2 [.var 1,.var 2,.var 3])
 (.lett 1069 (.int .i64) (.app 3 3 [.var 1,.var 2,.var 3])
 (.ret [.var 0,.var 1066,.var 1067,.var 1068,.lit 0,.lit 0,.lit 0,.lit 0]))))))
 (.req 4 [.var 0,.var 4,.var 5,.var 6]
 (.lett 1066 (.int .u64) (.app 4 0 [.var 0,.var 4,.var 5,.var 6])
 (.lett 1067 (.int .u64) (.app 4 1 [.var 0,.var 4,.var 5,.var 6])
 (.lett 1068 .bit (.app 4 2 [.var 0,.var 4,.var 5,.var 6])
 (.lett 1069 (.int .i64) (.app 4 3 [.var 0,.var 4,.var 5,.var 6])
 (.ret [.var 0,.lit 0,.lit 0,.lit 0,.var 1066,.var 1067,.var 1068,.lit 0]))))))))))))))))))))
theorem law_kNeg (f1 f2 f3 f4 f5 f:FuncId) (e:Nat → Int):tKNeg.says [kKeyChk f1,kOrder f2,kWCmp f3,kNeg1 f4,kLNeg2 f5] ⟨fun ys=>ys=(kKNeg f).sem [e 0,e 1,e 2,e 3,e 4,e 5,e 6],[]⟩ e:=by
 show tKNeg.says _ ⟨fun ys=>ys=keyNeg (e 0) (e 1) (e 2) (e 3) (e 4) (e 5) (e 6),[]⟩ e
 unfold keyNeg
 refine ⟨trivial,fun a7 _ a8 _=>?_⟩
 have v7:e 7=bj (keyOk (e 0) (e 1) (e 2) (e 3) (e 4) (e 5) (e 6)):=a7
 have b8:=c_not a8
 simp only [ev_var] at b8
 refine ⟨fun h=>?_,fun h=>?_⟩
 ·rw [if_pos (bj_z v7 (b_yes b8 h))]; rfl
 have hok:=bj_nz v7 (b_no b8 h)
 have hs:=keyOk_s hok
 rw [if_neg (fun hc=>hc hok)]
 intro a537 _
 have b537:=c_ne a537
 simp only [ev_var] at b537
 refine ⟨fun h=>by
  rcases b537 with ⟨_,k⟩ | ⟨k,_⟩
  ·exact absurd trivial k
  ·exact absurd k h,fun _=>⟨hs,fun a873 _=>⟨trivial,fun a921 _ a969 _=>?_⟩⟩⟩
 have v873:e 873=rOf (e 0):=a873
 have v921:e 921 < 0 ↔ 0 < e 873:=cmpV_lt a921
 have b969:=c_ge a969
 simp only [ev_var,ev_lit] at b969
 have hr0:=rOf_pos0 (e 0)
 refine ⟨fun h=>by omega,fun _=>?_⟩
 intro a1065 _
 have b1065:=c_eq a1065
 simp only [ev_var,ev_lit] at b1065
 refine ⟨fun h=>?_,fun h=>?_⟩
 ·have e0:e 0=0:=b_yes b1065 h
  have hg:=(keyOk_0 hok e0).2.1
  refine ⟨trivial,fun a1 _ a2 _ a3 _ a4 _=>?_⟩
  have hn:=negV_t hg
  rw [if_pos e0]
  show [e 0,e 1066,e 1067,e 1068,0,0,0,0]=_
  rw [show e 1066=(negV (e 1) (e 2) (e 3)).getD 0 0 from a1,show e 1067=(negV (e 1) (e 2) (e 3)).getD 1 0 from a2,show e 1068=(negV (e 1) (e 2) (e 3)).getD 2 0 from a3,hn,e0]; rfl
 ·have n0:¬ e 0=0:=b_no b1065 h
  obtain ⟨hl,_,hin⟩:=keyOk_L hok n0
  refine ⟨⟨hl,hin.1⟩,fun a1 _ a2 _ a3 _ a4 _=>?_⟩
  rw [if_neg n0]
  show [e 0,0,0,0,e 1066,e 1067,e 1068,0]=_
  rw [show e 1066=e 4 from a1,show e 1067=(-e 5) % pL (e 0) from a2,show e 1068=e 6 from a3]
theorem readKey_0 {s:Int} (h:s=0) (b:List Int):readKey s b=keyP (read1V b):=if_pos h
theorem readKey_L {s:Int} (h:isL s) (b:List Int):readKey s b=keyL s (readLV (pL s) (rOf s) b):=by
 unfold readKey
 rw [if_neg (by rcases h with h | h <;> omega),if_pos (show s=1 ∨ s=2 from h)]
theorem readKey_n {s:Int} (h0:¬ s=0) (h:¬ isL s) (b:List Int):readKey s b=[0,0,0,0,0,0,0,2]:=by
 unfold readKey
 rw [if_neg h0,if_neg (show ¬ (s=1 ∨ s=2) from h)]
def tRKeyMay:Tree:=(.lett 7 .bit (.cmp .eql (.var 0) (.lit 0))
(.split 7
(.lett 8 .bit (.eqs [((.var 4),(.lit 0)),((.var 5),(.lit 0)),((.var 6),(.lit 0))])
(.split 8
 (.req 0 [.var 1,.var 2,.var 3]
 (.lett 9 .bit (.app 0 0 [.var 1,.var 2,.var 3])
 (.ret [.var 9])))
 (.ret [.lit 0])))
(.req 1 [.var 0]
(.lett 8 (.int .u64) (.app 1 0 [.var 0])
(.lett 9 (.int .u64) (.app 1 1 [.var 0])
(.lett 10 (.int .u64) (.app 1 2 [.var 0])
(.lett 11 (.int .u64) (.app 1 3 [.var 0])
(.lett 12 (.int .u64) (.app 1 4 [.var 0])
(.lett 13 .bit (.app 1 5 [.var 0])
(.lett 14 .bit (.app 1 6 [.var 0])
(.split 14
 (.lett 15 .bit (.eqs [((.limb 1 0),(.lit 0)),((.limb 1 1),(.lit 0)),((.limb 1 2),(.lit 0)),((.limb 1 3),(.lit 0)),((.limb 1 4),(.lit 0)),((.limb 1 5),(.lit 0)),((.limb 2 0),(.lit 0)),((.limb 2 1),(.lit 0)),((.limb 2 2),(.lit 0)),((.limb 2 3),(.lit 0)),((.limb 2 4),(.lit 0)),((.limb 2 5),(.lit 0)),((.var 3),(.lit 0))])
 (.split 15
 (.req 2 [.var 8,.var 9,.var 10,.var 11,.var 12,.var 13,.var 4,.var 5,.var 6]
 (.lett 16 .bit (.app 2 0 [.var 8,.var 9,.var 10,.var 11,.var 12,.var 13,.var 4,.var 5,.var 6])
 (.ret [.var 16])))
 (.ret [.lit 0])))
 (.ret [.lit 0]))))))))))))
theorem law_rKeyMay (f1 f2 f3 f:FuncId) (e:Nat → Int) (hk:kkHas [.int .i64,.num,.num,.bit,.int .u64,.int .u64,.bit] [e 0,e 1,e 2,e 3,e 4,e 5,e 6]):tRKeyMay.says [kInG1 f1,kLOf f2,kCIn f3] ⟨fun ys=>ys=(kKeyChk f).sem [e 0,e 1,e 2,e 3,e 4,e 5,e 6],[]⟩ e:=by
 obtain ⟨_,u1,u2,_⟩:=hk
 simp only [KK.has] at u1 u2
 show tRKeyMay.says _ ⟨fun ys=>ys=[bj (keyOk (e 0) (e 1) (e 2) (e 3) (e 4) (e 5) (e 6))],[]⟩ e
 intro a7 _
 have b7:=c_eq a7
 simp only [ev_var,ev_lit] at b7
 refine ⟨fun h7=>?_,fun h7=>?_⟩
 ·have e0:e 0=0:=b_yes b7 h7
  intro a8 _
  have b8:=c_l1 a8
  refine ⟨fun h8=>⟨trivial,fun a9 _=>?_⟩,fun h8=>?_⟩
  ·have v9:e 9=bj (inG (e 1) (e 2) (e 3)):=a9
   show [e 9]=_
   rw [v9]
   exact congrArg (fun x=>[x]) (bj_iff ⟨fun h=>.inl ⟨e0,b_yes b8 h8,h⟩,fun h=>(keyOk_0 h e0).2⟩)
  ·show [(0:Int)]=_
   rw [bj_f (fun h=>b_no b8 h8 (keyOk_0 h e0).1)]
 ·have n0:¬ e 0=0:=b_no b7 h7
  refine ⟨trivial,fun a8 _ a9 _ a10 _ a11 _ a12 _ a13 _ a14 _=>?_⟩
  have v14:e 14=bj (isL (e 0)):=(show e 14=(cvL (e 0)).getD 6 0 from a14).trans (isL_6 _)
  refine ⟨fun h=>?_,fun h=>?_⟩
  ·have hl:=bj_nz v14 h
   have v8:e 8=pL (e 0):=by rw [show e 8=(cvL (e 0)).getD 0 0 from a8,cvL_t hl]; rfl
   have v9:e 9=rOf (e 0):=by rw [show e 9=(cvL (e 0)).getD 1 0 from a9,cvL_t hl]; rfl
   intro a15 _
   have b15:=c_p1 a15 u1 u2
   refine ⟨fun h=>⟨by show prP (e 8); rw [v8]; exact pL_pr hl,fun a16 _=>?_⟩,fun h=>?_⟩
   ·have v16:e 16=bi (inP (e 8) (e 9) (e 4) (e 5) (e 6)):=a16
    have hz:e 1=0 ∧ e 2=0 ∧ e 3=0:=by omega
    show [e 16]=_
    rw [v16,bi_bj,v8,v9]
    exact congrArg (fun x=>[x]) (bj_iff ⟨fun h=>.inr ⟨hl,hz,h⟩,fun h=>(keyOk_L h n0).2.2⟩)
   ·have hz:¬ (e 1=0 ∧ e 2=0 ∧ e 3=0):=by omega
    show [(0:Int)]=_
    rw [bj_f (fun h=>hz (keyOk_L h n0).2.1)]
  ·show [(0:Int)]=_
   rw [bj_f (fun hh=>bj_z v14 h (keyOk_L hh n0).1)]
theorem tk_l (a:Pt) (s:Int):([s,0,0,0] ++ a.l ++ [0]).take 7=[s,0,0,0] ++ a.l:=rfl
theorem tk_v (P:J Int):([(0:Int)] ++ lowV P ++ [0,0,0,0]).take 7=[0] ++ lowV P ++ [0,0,0]:=rfl
theorem onL_of {p x y z:Int} (h:onP p x y z) (hx:0 ≤ x) (hy:0 ≤ y) (hz:0 ≤ z ∧ z ≤ 1):onL p ⟨x,y,z⟩:=⟨h,⟨hx,hy⟩,(by show z=0 ∨ z=1; omega)⟩
def tRKeyAdd:Tree:=(.lett 14 .bit (.cmp .eql (.var 0) (.lit 0))
(.split 14
(.req 0 [.var 1,.var 2,.var 3,.var 8,.var 9,.var 10]
(.lett 303 .num (.app 0 0 [.var 1,.var 2,.var 3,.var 8,.var 9,.var 10])
(.lett 304 .num (.app 0 1 [.var 1,.var 2,.var 3,.var 8,.var 9,.var 10])
(.lett 305 .bit (.app 0 2 [.var 1,.var 2,.var 3,.var 8,.var 9,.var 10])
(.ret [.var 0,.var 303,.var 304,.var 305,.lit 0,.lit 0,.lit 0])))))
(.req 1 [.var 0]
(.lett 15 (.int .u64) (.app 1 0 [.var 0])
(.lett 16 (.int .u64) (.app 1 1 [.var 0])
(.lett 17 (.int .u64) (.app 1 2 [.var 0])
(.lett 18 (.int .u64) (.app 1 3 [.var 0])
(.lett 19 (.int .u64) (.app 1 4 [.var 0])
(.lett 20 .bit (.app 1 5 [.var 0])
(.lett 21 .bit (.app 1 6 [.var 0])
(.req 2 [.var 15,.var 16,.var 17,.var 18,.var 19,.var 20,.var 4,.var 5,.var 6,.var 11,.var 12,.var 13]
(.lett 358 (.int .u64) (.app 2 0 [.var 15,.var 16,.var 17,.var 18,.var 19,.var 20,.var 4,.var 5,.var 6,.var 11,.var 12,.var 13])
(.lett 359 (.int .u64) (.app 2 1 [.var 15,.var 16,.var 17,.var 18,.var 19,.var 20,.var 4,.var 5,.var 6,.var 11,.var 12,.var 13])
(.lett 360 .bit (.app 2 2 [.var 15,.var 16,.var 17,.var 18,.var 19,.var 20,.var 4,.var 5,.var 6,.var 11,.var 12,.var 13])
(.ret [.var 0,.lit 0,.lit 0,.lit 0,.var 358,.var 359,.var 360])))))))))))))))
theorem law_rKeyAdd (f1 f2 f3 f:FuncId) (e:Nat → Int) (hk:kkHas [.int .i64,.num,.num,.bit,.int .u64,.int .u64,.bit,.int .i64,.num,.num,.bit,.int .u64,.int .u64,.bit] [e 0,e 1,e 2,e 3,e 4,e 5,e 6,e 7,e 8,e 9,e 10,e 11,e 12,e 13]) (hp:(kRKAdd f).pre [e 0,e 1,e 2,e 3,e 4,e 5,e 6,e 7,e 8,e 9,e 10,e 11,e 12,e 13]):tRKeyAdd.says [kRAdd1 f1,kLOf f2,kCAddP f3] ⟨fun ys=>ys=(kRKAdd f).sem [e 0,e 1,e 2,e 3,e 4,e 5,e 6,e 7,e 8,e 9,e 10,e 11,e 12,e 13],[]⟩ e:=by
 obtain ⟨h1,h2,hs⟩:keyOk (e 0) (e 1) (e 2) (e 3) (e 4) (e 5) (e 6) ∧ keyOk (e 7) (e 8) (e 9) (e 10) (e 11) (e 12) (e 13) ∧ e 0=e 7:=hp
 obtain ⟨_,_,_,_,k4,k5,k6,_,_,_,_,k11,k12,k13,_⟩:=hk
 show tRKeyAdd.says _ ⟨fun ys=>ys=(keyAdd (e 0) (e 1) (e 2) (e 3) (e 4) (e 5) (e 6) (e 7) (e 8) (e 9) (e 10) (e 11) (e 12) (e 13)).take 7,[]⟩ e
 unfold keyAdd
 rw [if_neg (fun hc=>hc.elim (fun k=>k h1) (fun k=>k h2)),if_neg (fun hc=>hc hs)]
 intro a14 _
 have b14:=c_eq a14
 simp only [ev_var,ev_lit] at b14
 refine ⟨fun h=>?_,fun h=>?_⟩
 ·have e0:e 0=0:=b_yes b14 h
  refine ⟨⟨(keyOk_0 h1 e0).2.1,(keyOk_0 h2 (by omega)).2.1⟩,fun a1 _ a2 _ a3 _=>?_⟩
  rw [if_pos e0,tk_v]
  have hr:[e 303,e 304,e 305]=lowV (sumJ R1 (rsV (e 1) (e 2) (e 3)) (rsV (e 8) (e 9) (e 10))):=by
   rw [show e 303=_ from a1,show e 304=_ from a2,show e 305=_ from a3]; rfl
  show [e 0,e 303,e 304,e 305,0,0,0]=_
  rw [← hr,e0]; rfl
 ·have n0:¬ e 0=0:=b_no b14 h
  obtain ⟨hl,_,hin⟩:=keyOk_L h1 n0
  have hin':=(keyOk_L h2 (by omega)).2.2
  rw [← hs] at hin'
  refine ⟨trivial,fun a15 _ a16 _ a17 _ a18 _ a19 _ a20 _ a21 _=>?_⟩
  have v15:e 15=pL (e 0):=by rw [show e 15=(cvL (e 0)).getD 0 0 from a15,cvL_t hl]; rfl
  refine ⟨by show prP (e 15) ∧ onL (e 15) ⟨e 4,e 5,e 6⟩ ∧ onL (e 15) ⟨e 11,e 12,e 13⟩; rw [v15]; exact ⟨pL_pr hl,onL_of hin.1 (has_u64 k4).1 (has_u64 k5).1 k6,onL_of hin'.1 (has_u64 k11).1 (has_u64 k12).1 k13⟩,fun a1 _ a2 _ a3 _=>?_⟩
  rw [if_neg n0,tk_l]
  have hr:[e 358,e 359,e 360]=(sumP (e 15) ⟨e 4,e 5,e 6⟩ ⟨e 11,e 12,e 13⟩).l:=by
   rw [show e 358=_ from a1,show e 359=_ from a2,show e 360=_ from a3]; rfl
  rw [v15] at hr
  show [e 0,0,0,0,e 358,e 359,e 360]=_
  rw [← hr]; rfl
theorem mulV_rs {x y z n:Int} (h:onV x y z) (hz:0 ≤ z ∧ z ≤ 1):mulV x y z n=lowV (tmJ R1 (rsV x y z) 384 n.toNat):=by
 unfold mulV rsV
 by_cases h0:z=0
 ·rw [if_pos h0,if_pos h0]
 ·rw [if_neg h0,if_neg h0]
  have h2:=h.2
  rw [if_neg h0] at h2
  unfold lowV lowJ
  rw [if_pos (tm_o 384 n.toNat),h2.1,h2.2,show z=1 by omega]; rfl
def tRKeyMul:Tree:=(.lett 8 .bit (.cmp .eql (.var 0) (.lit 0))
(.split 8
(.req 0 [.var 1,.var 2,.var 3,.var 7]
(.lett 249 .num (.app 0 0 [.var 1,.var 2,.var 3,.var 7])
(.lett 250 .num (.app 0 1 [.var 1,.var 2,.var 3,.var 7])
(.lett 251 .bit (.app 0 2 [.var 1,.var 2,.var 3,.var 7])
(.ret [.var 0,.var 249,.var 250,.var 251,.lit 0,.lit 0,.lit 0])))))
(.req 1 [.var 0]
(.lett 9 (.int .u64) (.app 1 0 [.var 0])
(.lett 10 (.int .u64) (.app 1 1 [.var 0])
(.lett 11 (.int .u64) (.app 1 2 [.var 0])
(.lett 12 (.int .u64) (.app 1 3 [.var 0])
(.lett 13 (.int .u64) (.app 1 4 [.var 0])
(.lett 14 .bit (.app 1 5 [.var 0])
(.lett 15 .bit (.app 1 6 [.var 0])
(.req 2 [.var 9,.var 10,.var 11,.var 12,.var 13,.var 14,.var 4,.var 5,.var 6,.limb 7 0]
(.lett 352 (.int .u64) (.app 2 0 [.var 9,.var 10,.var 11,.var 12,.var 13,.var 14,.var 4,.var 5,.var 6,.limb 7 0])
(.lett 353 (.int .u64) (.app 2 1 [.var 9,.var 10,.var 11,.var 12,.var 13,.var 14,.var 4,.var 5,.var 6,.limb 7 0])
(.lett 354 .bit (.app 2 2 [.var 9,.var 10,.var 11,.var 12,.var 13,.var 14,.var 4,.var 5,.var 6,.limb 7 0])
(.ret [.var 0,.lit 0,.lit 0,.lit 0,.var 352,.var 353,.var 354])))))))))))))))
theorem law_rKeyMul (f1 f2 f3 f:FuncId) (e:Nat → Int) (hk:kkHas [.int .i64,.num,.num,.bit,.int .u64,.int .u64,.bit,.num] [e 0,e 1,e 2,e 3,e 4,e 5,e 6,e 7]) (hp:(kRKMul f).pre [e 0,e 1,e 2,e 3,e 4,e 5,e 6,e 7]):tRKeyMul.says [kRMul1 f1,kLOf f2,kCTimes f3] ⟨fun ys=>ys=(kRKMul f).sem [e 0,e 1,e 2,e 3,e 4,e 5,e 6,e 7],[]⟩ e:=by
 obtain ⟨h1,hn⟩:keyOk (e 0) (e 1) (e 2) (e 3) (e 4) (e 5) (e 6) ∧ e 7 < rOf (e 0):=hp
 obtain ⟨_,_,_,k3,k4,k5,k6,k7,_⟩:=hk
 have h7:0 ≤ e 7:=k7.1
 show tRKeyMul.says _ ⟨fun ys=>ys=(keyMul (e 0) (e 1) (e 2) (e 3) (e 4) (e 5) (e 6) (e 7)).take 7,[]⟩ e
 unfold keyMul
 rw [if_neg (fun hc=>hc h1),if_neg (fun hc=>hc hn)]
 intro a8 _
 have b8:=c_eq a8
 simp only [ev_var,ev_lit] at b8
 refine ⟨fun h=>?_,fun h=>?_⟩
 ·have e0:e 0=0:=b_yes b8 h
  have hg:=(keyOk_0 h1 e0).2.1
  refine ⟨⟨hg.1.1,hg.1.2⟩,fun a1 _ a2 _ a3 _=>?_⟩
  rw [if_pos e0,tk_v,← mulV_rs hg k3]
  have hr:[e 249,e 250,e 251]=mulV (e 1) (e 2) (e 3) (e 7):=by
   rw [show e 249=_ from a1,show e 250=_ from a2,show e 251=_ from a3]
   show [(mulV (e 1) (e 2) (e 3) (e 7)).getD 0 0,(mulV (e 1) (e 2) (e 3) (e 7)).getD 1 0,(mulV (e 1) (e 2) (e 3) (e 7)).getD 2 0]=_
   unfold mulV
   split <;> rfl
  show [e 0,e 249,e 250,e 251,0,0,0]=_
  rw [← hr,e0]; rfl
 ·have n0:¬ e 0=0:=b_no b8 h
  obtain ⟨hl,_,hin⟩:=keyOk_L h1 n0
  refine ⟨trivial,fun a15 _ a16 _ a17 _ a18 _ a19 _ a20 _ a21 _=>?_⟩
  have v9:e 9=pL (e 0):=by rw [show e 9=(cvL (e 0)).getD 0 0 from a15,cvL_t hl]; rfl
  refine ⟨by show prP (e 9) ∧ onL (e 9) ⟨e 4,e 5,e 6⟩; rw [v9]; exact ⟨pL_pr hl,onL_of hin.1 (has_u64 k4).1 (has_u64 k5).1 k6⟩,fun a1 _ a2 _ a3 _=>?_⟩
  rw [if_neg n0,tk_l]
  have hr:[e 352,e 353,e 354]=(mulP (e 9) ⟨e 4,e 5,e 6⟩ 64 (lim (e 7) 0).toNat).l:=by
   rw [show e 352=_ from a1,show e 353=_ from a2,show e 354=_ from a3]; rfl
  rw [lim0 h7 (by have:=rOf_sm64 hl; omega),v9] at hr
  show [e 0,0,0,0,e 352,e 353,e 354]=_
  rw [← hr]; rfl
def tRKeyNeg:Tree:=(.lett 7 .bit (.cmp .eql (.var 0) (.lit 0))
(.split 7
(.req 0 [.var 1,.var 2,.var 3]
(.lett 200 .num (.app 0 0 [.var 1,.var 2,.var 3])
(.lett 201 .num (.app 0 1 [.var 1,.var 2,.var 3])
(.lett 202 .bit (.app 0 2 [.var 1,.var 2,.var 3])
(.ret [.var 0,.var 200,.var 201,.var 202,.lit 0,.lit 0,.lit 0])))))
(.req 1 [.var 0]
(.lett 8 (.int .u64) (.app 1 0 [.var 0])
(.lett 9 (.int .u64) (.app 1 1 [.var 0])
(.lett 10 (.int .u64) (.app 1 2 [.var 0])
(.lett 11 (.int .u64) (.app 1 3 [.var 0])
(.lett 12 (.int .u64) (.app 1 4 [.var 0])
(.lett 13 .bit (.app 1 5 [.var 0])
(.lett 14 .bit (.app 1 6 [.var 0])
(.req 2 [.var 8,.var 9,.var 10,.var 11,.var 12,.var 13,.var 4,.var 5,.var 6]
(.lett 255 (.int .u64) (.app 2 0 [.var 8,.var 9,.var 10,.var 11,.var 12,.var 13,.var 4,.var 5,.var 6])
(.lett 256 (.int .u64) (.app 2 1 [.var 8,.var 9,.var 10,.var 11,.var 12,.var 13,.var 4,.var 5,.var 6])
(.lett 257 .bit (.app 2 2 [.var 8,.var 9,.var 10,.var 11,.var 12,.var 13,.var 4,.var 5,.var 6])
(.ret [.var 0,.lit 0,.lit 0,.lit 0,.var 255,.var 256,.var 257])))))))))))))))
theorem law_rKeyNeg (f1 f2 f3 f:FuncId) (e:Nat → Int) (hp:(kRKNeg f).pre [e 0,e 1,e 2,e 3,e 4,e 5,e 6]):tRKeyNeg.says [kRNeg1 f1,kLOf f2,kCNegP f3] ⟨fun ys=>ys=(kRKNeg f).sem [e 0,e 1,e 2,e 3,e 4,e 5,e 6],[]⟩ e:=by
 have h1:keyOk (e 0) (e 1) (e 2) (e 3) (e 4) (e 5) (e 6):=hp
 show tRKeyNeg.says _ ⟨fun ys=>ys=(keyNeg (e 0) (e 1) (e 2) (e 3) (e 4) (e 5) (e 6)).take 7,[]⟩ e
 unfold keyNeg
 rw [if_neg (fun hc=>hc h1)]
 intro a7 _
 have b7:=c_eq a7
 simp only [ev_var,ev_lit] at b7
 refine ⟨fun h=>?_,fun h=>?_⟩
 ·have e0:e 0=0:=b_yes b7 h
  have hg:=(keyOk_0 h1 e0).2.1
  refine ⟨hg.1.2,fun a1 _ a2 _ a3 _=>?_⟩
  rw [if_pos e0]
  show [e 0,e 200,e 201,e 202,0,0,0]=_
  rw [show e 200=e 1 from a1,show e 201=(-e 2) % bP from a2,show e 202=e 3 from a3,e0]; rfl
 ·have n0:¬ e 0=0:=b_no b7 h
  obtain ⟨hl,_,hin⟩:=keyOk_L h1 n0
  refine ⟨trivial,fun a15 _ a16 _ a17 _ a18 _ a19 _ a20 _ a21 _=>?_⟩
  have v8:e 8=pL (e 0):=by rw [show e 8=(cvL (e 0)).getD 0 0 from a15,cvL_t hl]; rfl
  have hok:=pL_ok (e 0)
  have hlt:=on_lt (show 0 < pL (e 0) by have:=hok.1; omega) hin.1
  refine ⟨by show pOk (e 8) ∧ e 5 < e 8; rw [v8]; exact ⟨hok,hlt.2⟩,fun a1 _ a2 _ a3 _=>?_⟩
  rw [if_neg n0]
  show [e 0,0,0,0,e 255,e 256,e 257]=_
  rw [show e 255=e 4 from a1,show e 256=(-e 5) % e 8 from a2,show e 257=e 6 from a3,v8]; rfl
def tRKeyBytes:Tree:=(.lett 7 .bit (.cmp .eql (.var 0) (.lit 0))
(.split 7
(.req 0 [.var 1,.var 2,.var 3]
(.lett 8 (.lst (.int .u8)) (.app 0 0 [.var 1,.var 2,.var 3])
(.ret [.var 8])))
(.req 1 [.var 4,.var 5,.var 6]
(.lett 8 (.lst (.int .u8)) (.app 1 0 [.var 4,.var 5,.var 6])
(.ret [.var 8])))))
theorem law_rKeyBytes (te:TypeId) (f1 f2 f:FuncId) (e:Nat → Int) (hp:(kRKBytes te f).pre [e 0,e 1,e 2,e 3,e 4,e 5,e 6]):tRKeyBytes.says [kRBytes1 te f1,kCBytes te f2] ⟨fun ys=>ys=(kRKBytes te f).sem [e 0,e 1,e 2,e 3,e 4,e 5,e 6],[]⟩ e:=by
 have hp:e 0=0 → e 1 < bP:=hp
 show tRKeyBytes.says _ ⟨fun ys=>ys=[enc (keyB (e 0) (e 1) (e 2) (e 3) (e 4) (e 5) (e 6))],[]⟩ e
 unfold keyB
 intro a7 _
 have b7:=c_eq a7
 simp only [ev_var,ev_lit] at b7
 refine ⟨fun h=>?_,fun h=>?_⟩
 ·have e0:e 0=0:=b_yes b7 h
  refine ⟨hp e0,fun a8 _=>?_⟩
  rw [if_pos e0]
  exact congrArg (fun x=>[x]) a8
 ·refine ⟨trivial,fun a8 _=>?_⟩
  rw [if_neg (b_no b7 h)]
  exact congrArg (fun x=>[x]) a8
def tRReadKey:Tree:=(.req 0 [.var 0]
(.lett 2 .bit (.app 0 0 [.var 0])
(.lett 3 .bit (.not (.var 2))
(.split 3
(.ret [.lit 0,.lit 0,.lit 0,.lit 0,.lit 0,.lit 0,.lit 0,.lit 2])
(.lett 4 .bit (.cmp .eql (.var 0) (.lit 0))
(.split 4
 (.req 1 [.var 1]
 (.lett 5 .num (.app 1 0 [.var 1])
 (.lett 6 .num (.app 1 1 [.var 1])
 (.lett 7 .bit (.app 1 2 [.var 1])
 (.lett 8 (.int .i64) (.app 1 3 [.var 1])
 (.lett 9 .bit (.cmp .neq (.var 8) (.lit 0))
 (.split 9
 (.ret [.lit 0,.lit 0,.lit 0,.lit 0,.lit 0,.lit 0,.lit 0,.var 8])
 (.ret [.var 0,.var 5,.var 6,.var 7,.lit 0,.lit 0,.lit 0,.lit 0]))))))))
 (.req 2 [.var 0]
 (.lett 5 (.int .u64) (.app 2 0 [.var 0])
 (.lett 6 (.int .u64) (.app 2 1 [.var 0])
 (.lett 7 (.int .u64) (.app 2 2 [.var 0])
 (.lett 8 (.int .u64) (.app 2 3 [.var 0])
 (.lett 9 (.int .u64) (.app 2 4 [.var 0])
 (.lett 10 .bit (.app 2 5 [.var 0])
 (.lett 11 .bit (.app 2 6 [.var 0])
 (.req 3 [.var 5,.var 6,.var 7,.var 8,.var 9,.var 10,.var 1]
 (.lett 12 (.int .u64) (.app 3 0 [.var 5,.var 6,.var 7,.var 8,.var 9,.var 10,.var 1])
 (.lett 13 (.int .u64) (.app 3 1 [.var 5,.var 6,.var 7,.var 8,.var 9,.var 10,.var 1])
 (.lett 14 .bit (.app 3 2 [.var 5,.var 6,.var 7,.var 8,.var 9,.var 10,.var 1])
 (.lett 15 (.int .i64) (.app 3 3 [.var 5,.var 6,.var 7,.var 8,.var 9,.var 10,.var 1])
 (.lett 16 .bit (.cmp .neq (.var 15) (.lit 0))
 (.split 16
 (.ret [.lit 0,.lit 0,.lit 0,.lit 0,.lit 0,.lit 0,.lit 0,.var 15])
 (.ret [.var 0,.lit 0,.lit 0,.lit 0,.var 12,.var 13,.var 14,.lit 0]))))))))))))))))))))))
theorem law_rReadKey (f1 f2 f3 f4 f:FuncId) (e:Nat → Int):tRReadKey.says [kIs f1,kRead1 f2,kLOf f3,kCRead f4] ⟨fun ys=>ys=(kReadKey f).sem [e 0,e 1],[]⟩ e:=by
 obtain ⟨b,hb⟩:∃ b,dec (e 1)=b:=⟨_,rfl⟩
 show tRReadKey.says _ ⟨fun ys=>ys=readKey (e 0) (dec (e 1)),[]⟩ e
 rw [hb]
 refine ⟨trivial,fun a2 _ a3 _=>?_⟩
 have v2:e 2=bi (isS (e 0)):=a2
 rw [bi_bj] at v2
 have b3:=c_not a3
 simp only [ev_var] at b3
 refine ⟨fun h=>?_,fun h=>?_⟩
 ·have hn:=bj_z v2 (b_yes b3 h)
  unfold isS at hn
  rw [readKey_n (by omega) (fun hc=>by rcases hc with h1 | h1 <;> omega)]; rfl
 have hs:=bj_nz v2 (b_no b3 h)
 intro a4 _
 have b4:=c_eq a4
 simp only [ev_var,ev_lit] at b4
 refine ⟨fun h=>?_,fun h=>?_⟩
 ·have e0:e 0=0:=b_yes b4 h
  rw [readKey_0 e0]
  refine ⟨trivial,fun a5 _ a6 _ a7 _ a8 _ a9 _=>?_⟩
  have v5:e 5=(read1V b).getD 0 0:=by rw [← hb]; exact a5
  have v6:e 6=(read1V b).getD 1 0:=by rw [← hb]; exact a6
  have v7:e 7=(read1V b).getD 2 0:=by rw [← hb]; exact a7
  have v8:e 8=(read1V b).getD 3 0:=by rw [← hb]; exact a8
  have b9:=c_ne a9
  simp only [ev_var,ev_lit] at b9
  unfold keyP
  rw [← v5,← v6,← v7,← v8]
  refine ⟨fun h=>?_,fun h=>?_⟩
  ·rw [if_pos (show e 8 ≠ 0 by omega)]; rfl
  ·rw [if_neg (fun hc=>hc (show e 8=0 by omega))]
   show [e 0,e 5,e 6,e 7,0,0,0,0]=_
   rw [e0]
 have n0:¬ e 0=0:=b_no b4 h
 have hl:isL (e 0):=by
  obtain ⟨h1,h2⟩:=hs
  have:e 0=1 ∨ e 0=2:=by omega
  exact this
 rw [readKey_L hl]
 refine ⟨trivial,fun a5 _ a6 _ a7 _ a8 _ a9 _ a10 _ a11 _=>?_⟩
 have v5:e 5=pL (e 0):=by rw [show e 5=(cvL (e 0)).getD 0 0 from a5,cvL_t hl]; rfl
 have v6:e 6=rOf (e 0):=by rw [show e 6=(cvL (e 0)).getD 1 0 from a6,cvL_t hl]; rfl
 refine ⟨by show prP (e 5); rw [v5]; exact pL_pr hl,fun a12 _ a13 _ a14 _ a15 _ a16 _=>?_⟩
 have w12:e 12=(readLV (pL (e 0)) (rOf (e 0)) b).getD 0 0:=by rw [← hb,← v5,← v6]; exact a12
 have w13:e 13=(readLV (pL (e 0)) (rOf (e 0)) b).getD 1 0:=by rw [← hb,← v5,← v6]; exact a13
 have w14:e 14=(readLV (pL (e 0)) (rOf (e 0)) b).getD 2 0:=by rw [← hb,← v5,← v6]; exact a14
 have w15:e 15=(readLV (pL (e 0)) (rOf (e 0)) b).getD 3 0:=by rw [← hb,← v5,← v6]; exact a15
 have b16:=c_ne a16
 simp only [ev_var,ev_lit] at b16
 unfold keyL
 rw [← w12,← w13,← w14,← w15]
 refine ⟨fun h=>?_,fun h=>?_⟩
 ·rw [if_pos (show e 15 ≠ 0 by omega)]; rfl
 ·rw [if_neg (fun hc=>hc (show e 15=0 by omega))]; rfl
end Go.Sx
