/- Part Gm of the proof. -/
import Derived.Test.YtaablkpongjlkaaGreatGl
import Derived.Test.YtaablkpongjlkaaGreatGi
import Derived.Test.YtaablkpongjlkaaGreatGh
set_option linter.unusedVariables false
set_option linter.unusedSimpArgs false
namespace Go.Sx
open Go Go.RowKit
set_option maxRecDepth 100000
def isL (s:Int):Prop:=s=1∨s=2
def cvL (s:Int):List Int:=if s=1 then [786251,65521,12,9723,164643,0,1] else if s=2 then [1152921504606846223,72057594037927889,16,613740293506734924,666621259561003659,0,1] else [0,0,0,0,0,0,0]
def kLOf (f:FuncId):K:={fn:=f,ext:=false,ins:=[iI],outs:=[.agg [.int .u64,.int .u64,.int .u64,.int .u64,.int .u64,.bool],oB],pre:=fun _=>True,sem:=fun | [s]=>cvL s | _=>[] }
def tLOf:Tree:=(.lett 1 .bit (.cmp .eql (.var 0) (.lit 1))
(.split 1
(.ret [.lit 786251,.lit 65521,.lit 12,.lit 9723,.lit 164643,.lit 0,.lit 1])
(.lett 2 .bit (.cmp .eql (.var 0) (.lit 2))
(.split 2
 (.ret [.lit 1152921504606846223,.lit 72057594037927889,.lit 16,.lit 613740293506734924,.lit 666621259561003659,.lit 0,.lit 1])
 (.ret [.lit 0,.lit 0,.lit 0,.lit 0,.lit 0,.lit 0,.lit 0])))))
theorem law_lOf (f:FuncId) (e:Nat->Int):tLOf.says [] ⟨fun ys=>ys=(kLOf f).sem [e 0],[]⟩ e:=by
 show tLOf.says _ ⟨fun ys=>ys=cvL (e 0),[]⟩ e
 intro a1 _
 have b1:=c_eq a1
 refine ⟨fun h=>?_,fun h=>?_⟩
 ·show _=cvL (e 0)
  unfold cvL
  rw [if_pos (show e 0=1 from b_yes b1 h)];rfl
 ·intro a2 _
  have b2:=c_eq a2
  have n1:¬ e 0=1:=b_no b1 h
  refine ⟨fun h=>?_,fun h=>?_⟩
  ·show _=cvL (e 0)
   unfold cvL
   rw [if_neg n1,if_pos (show e 0=2 from b_yes b2 h)];rfl
  ·show _=cvL (e 0)
   unfold cvL
   rw [if_neg n1,if_neg (show ¬ e 0=2 from b_no b2 h)];rfl
theorem pL_ok (s:Int):pOk (pL s):=by
 unfold pL;split <;> exact ⟨by decide,by decide⟩
theorem cvL_t {s:Int} (h:isL s):cvL s=[pL s,rOf s,if s=1 then 12 else 16,if s=1 then 9723 else 613740293506734924,if s=1 then 164643 else 666621259561003659,0,1]:=by
 rcases h with rfl | rfl <;> rfl
theorem cvL_f {s:Int} (h:¬ isL s):cvL s=[0,0,0,0,0,0,0]:=by
 unfold cvL
 rw [if_neg (fun h1=>h (.inl h1)),if_neg (fun h1=>h (.inr h1))]
open Classical in
theorem isL_6 (s:Int):(cvL s).getD 6 0=bj (isL s):=by
 by_cases h:isL s
 ·rw [cvL_t h,bj_t h];rfl
 ·rw [cvL_f h,bj_f h];rfl
theorem bi_bj {p:Prop} [Decidable p]:bi p=bj p:=by
 by_cases h:p
 ·rw [bj_t h];exact if_pos h
 ·rw [bj_f h];exact if_neg h
noncomputable def kLIn2 (f:FuncId):K:={fn:=f,ext:=false,ins:=[iI,iPt],outs:=[oB],pre:=fun _=>True,sem:=fun | [s,x,y,z]=>[bj (isL s/\inP (pL s) (rOf s) x y z)] | _=>[] }
def tLIn2:Tree:=(.req 0 [.var 0]
(.lett 4 (.int .u64) (.app 0 0 [.var 0])
(.lett 5 (.int .u64) (.app 0 1 [.var 0])
(.lett 6 (.int .u64) (.app 0 2 [.var 0])
(.lett 7 (.int .u64) (.app 0 3 [.var 0])
(.lett 8 (.int .u64) (.app 0 4 [.var 0])
(.lett 9 .bit (.app 0 5 [.var 0])
(.lett 10 .bit (.app 0 6 [.var 0])
(.split 10
(.req 1 [.var 4,.var 5,.var 6,.var 7,.var 8,.var 9,.var 1,.var 2,.var 3]
(.lett 11 .bit (.app 1 0 [.var 4,.var 5,.var 6,.var 7,.var 8,.var 9,.var 1,.var 2,.var 3])
(.ret [.var 11])))
(.ret [.lit 0]))))))))))
theorem law_lIn2 (f1 f2 f:FuncId) (e:Nat->Int):tLIn2.says [kLOf f1,kLIn f2] ⟨fun ys=>ys=(kLIn2 f).sem [e 0,e 1,e 2,e 3],[]⟩ e:=by
 show tLIn2.says _ ⟨fun ys=>ys=[bj (isL (e 0)/\inP (pL (e 0)) (rOf (e 0)) (e 1) (e 2) (e 3))],[]⟩ e
 refine ⟨trivial,fun a4 _ a5 _ a6 _ a7 _ a8 _ a9 _ a10 _=>?_⟩
 have v10:e 10=bj (isL (e 0)):=(show e 10=(cvL (e 0)).getD 6 0 from a10).trans (isL_6 _)
 refine ⟨fun h=>?_,fun h=>?_⟩
 ·have hl:=bj_nz v10 h
  have v4:e 4=pL (e 0):=by rw [show e 4=(cvL (e 0)).getD 0 0 from a4,cvL_t hl];rfl
  have v5:e 5=rOf (e 0):=by rw [show e 5=(cvL (e 0)).getD 1 0 from a5,cvL_t hl];rfl
  refine ⟨(by show pOk (e 4);rw [v4];exact pL_ok _),fun a11 _=>?_⟩
  have v11:e 11=bi (inP (e 4) (e 5) (e 1) (e 2) (e 3)):=a11
  show [e 11]=_
  rw [v11,bi_bj,v4,v5]
  exact congrArg (fun x=>[x]) (bj_iff ⟨fun h=>⟨hl,h⟩,fun h=>h.2⟩)
 ·show [(0:Int)]=_
  rw [bj_f fun hh=>bj_z v10 h hh.1]
noncomputable def kLMul2 (f:FuncId):K:={fn:=f,ext:=false,ins:=[iI,iPt,iU],outs:=[.agg [.int .u64,.int .u64,.bool],oI],pre:=fun | [s,x,y,z,_]=>isL s/\onP (pL s) x y z | _=>False,sem:=fun | [s,x,y,z,n]=>(mulP (pL s) ⟨x,y,z⟩ 64 n.toNat).l++[0] | _=>[] }
theorem on_lt {p x y z:Int} (hp:0<p) (h:onP p x y z):x<p/\y<p:=by
 unfold onP at h
 split at h <;> omega
def tLMul2:Tree:=(.req 0 [.var 0]
(.lett 5 (.int .u64) (.app 0 0 [.var 0])
(.lett 6 (.int .u64) (.app 0 1 [.var 0])
(.lett 7 (.int .u64) (.app 0 2 [.var 0])
(.lett 8 (.int .u64) (.app 0 3 [.var 0])
(.lett 9 (.int .u64) (.app 0 4 [.var 0])
(.lett 10 .bit (.app 0 5 [.var 0])
(.lett 11 .bit (.app 0 6 [.var 0])
(.lett 12 .bit (.not (.var 11))
(.split 12
(.ret [.lit 0,.lit 0,.lit 0,.lit 2])
(.req 1 [.var 5,.var 6,.var 7,.var 8,.var 9,.var 10,.var 1,.var 2,.var 3]
(.lett 13 .bit (.app 1 0 [.var 5,.var 6,.var 7,.var 8,.var 9,.var 10,.var 1,.var 2,.var 3])
(.lett 14 .bit (.not (.var 13))
(.split 14
 (.ret [.lit 0,.lit 0,.lit 0,.lit 5])
 (.req 2 [.var 5,.var 6,.var 7,.var 8,.var 9,.var 10,.var 1,.var 2,.var 3,.var 4]
 (.lett 15 (.int .u64) (.app 2 0 [.var 5,.var 6,.var 7,.var 8,.var 9,.var 10,.var 1,.var 2,.var 3,.var 4])
 (.lett 16 (.int .u64) (.app 2 1 [.var 5,.var 6,.var 7,.var 8,.var 9,.var 10,.var 1,.var 2,.var 3,.var 4])
 (.lett 17 .bit (.app 2 2 [.var 5,.var 6,.var 7,.var 8,.var 9,.var 10,.var 1,.var 2,.var 3,.var 4])
 (.ret [.var 15,.var 16,.var 17,.lit 0])))))))))))))))))))
theorem law_lMul2 (f1 f2 f3 f:FuncId) (e:Nat->Int) (hp:(kLMul2 f).pre [e 0,e 1,e 2,e 3,e 4]):tLMul2.says [kLOf f1,kLOn f2,kLTimes f3] ⟨fun ys=>ys=(kLMul2 f).sem [e 0,e 1,e 2,e 3,e 4],[]⟩ e:=by
 obtain ⟨hl,ho⟩:isL (e 0)/\onP (pL (e 0)) (e 1) (e 2) (e 3):=hp
 have hok:=pL_ok (e 0)
 show tLMul2.says _ ⟨fun ys=>ys=(mulP (pL (e 0)) ⟨e 1,e 2,e 3⟩ 64 (e 4).toNat).l++[0],[]⟩ e
 refine ⟨trivial,fun a5 _ a6 _ a7 _ a8 _ a9 _ a10 _ a11 _ a12 _=>?_⟩
 have v5:e 5=pL (e 0):=by rw [show e 5=(cvL (e 0)).getD 0 0 from a5,cvL_t hl];rfl
 have v11:e 11=1:=by rw [show e 11=(cvL (e 0)).getD 6 0 from a11,cvL_t hl];rfl
 have b12:=c_not a12
 simp only [ev_var] at b12
 refine ⟨fun h=>by omega,fun _=>⟨(by show pOk (e 5);rw [v5];exact hok),fun a13 _ a14 _=>?_⟩⟩
 have v13:e 13=bi (onP (e 5) (e 1) (e 2) (e 3)):=a13
 rw [v5,bi_bj,bj_t ho] at v13
 have b14:=c_not a14
 simp only [ev_var] at b14
 have hlt:=on_lt (show 0<pL (e 0) by have:=hok.1;omega) ho
 refine ⟨fun h=>by omega,fun _=>⟨(by show pOk (e 5)/\e 1<e 5/\e 2<e 5;rw [v5];exact ⟨hok,hlt.1,hlt.2⟩),fun a15 _ a16 _ a17 _=>?_⟩⟩
 have hs:[e 15,e 16,e 17]=(mulP (e 5) ⟨e 1,e 2,e 3⟩ 64 (e 4).toNat).l:=by
  rw [show e 15=_ from a15,show e 16=_ from a16,show e 17=_ from a17];rfl
 rw [v5] at hs
 show [e 15,e 16,e 17,0]=_
 rw [<- hs];rfl
noncomputable def kLAdd2 (f:FuncId):K:={fn:=f,ext:=false,ins:=[iI,iPt,iPt],outs:=[.agg [.int .u64,.int .u64,.bool],oI],pre:=fun | [s,x,y,z,x',y',z']=>isL s/\onP (pL s) x y z/\onP (pL s) x' y' z' | _=>False,sem:=fun | [s,x,y,z,x',y',z']=>(sumP (pL s) ⟨x,y,z⟩ ⟨x',y',z'⟩).l++[0] | _=>[] }
def tLAdd2:Tree:=(.req 0 [.var 0]
(.lett 7 (.int .u64) (.app 0 0 [.var 0])
(.lett 8 (.int .u64) (.app 0 1 [.var 0])
(.lett 9 (.int .u64) (.app 0 2 [.var 0])
(.lett 10 (.int .u64) (.app 0 3 [.var 0])
(.lett 11 (.int .u64) (.app 0 4 [.var 0])
(.lett 12 .bit (.app 0 5 [.var 0])
(.lett 13 .bit (.app 0 6 [.var 0])
(.lett 14 .bit (.not (.var 13))
(.split 14
(.ret [.lit 0,.lit 0,.lit 0,.lit 2])
(.req 1 [.var 7,.var 8,.var 9,.var 10,.var 11,.var 12,.var 1,.var 2,.var 3]
(.lett 15 .bit (.app 1 0 [.var 7,.var 8,.var 9,.var 10,.var 11,.var 12,.var 1,.var 2,.var 3])
(.lett 16 .bit (.not (.var 15))
(.split 16
 (.ret [.lit 0,.lit 0,.lit 0,.lit 5])
 (.req 1 [.var 7,.var 8,.var 9,.var 10,.var 11,.var 12,.var 4,.var 5,.var 6]
 (.lett 17 .bit (.app 1 0 [.var 7,.var 8,.var 9,.var 10,.var 11,.var 12,.var 4,.var 5,.var 6])
 (.lett 18 .bit (.not (.var 17))
 (.split 18
 (.ret [.lit 0,.lit 0,.lit 0,.lit 5])
 (.req 2 [.var 7,.var 8,.var 9,.var 10,.var 11,.var 12,.var 1,.var 2,.var 3,.var 4,.var 5,.var 6]
 (.lett 19 (.int .u64) (.app 2 0 [.var 7,.var 8,.var 9,.var 10,.var 11,.var 12,.var 1,.var 2,.var 3,.var 4,.var 5,.var 6])
 (.lett 20 (.int .u64) (.app 2 1 [.var 7,.var 8,.var 9,.var 10,.var 11,.var 12,.var 1,.var 2,.var 3,.var 4,.var 5,.var 6])
 (.lett 21 .bit (.app 2 2 [.var 7,.var 8,.var 9,.var 10,.var 11,.var 12,.var 1,.var 2,.var 3,.var 4,.var 5,.var 6])
 (.ret [.var 19,.var 20,.var 21,.lit 0])))))))))))))))))))))))
theorem law_lAdd2 (f1 f2 f3 f:FuncId) (e:Nat->Int) (hp:(kLAdd2 f).pre [e 0,e 1,e 2,e 3,e 4,e 5,e 6]):tLAdd2.says [kLOf f1,kLOn f2,kLSum f3] ⟨fun ys=>ys=(kLAdd2 f).sem [e 0,e 1,e 2,e 3,e 4,e 5,e 6],[]⟩ e:=by
 obtain ⟨hl,ho,ho'⟩:isL (e 0)/\onP (pL (e 0)) (e 1) (e 2) (e 3)/\onP (pL (e 0)) (e 4) (e 5) (e 6):=hp
 have hok:=pL_ok (e 0)
 show tLAdd2.says _ ⟨fun ys=>ys=(sumP (pL (e 0)) ⟨e 1,e 2,e 3⟩ ⟨e 4,e 5,e 6⟩).l++[0],[]⟩ e
 refine ⟨trivial,fun a7 _ a8 _ a9 _ a10 _ a11 _ a12 _ a13 _ a14 _=>?_⟩
 have v7:e 7=pL (e 0):=by rw [show e 7=(cvL (e 0)).getD 0 0 from a7,cvL_t hl];rfl
 have v13:e 13=1:=by rw [show e 13=(cvL (e 0)).getD 6 0 from a13,cvL_t hl];rfl
 have b14:=c_not a14
 simp only [ev_var] at b14
 refine ⟨fun h=>by omega,fun _=>⟨(by show pOk (e 7);rw [v7];exact hok),fun a15 _ a16 _=>?_⟩⟩
 have v15:e 15=bi (onP (e 7) (e 1) (e 2) (e 3)):=a15
 rw [v7,bi_bj,bj_t ho] at v15
 have b16:=c_not a16
 simp only [ev_var] at b16
 refine ⟨fun h=>by omega,fun _=>⟨(by show pOk (e 7);rw [v7];exact hok),fun a17 _ a18 _=>?_⟩⟩
 have v17:e 17=bi (onP (e 7) (e 4) (e 5) (e 6)):=a17
 rw [v7,bi_bj,bj_t ho'] at v17
 have b18:=c_not a18
 simp only [ev_var] at b18
 have p0:0<pL (e 0):=by have:=hok.1;omega
 have hlt:=on_lt p0 ho
 have hlt':=on_lt p0 ho'
 refine ⟨fun h=>by omega,fun _=>⟨(by show pOk (e 7)/\e 1<e 7/\e 2<e 7/\e 4<e 7/\e 5<e 7;rw [v7];exact ⟨hok,hlt.1,hlt.2,hlt'.1,hlt'.2⟩),fun a19 _ a20 _ a21 _=>?_⟩⟩
 have hs:[e 19,e 20,e 21]=(sumP (e 7) ⟨e 1,e 2,e 3⟩ ⟨e 4,e 5,e 6⟩).l:=by
  rw [show e 19=_ from a19,show e 20=_ from a20,show e 21=_ from a21];rfl
 rw [v7] at hs
 show [e 19,e 20,e 21,0]=_
 rw [<- hs];rfl
theorem c_eqs {T:List K} {e:Nat->Int} {v:Int} {l:List (A×A)} (h:v=(D.eqs l).ev T e):(v=1/\∀ p∈l,p.1.ev e=p.2.ev e)∨(v=0/\¬ ∀ p∈l,p.1.ev e=p.2.ev e):=by
 have h:v=b2i (l.all fun p=>p.1.ev e==p.2.ev e):=h
 by_cases hc:∀ p∈l,p.1.ev e=p.2.ev e
 ·refine .inl ⟨?_,hc⟩
  rw [h,show (l.all fun p=>p.1.ev e==p.2.ev e)=true from List.all_eq_true.2 fun p hp=>beq_iff_eq.2 (hc p hp)];rfl
 ·refine .inr ⟨?_,hc⟩
  have:(l.all fun p=>p.1.ev e==p.2.ev e)=false:=by
   cases hb:(l.all fun p=>p.1.ev e==p.2.ev e) with
   | false=>rfl
   | true=>exact absurd (fun p hp=>beq_iff_eq.1 (List.all_eq_true.1 hb p hp)) hc
  rw [h,this];rfl
theorem c_l1 {T:List K} {e:Nat->Int} {v:Int} {i j k:Nat} (h:v=(D.eqs [(.var i,.lit 0),(.var j,.lit 0),(.var k,.lit 0)]).ev T e):(v=1/\(e i=0/\e j=0/\e k=0))∨(v=0/\¬ (e i=0/\e j=0/\e k=0)):=by
 have hi:(∀ p∈[(A.var i,A.lit 0),(.var j,.lit 0),(.var k,.lit 0)],p.1.ev e=p.2.ev e)↔(e i=0/\e j=0/\e k=0):=by
  constructor
  ·intro h
   exact ⟨h _ (List.mem_cons_self ..),h _ (List.mem_cons_of_mem _ (List.mem_cons_self ..)),h _ (List.mem_cons_of_mem _ (List.mem_cons_of_mem _ (List.mem_cons_self ..)))⟩
  ·rintro ⟨h1,h2,h3⟩ p hp
   simp only [List.mem_cons,List.not_mem_nil,or_false] at hp
   rcases hp with rfl | rfl | rfl
   ·exact h1
   ·exact h2
   ·exact h3
 rcases c_eqs h with ⟨h1,h2⟩ | ⟨h1,h2⟩
 ·exact .inl ⟨h1,hi.1 h2⟩
 ·exact .inr ⟨h1,fun hh=>h2 (hi.2 hh)⟩
def by8 (x:Int):List Int:=[wr .u8 (binE .shr .u64 x 56),wr .u8 (binE .shr .u64 x 48),wr .u8 (binE .shr .u64 x 40),wr .u8 (binE .shr .u64 x 32),wr .u8 (binE .shr .u64 x 24),wr .u8 (binE .shr .u64 x 16),wr .u8 (binE .shr .u64 x 8),wr .u8 (binE .shr .u64 x 0)]
def bytesL (x y z:Int):List Int:=(if z=0 then 0 else 1)::(by8 x++by8 y)
def rdF (b:List Int) (o:Nat):Nat->Int
 | 0=>0
 | n+1=>binE .or .u64 (binE .shl .u64 (rdF b o n) 8) (b.getD (o+n) 0)
def readLV (p r:Int) (b:List Int):List Int :=
 if b.length≠17 then [0,0,0,4]
 else if b.getD 0 0 > 1∨¬ onP p (rdF b 1 8) (rdF b 9 8) (bi (b.getD 0 0=1)) then [0,0,0,4]
 else if inP p r (rdF b 1 8) (rdF b 9 8) (bi (b.getD 0 0=1)) then [rdF b 1 8,rdF b 9 8,bi (b.getD 0 0=1),0] else [0,0,0,5]
def kWritten (f:FuncId):K:={fn:=f,ext:=false,ins:=[iPt],outs:=[.agg (List.replicate 17 (.int .u8))],pre:=fun _=>True,sem:=fun | [x,y,z]=>bytesL x y z | _=>[] }
def kCBytes (te:TypeId) (f:FuncId):K:={fn:=f,ext:=false,ins:=[iPt],outs:=[.lst te (.int .u8)],pre:=fun _=>True,sem:=fun | [x,y,z]=>[enc (bytesL x y z)] | _=>[] }
noncomputable def kLRead (f:FuncId):K:={fn:=f,ext:=false,ins:=[iI,.lst (.int .u8)],outs:=[.agg [.int .u64,.int .u64,.bool],oI],pre:=fun | [s,_]=>isL s | _=>False,sem:=fun | [s,l]=>readLV (pL s) (rOf s) (dec l) | _=>[] }
noncomputable def kCRead (f:FuncId):K:={fn:=f,ext:=false,ins:=[iC,.lst (.int .u8)],outs:=[.agg [.int .u64,.int .u64,.bool],oI],pre:=fun | [p,_,_,_,_,_,_]=>prP p | _=>False,sem:=fun | [p,r,_,_,_,_,l]=>readLV p r (dec l) | _=>[] }
theorem pL_pr {s:Int} (h:isL s):prP (pL s):=by rcases h with rfl | rfl;exact .inl rfl;exact .inr rfl
theorem bi_eq {T:List K} {e:Nat->Int} {v:Int} {a b:A} (h:v=(D.cmp .eql a b).ev T e):v=bi (a.ev e=b.ev e):=by
 have h:v=b2i (a.ev e==b.ev e):=h
 rw [h];unfold bi b2i
 by_cases hc:a.ev e=b.ev e
 ·rw [if_pos hc];simp [hc]
 ·rw [if_neg hc];simp [hc]
def wrT (z:Int):Tree:=(.lett 435 (.int .u64) (.bin .shr .u64 (.var 0) (.lit 56)) (.lett 483 (.int .u8) (.conv .u8 (.var 435)) (.lett 771 (.int .u64) (.bin .shr .u64 (.var 1) (.lit 56)) (.lett 819 (.int .u8) (.conv .u8 (.var 771)) (.lett 1491 (.int .u64) (.bin .shr .u64 (.var 0) (.lit 48)) (.lett 1539 (.int .u8) (.conv .u8 (.var 1491)) (.lett 1827 (.int .u64) (.bin .shr .u64 (.var 1) (.lit 48)) (.lett 1875 (.int .u8) (.conv .u8 (.var 1827)) (.lett 2547 (.int .u64) (.bin .shr .u64 (.var 0) (.lit 40)) (.lett 2595 (.int .u8) (.conv .u8 (.var 2547)) (.lett 2883 (.int .u64) (.bin .shr .u64 (.var 1) (.lit 40)) (.lett 2931 (.int .u8) (.conv .u8 (.var 2883)) (.lett 3603 (.int .u64) (.bin .shr .u64 (.var 0) (.lit 32)) (.lett 3651 (.int .u8) (.conv .u8 (.var 3603)) (.lett 3939 (.int .u64) (.bin .shr .u64 (.var 1) (.lit 32)) (.lett 3987 (.int .u8) (.conv .u8 (.var 3939)) (.lett 4659 (.int .u64) (.bin .shr .u64 (.var 0) (.lit 24)) (.lett 4707 (.int .u8) (.conv .u8 (.var 4659)) (.lett 4995 (.int .u64) (.bin .shr .u64 (.var 1) (.lit 24)) (.lett 5043 (.int .u8) (.conv .u8 (.var 4995)) (.lett 5715 (.int .u64) (.bin .shr .u64 (.var 0) (.lit 16)) (.lett 5763 (.int .u8) (.conv .u8 (.var 5715)) (.lett 6051 (.int .u64) (.bin .shr .u64 (.var 1) (.lit 16)) (.lett 6099 (.int .u8) (.conv .u8 (.var 6051)) (.lett 6771 (.int .u64) (.bin .shr .u64 (.var 0) (.lit 8)) (.lett 6819 (.int .u8) (.conv .u8 (.var 6771)) (.lett 7107 (.int .u64) (.bin .shr .u64 (.var 1) (.lit 8)) (.lett 7155 (.int .u8) (.conv .u8 (.var 7107)) (.lett 7827 (.int .u64) (.bin .shr .u64 (.var 0) (.lit 0)) (.lett 7875 (.int .u8) (.conv .u8 (.var 7827)) (.lett 8163 (.int .u64) (.bin .shr .u64 (.var 1) (.lit 0)) (.lett 8211 (.int .u8) (.conv .u8 (.var 8163)) (.ret [.lit z,.var 483,.var 1539,.var 2595,.var 3651,.var 4707,.var 5763,.var 6819,.var 7875,.var 819,.var 1875,.var 2931,.var 3987,.var 5043,.var 6099,.var 7155,.var 8211])))))))))))))))))))))))))))))))))
theorem wrT_says (z:Int) (e:Nat->Int):(wrT z).says [] ⟨fun ys=>ys=z::(by8 (e 0)++by8 (e 1)),[]⟩ e:=by
 intro a435 _ a483 _ a771 _ a819 _ a1491 _ a1539 _ a1827 _ a1875 _ a2547 _ a2595 _ a2883 _ a2931 _ a3603 _ a3651 _ a3939 _ a3987 _ a4659 _ a4707 _ a4995 _ a5043 _ a5715 _ a5763 _ a6051 _ a6099 _ a6771 _ a6819 _ a7107 _ a7155 _ a7827 _ a7875 _ a8163 _ a8211 _
 show [z,e 483,e 1539,e 2595,e 3651,e 4707,e 5763,e 6819,e 7875,e 819,e 1875,e 2931,e 3987,e 5043,e 6099,e 7155,e 8211]=_
 rw [show e 483=wr .u8 (binE .shr .u64 (e 0) 56) by rw [show e 483=wr .u8 (e 435) from a483];exact congrArg (wr .u8) a435,show e 819=wr .u8 (binE .shr .u64 (e 1) 56) by rw [show e 819=wr .u8 (e 771) from a819];exact congrArg (wr .u8) a771,show e 1539=wr .u8 (binE .shr .u64 (e 0) 48) by rw [show e 1539=wr .u8 (e 1491) from a1539];exact congrArg (wr .u8) a1491,show e 1875=wr .u8 (binE .shr .u64 (e 1) 48) by rw [show e 1875=wr .u8 (e 1827) from a1875];exact congrArg (wr .u8) a1827,show e 2595=wr .u8 (binE .shr .u64 (e 0) 40) by rw [show e 2595=wr .u8 (e 2547) from a2595];exact congrArg (wr .u8) a2547,show e 2931=wr .u8 (binE .shr .u64 (e 1) 40) by rw [show e 2931=wr .u8 (e 2883) from a2931];exact congrArg (wr .u8) a2883,show e 3651=wr .u8 (binE .shr .u64 (e 0) 32) by rw [show e 3651=wr .u8 (e 3603) from a3651];exact congrArg (wr .u8) a3603,show e 3987=wr .u8 (binE .shr .u64 (e 1) 32) by rw [show e 3987=wr .u8 (e 3939) from a3987];exact congrArg (wr .u8) a3939,show e 4707=wr .u8 (binE .shr .u64 (e 0) 24) by rw [show e 4707=wr .u8 (e 4659) from a4707];exact congrArg (wr .u8) a4659,show e 5043=wr .u8 (binE .shr .u64 (e 1) 24) by rw [show e 5043=wr .u8 (e 4995) from a5043];exact congrArg (wr .u8) a4995,show e 5763=wr .u8 (binE .shr .u64 (e 0) 16) by rw [show e 5763=wr .u8 (e 5715) from a5763];exact congrArg (wr .u8) a5715,show e 6099=wr .u8 (binE .shr .u64 (e 1) 16) by rw [show e 6099=wr .u8 (e 6051) from a6099];exact congrArg (wr .u8) a6051,show e 6819=wr .u8 (binE .shr .u64 (e 0) 8) by rw [show e 6819=wr .u8 (e 6771) from a6819];exact congrArg (wr .u8) a6771,show e 7155=wr .u8 (binE .shr .u64 (e 1) 8) by rw [show e 7155=wr .u8 (e 7107) from a7155];exact congrArg (wr .u8) a7107,show e 7875=wr .u8 (binE .shr .u64 (e 0) 0) by rw [show e 7875=wr .u8 (e 7827) from a7875];exact congrArg (wr .u8) a7827,show e 8211=wr .u8 (binE .shr .u64 (e 1) 0) by rw [show e 8211=wr .u8 (e 8163) from a8211];exact congrArg (wr .u8) a8163]
 rfl
def tWritten:Tree:=.split 2 (wrT 1) (wrT 0)
theorem law_written (f:FuncId) (e:Nat->Int):tWritten.says [] ⟨fun ys=>ys=(kWritten f).sem [e 0,e 1,e 2],[]⟩ e:=by
 show tWritten.says [] ⟨fun ys=>ys=bytesL (e 0) (e 1) (e 2),[]⟩ e
 unfold bytesL
 refine ⟨fun h=>?_,fun h=>?_⟩
 ·rw [if_neg h];exact wrT_says 1 e
 ·rw [if_pos h];exact wrT_says 0 e
def apT:List (Nat×Int)->Nat->Nat->Tree
 | [],p,_=>.ret [.var p]
 | x::r,p,n=>.lett n (.int .u64) (.bin .shr .u64 (.var x.1) (.lit x.2)) (.lett (n+1) (.int .u8) (.conv .u8 (.var n)) (.lett (n+2) (.int .i64) (.llen (.var p)) (.lett (n+3) .bit (.cmp .lss (.var (n+2)) (.lit 4294967296)) (.nz (.var (n+3)) (.lett (n+4) (.lst (.int .u8)) (.lapp (.var p) [.var (n+1)]) (apT r (n+4) (n+5)))))))
theorem apT_says {e:Nat->Int}:∀ (r:List (Nat×Int)) (p n:Nat) (l:List Int),e p=enc l->l.length+r.length<=1000->(apT r p n).says [] ⟨fun ys=>ys=[enc (l++r.map fun x=>wr .u8 (binE .shr .u64 (e x.1) x.2))],[]⟩ e
 | [],p,n,l,h,_=>by show [e p]=_;rw [h];simp
 | x::r,p,n,l,h,hl=>by
  intro a0 _ a1 _ a2 _ a3 _
  have d:dec (e p)=l:=by rw [h,dec_enc]
  have v2:e (n+2)=(l.length:Int):=by rw [<- d];exact a2
  simp only [List.length_cons] at hl
  refine ⟨lt_nz a3 (by show e (n+2)<4294967296;omega),fun a4 _=>?_⟩
  have v1:e (n+1)=wr .u8 (binE .shr .u64 (e x.1) x.2):=by rw [show e (n+1)=wr .u8 (e n) from a1];exact congrArg (wr .u8) a0
  have h4:e (n+4)=enc (l++[wr .u8 (binE .shr .u64 (e x.1) x.2)]):=by rw [<- v1,<- d];exact a4
  have:=apT_says r (n+4) (n+5) _ h4 (by simp only [List.length_append,List.length_cons,List.length_nil];omega)
  rw [List.append_assoc] at this
  exact this
def cbT (z:Int):Tree:=.lett 3 (.int .u64) (.bin .shr .u64 (.var 0) (.lit 56)) (.lett 4 (.int .u8) (.conv .u8 (.var 3)) (.lett 5 (.lst (.int .u8)) (.lapp (.lit 0) [.lit z]) (.lett 6 (.int .i64) (.llen (.var 5)) (.lett 7 .bit (.cmp .lss (.var 6) (.lit 4294967296)) (.nz (.var 7) (.lett 8 (.lst (.int .u8)) (.lapp (.var 5) [.var 4])
 (apT [(0,48),(0,40),(0,32),(0,24),(0,16),(0,8),(0,0),(1,56),(1,48),(1,40),(1,32),(1,24),(1,16),(1,8),(1,0)] 8 9)))))))
theorem cbT_says (z:Int) (e:Nat->Int):(cbT z).says [] ⟨fun ys=>ys=[enc (z::(by8 (e 0)++by8 (e 1)))],[]⟩ e:=by
 intro a3 _ a4 _ a5 _ a6 _ a7 _
 have d5:dec (e 5)=[z]:=by rw [show e 5=enc (dec 0++[z]) from a5,dec_enc,dec_zero];rfl
 have v6:e 6=1:=by rw [show e 6=((dec (e 5)).length:Int) from a6,d5];rfl
 refine ⟨lt_nz a7 (by show e 6<4294967296;omega),fun a8 _=>?_⟩
 have v4:e 4=wr .u8 (binE .shr .u64 (e 0) 56):=by rw [show e 4=wr .u8 (e 3) from a4];exact congrArg (wr .u8) a3
 have h8:e 8=enc [z,wr .u8 (binE .shr .u64 (e 0) 56)]:=by rw [<- v4,show e 8=enc (dec (e 5)++[e 4]) from a8,d5];rfl
 exact apT_says _ 8 9 _ h8 (by simp)
def tCBytes:Tree:=.split 2 (cbT 1) (cbT 0)
theorem law_cBytes (te:TypeId) (f:FuncId) (e:Nat->Int):tCBytes.says [] ⟨fun ys=>ys=(kCBytes te f).sem [e 0,e 1,e 2],[]⟩ e:=by
 show tCBytes.says [] ⟨fun ys=>ys=[enc (bytesL (e 0) (e 1) (e 2))],[]⟩ e
 unfold bytesL
 refine ⟨fun h=>?_,fun h=>?_⟩
 ·rw [if_neg h];exact cbT_says 1 e
 ·rw [if_pos h];exact cbT_says 0 e
def tLRead:Tree:=(.req 0 [.var 0]
(.lett 2 (.int .u64) (.app 0 0 [.var 0])
(.lett 3 (.int .u64) (.app 0 1 [.var 0])
(.lett 4 (.int .u64) (.app 0 2 [.var 0])
(.lett 5 (.int .u64) (.app 0 3 [.var 0])
(.lett 6 (.int .u64) (.app 0 4 [.var 0])
(.lett 7 .bit (.app 0 5 [.var 0])
(.lett 8 .bit (.app 0 6 [.var 0])
(.lett 9 .bit (.not (.var 8))
(.split 9
(.ret [.lit 0,.lit 0,.lit 0,.lit 2])
(.lett 10 (.int .i64) (.llen (.var 1))
(.lett 11 .bit (.cmp .neq (.var 10) (.lit 17))
(.split 11
 (.ret [.lit 0,.lit 0,.lit 0,.lit 4])
 (.lett 12 (.int .i64) (.llen (.var 1))
 (.lett 13 .bit (.cmp .leq (.lit 0) (.lit 0))
 (.lett 14 .bit (.cmp .lss (.lit 0) (.var 12))
 (.nz (.var 13)
 (.nz (.var 14)
 (.lett 15 (.int .u8) (.lget (.var 1) (.lit 0))
 (.lett 16 .bit (.cmp .eql (.var 15) (.lit 1))
 (.loop [.lit 0,.lit 0,.lit 0,.var 16] [(.int .i64),(.int .u64),(.int .u64),.bit] 17
 (.lett 21 .bit (.cmp .lss (.var 17) (.lit 8))
 (.split 21
 (.lett 118 (.int .u64) (.bin .shl .u64 (.var 18) (.lit 8))
 (.lett 262 (.int .i64) (.bin .add .i64 (.lit 1) (.var 17))
 (.lett 310 (.int .i64) (.llen (.var 1))
 (.lett 311 .bit (.cmp .leq (.lit 0) (.var 262))
 (.lett 312 .bit (.cmp .lss (.var 262) (.var 310))
 (.nz (.var 311)
 (.nz (.var 312)
 (.lett 358 (.int .u8) (.lget (.var 1) (.var 262))
 (.lett 454 (.int .u64) (.bin .or .u64 (.var 118) (.var 358))
 (.lett 598 (.int .u64) (.bin .shl .u64 (.var 19) (.lit 8))
 (.lett 742 (.int .i64) (.bin .add .i64 (.lit 9) (.var 17))
 (.lett 790 (.int .i64) (.llen (.var 1))
 (.lett 791 .bit (.cmp .leq (.lit 0) (.var 742))
 (.lett 792 .bit (.cmp .lss (.var 742) (.var 790))
 (.nz (.var 791)
 (.nz (.var 792)
 (.lett 838 (.int .u8) (.lget (.var 1) (.var 742))
 (.lett 934 (.int .u64) (.bin .or .u64 (.var 598) (.var 838))
 (.lett 1174 (.int .i64) (.bin .add .i64 (.var 17) (.lit 1))
 (.back 0 [.var 1174,.var 454,.var 934,.var 20]))))))))))))))))))))
 (.lett 22 (.int .i64) (.llen (.var 1))
 (.lett 23 .bit (.cmp .leq (.lit 0) (.lit 0))
 (.lett 24 .bit (.cmp .lss (.lit 0) (.var 22))
 (.nz (.var 23)
 (.nz (.var 24)
 (.lett 25 (.int .u8) (.lget (.var 1) (.lit 0))
 (.lett 26 .bit (.cmp .gtr (.var 25) (.lit 1))
 (.split 26
 (.ret [.lit 0,.lit 0,.lit 0,.lit 4])
 (.req 1 [.var 2,.var 3,.var 4,.var 5,.var 6,.var 7,.var 18,.var 19,.var 20]
 (.lett 27 .bit (.app 1 0 [.var 2,.var 3,.var 4,.var 5,.var 6,.var 7,.var 18,.var 19,.var 20])
 (.lett 28 .bit (.not (.var 27))
 (.split 28
 (.ret [.lit 0,.lit 0,.lit 0,.lit 4])
 (.req 2 [.var 2,.var 3,.var 4,.var 5,.var 6,.var 7,.var 18,.var 19,.var 20]
 (.lett 29 .bit (.app 2 0 [.var 2,.var 3,.var 4,.var 5,.var 6,.var 7,.var 18,.var 19,.var 20])
 (.lett 30 .bit (.not (.var 29))
 (.split 30
 (.ret [.lit 0,.lit 0,.lit 0,.lit 5])
 (.ret [.var 18,.var 19,.var 20,.lit 0]))))))))))))))))))))))))))))))))))))))))
theorem law_lRead (f1 f2 f3 f:FuncId) (e:Nat->Int) (hp:(kLRead f).pre [e 0,e 1]):tLRead.says [kLOf f1,kLOn f2,kLIn f3] ⟨fun ys=>ys=(kLRead f).sem [e 0,e 1],[]⟩ e:=by
 have hl:isL (e 0):=hp
 have hpr:=pL_pr hl
 obtain ⟨b,d1⟩:∃ b,dec (e 1)=b:=⟨_,rfl⟩
 show tLRead.says _ ⟨fun ys=>ys=readLV (pL (e 0)) (rOf (e 0)) (dec (e 1)),[]⟩ e
 rw [d1]
 have len:∀ {v:Int},v=((dec (e 1)).length:Int)->v=(b.length:Int):=fun h=>by rw [h,d1]
 refine ⟨trivial,fun a2 _ a3 _ a4 _ a5 _ a6 _ a7 _ a8 _ a9 _=>?_⟩
 have v2:e 2=pL (e 0):=by rw [show e 2=(cvL (e 0)).getD 0 0 from a2,cvL_t hl];rfl
 have v3:e 3=rOf (e 0):=by rw [show e 3=(cvL (e 0)).getD 1 0 from a3,cvL_t hl];rfl
 have v8:e 8=1:=by rw [show e 8=(cvL (e 0)).getD 6 0 from a8,cvL_t hl];rfl
 have b9:=c_not a9
 simp only [ev_var] at b9
 refine ⟨fun h=>by omega,fun _=>?_⟩
 clear a2 a3 a4 a5 a6 a7 a8 a9 b9 v8
 generalize pL (e 0)=p at *
 generalize rOf (e 0)=r at *
 intro a10 _ a11 _
 have v10:=len a10
 have b11:=c_ne a11
 simp only [ev_var,ev_lit] at b11
 refine ⟨fun h=>?_,fun h=>?_⟩
 ·unfold readLV;rw [if_pos (show b.length≠17 by omega)];rfl
 have hn:b.length=17:=by omega
 have pos:∀ {v:Int},v=((dec (e 1)).length:Int)->v=17:=fun h=>by rw [len h,hn];rfl
 clear b11 h v10 a10 a11
 intro a12 _ a13 _ a14 _
 refine ⟨bit_nz a13 (Int.le_refl _),lt_nz a14 (by show (0:Int)<e 12;rw [pos a12];decide),fun a15 _ a16 _=>?_⟩
 have v15:e 15=b.getD 0 0:=by rw [<- d1];exact a15
 have v16:e 16=bi (b.getD 0 0=1):=by rw [<- v15];exact bi_eq a16
 clear a12 a13 a14 a15 a16 v15
 obtain ⟨z0,hz0⟩:∃ z,z=bi (b.getD 0 0=1):=⟨_,rfl⟩
 rw [<- hz0] at v16
 refine ⟨fun | [i,x,y,z]=>(0<=i/\i<=8)/\x=rdF b 1 i.toNat/\y=rdF b 9 i.toNat/\z=z0 | _=>False,fun | [i,_,_,_]=>(8-i).toNat | _=>0,⟨⟨Int.le_refl _,(show (0:Int)<=8 by decide)⟩,rfl,rfl,v16⟩,fun e' he hkk hI=>?_⟩
 obtain ⟨⟨i0,i1⟩,qx,qy,qz⟩:(0<=e' 17/\e' 17<=8)/\e' 18=rdF b 1 (e' 17).toNat/\e' 19=rdF b 9 (e' 17).toNat/\e' 20=z0:=hI
 have d1:=(congrArg dec (he 1 (by decide))).trans d1
 have pos:∀ {v:Int},v=((dec (e' 1)).length:Int)->v=17:=fun h=>by rw [h,d1,hn];rfl
 have qp:=(he 2 (by decide)).trans v2
 have qr:=(he 3 (by decide)).trans v3
 clear he hkk v16 len
 intro a21 _
 have b21:=c_lt a21
 simp only [ev_var,ev_lit] at b21
 refine ⟨fun h=>?_,fun h=>?_⟩
 ·have c21:e' 17<8:=b_yes b21 h
  intro a118 _ a262 _ a310 _ a311 _ a312 _
  have v262:=add_ (a:=1) (b:=e' 17) a262 (by omega)
  refine ⟨bit_nz a311 (by show 0<=e' 262;omega),lt_nz a312 (by show e' 262<e' 310;rw [pos a310];omega),fun a358 _ a454 _ a598 _ a742 _ a790 _ a791 _ a792 _=>?_⟩
  have v742:=add_ (a:=9) (b:=e' 17) a742 (by omega)
  refine ⟨bit_nz a791 (by show 0<=e' 742;omega),lt_nz a792 (by show e' 742<e' 790;rw [pos a790];omega),fun a838 _ a934 _ a1174 _=>?_⟩
  have v1174:=add_ (a:=e' 17) (b:=1) a1174 (by omega)
  show ((0<=e' 1174/\e' 1174<=8)/\e' 454=rdF b 1 (e' 1174).toNat/\e' 934=rdF b 9 (e' 1174).toNat/\e' 20=z0)/\(8-e' 1174).toNat<(8-e' 17).toNat
  refine ⟨⟨by omega,?_,?_,qz⟩,by omega⟩
  ·rw [show (e' 1174).toNat=(e' 17).toNat+1 by omega,show e' 454=binE .or .u64 (e' 118) (e' 358) from a454,show e' 118=binE .shl .u64 (e' 18) 8 from a118,show e' 358=(dec (e' 1)).getD (e' 262).toNat 0 from a358,d1,qx,show (e' 262).toNat=1+(e' 17).toNat by omega];rfl
  ·rw [show (e' 1174).toNat=(e' 17).toNat+1 by omega,show e' 934=binE .or .u64 (e' 598) (e' 838) from a934,show e' 598=binE .shl .u64 (e' 19) 8 from a598,show e' 838=(dec (e' 1)).getD (e' 742).toNat 0 from a838,d1,qy,show (e' 742).toNat=9+(e' 17).toNat by omega];rfl
 ·have c21:e' 17=8:=by have:=b_no b21 h;omega
  rw [c21] at qx qy
  intro a22 _ a23 _ a24 _
  refine ⟨bit_nz a23 (Int.le_refl _),lt_nz a24 (by show (0:Int)<e' 22;rw [pos a22];decide),fun a25 _ a26 _=>?_⟩
  have v25:e' 25=b.getD 0 0:=by rw [<- d1];exact a25
  have b26:=c_gt a26
  simp only [ev_var,ev_lit] at b26
  rw [v25] at b26
  unfold readLV
  rw [if_neg (show ¬ b.length≠17 from fun hc=>hc hn),<- hz0]
  refine ⟨fun h=>?_,fun h=>?_⟩
  ·rw [if_pos (.inl (b_yes b26 h))];rfl
  have h1:=b_no b26 h
  refine ⟨by show pOk (e' 2);rw [qp];exact pr_ok hpr,fun a27 _ a28 _=>?_⟩
  have v27:e' 27=bi (onP p (rdF b 1 8) (rdF b 9 8) z0):=by rw [<- qp,show rdF b 1 8=e' 18 from qx.symm,show rdF b 9 8=e' 19 from qy.symm,<- qz];exact a27
  rw [bi_bj] at v27
  have b28:=c_not a28
  simp only [ev_var] at b28
  refine ⟨fun h=>?_,fun h=>?_⟩
  ·rw [if_pos (.inr (bj_z v27 (b_yes b28 h)))];rfl
  have hon:=bj_nz v27 (b_no b28 h)
  rw [if_neg (fun hc=>hc.elim h1 (fun k=>k hon))]
  refine ⟨by show pOk (e' 2);rw [qp];exact pr_ok hpr,fun a29 _ a30 _=>?_⟩
  have v29:e' 29=bi (inP p r (rdF b 1 8) (rdF b 9 8) z0):=by rw [<- qp,<- qr,show rdF b 1 8=e' 18 from qx.symm,show rdF b 9 8=e' 19 from qy.symm,<- qz];exact a29
  rw [bi_bj] at v29
  have b30:=c_not a30
  simp only [ev_var] at b30
  refine ⟨fun h=>?_,fun h=>?_⟩
  ·rw [if_neg (bj_z v29 (b_yes b30 h))];rfl
  ·rw [if_pos (bj_nz v29 (b_no b30 h)),show rdF b 1 8=e' 18 from qx.symm,show rdF b 9 8=e' 19 from qy.symm,<- qz];rfl
def tCRead:Tree:=(.lett 7 (.int .i64) (.llen (.var 6))
(.lett 8 .bit (.cmp .neq (.var 7) (.lit 17))
(.split 8
(.ret [.lit 0,.lit 0,.lit 0,.lit 4])
(.lett 9 (.int .i64) (.llen (.var 6))
(.lett 10 .bit (.cmp .leq (.lit 0) (.lit 0))
(.lett 11 .bit (.cmp .lss (.lit 0) (.var 9))
(.nz (.var 10)
(.nz (.var 11)
(.lett 12 (.int .u8) (.lget (.var 6) (.lit 0))
(.lett 13 .bit (.cmp .eql (.var 12) (.lit 1))
(.loop [.lit 0,.lit 0,.lit 0,.var 13] [(.int .i64),(.int .u64),(.int .u64),.bit] 14
(.lett 18 .bit (.cmp .lss (.var 14) (.lit 8))
(.split 18
 (.lett 115 (.int .u64) (.bin .shl .u64 (.var 15) (.lit 8))
 (.lett 259 (.int .i64) (.bin .add .i64 (.lit 1) (.var 14))
 (.lett 307 (.int .i64) (.llen (.var 6))
 (.lett 308 .bit (.cmp .leq (.lit 0) (.var 259))
 (.lett 309 .bit (.cmp .lss (.var 259) (.var 307))
 (.nz (.var 308)
 (.nz (.var 309)
 (.lett 355 (.int .u8) (.lget (.var 6) (.var 259))
 (.lett 451 (.int .u64) (.bin .or .u64 (.var 115) (.var 355))
 (.lett 691 (.int .u64) (.bin .shl .u64 (.var 16) (.lit 8))
 (.lett 835 (.int .i64) (.bin .add .i64 (.lit 9) (.var 14))
 (.lett 883 (.int .i64) (.llen (.var 6))
 (.lett 884 .bit (.cmp .leq (.lit 0) (.var 835))
 (.lett 885 .bit (.cmp .lss (.var 835) (.var 883))
 (.nz (.var 884)
 (.nz (.var 885)
 (.lett 931 (.int .u8) (.lget (.var 6) (.var 835))
 (.lett 1027 (.int .u64) (.bin .or .u64 (.var 691) (.var 931))
 (.lett 1171 (.int .i64) (.bin .add .i64 (.var 14) (.lit 1))
 (.back 0 [.var 1171,.var 451,.var 1027,.var 17]))))))))))))))))))))
 (.lett 19 (.int .i64) (.llen (.var 6))
 (.lett 20 .bit (.cmp .leq (.lit 0) (.lit 0))
 (.lett 21 .bit (.cmp .lss (.lit 0) (.var 19))
 (.nz (.var 20)
 (.nz (.var 21)
 (.lett 22 (.int .u8) (.lget (.var 6) (.lit 0))
 (.lett 23 .bit (.cmp .gtr (.var 22) (.lit 1))
 (.split 23
 (.ret [.lit 0,.lit 0,.lit 0,.lit 4])
 (.req 0 [.var 0,.var 1,.var 2,.var 3,.var 4,.var 5,.var 15,.var 16,.var 17]
 (.lett 24 .bit (.app 0 0 [.var 0,.var 1,.var 2,.var 3,.var 4,.var 5,.var 15,.var 16,.var 17])
 (.lett 25 .bit (.not (.var 24))
 (.split 25
 (.ret [.lit 0,.lit 0,.lit 0,.lit 4])
 (.req 1 [.var 0,.var 1,.var 2,.var 3,.var 4,.var 5,.var 15,.var 16,.var 17]
 (.lett 26 .bit (.app 1 0 [.var 0,.var 1,.var 2,.var 3,.var 4,.var 5,.var 15,.var 16,.var 17])
 (.lett 27 .bit (.not (.var 26))
 (.split 27
 (.ret [.lit 0,.lit 0,.lit 0,.lit 5])
 (.ret [.var 15,.var 16,.var 17,.lit 0]))))))))))))))))))))))))))))))
theorem law_cRead (f1 f2 f:FuncId) (e:Nat->Int) (hp:(kCRead f).pre [e 0,e 1,e 2,e 3,e 4,e 5,e 6]):tCRead.says [kLOn f1,kCIn f2] ⟨fun ys=>ys=(kCRead f).sem [e 0,e 1,e 2,e 3,e 4,e 5,e 6],[]⟩ e:=by
 have hpr:prP (e 0):=hp
 obtain ⟨b,d6⟩:∃ b,dec (e 6)=b:=⟨_,rfl⟩
 obtain ⟨p,v0⟩:∃ p,e 0=p:=⟨_,rfl⟩
 obtain ⟨r,v1⟩:∃ r,e 1=r:=⟨_,rfl⟩
 show tCRead.says _ ⟨fun ys=>ys=readLV (e 0) (e 1) (dec (e 6)),[]⟩ e
 rw [d6,v0,v1]
 rw [v0] at hpr
 have len:∀ {v:Int},v=((dec (e 6)).length:Int)->v=(b.length:Int):=fun h=>by rw [h,d6]
 intro a7 _ a8 _
 have v7:=len a7
 have b8:=c_ne a8
 simp only [ev_var,ev_lit] at b8
 refine ⟨fun h=>?_,fun h=>?_⟩
 ·unfold readLV;rw [if_pos (show b.length≠17 by omega)];rfl
 have hn:b.length=17:=by omega
 have pos:∀ {v:Int},v=((dec (e 6)).length:Int)->v=17:=fun h=>by rw [len h,hn];rfl
 clear b8 h v7 a7 a8
 intro a9 _ a10 _ a11 _
 refine ⟨bit_nz a10 (Int.le_refl _),lt_nz a11 (by show (0:Int)<e 9;rw [pos a9];decide),fun a12 _ a13 _=>?_⟩
 have v12:e 12=b.getD 0 0:=by rw [<- d6];exact a12
 have v13:e 13=bi (b.getD 0 0=1):=by rw [<- v12];exact bi_eq a13
 clear a9 a10 a11 a12 a13 v12
 obtain ⟨z0,hz0⟩:∃ z,z=bi (b.getD 0 0=1):=⟨_,rfl⟩
 rw [<- hz0] at v13
 refine ⟨fun | [i,x,y,z]=>(0<=i/\i<=8)/\x=rdF b 1 i.toNat/\y=rdF b 9 i.toNat/\z=z0 | _=>False,fun | [i,_,_,_]=>(8-i).toNat | _=>0,⟨⟨Int.le_refl _,(show (0:Int)<=8 by decide)⟩,rfl,rfl,v13⟩,fun e' he hkk hI=>?_⟩
 obtain ⟨⟨i0,i1⟩,qx,qy,qz⟩:(0<=e' 14/\e' 14<=8)/\e' 15=rdF b 1 (e' 14).toNat/\e' 16=rdF b 9 (e' 14).toNat/\e' 17=z0:=hI
 have d6:=(congrArg dec (he 6 (by decide))).trans d6
 have pos:∀ {v:Int},v=((dec (e' 6)).length:Int)->v=17:=fun h=>by rw [h,d6,hn];rfl
 have qp:=(he 0 (by decide)).trans v0
 have qr:=(he 1 (by decide)).trans v1
 clear he hkk v13 len
 intro a18 _
 have b18:=c_lt a18
 simp only [ev_var,ev_lit] at b18
 refine ⟨fun h=>?_,fun h=>?_⟩
 ·have c18:e' 14<8:=b_yes b18 h
  intro a115 _ a259 _ a307 _ a308 _ a309 _
  have v259:=add_ (a:=1) (b:=e' 14) a259 (by omega)
  refine ⟨bit_nz a308 (by show 0<=e' 259;omega),lt_nz a309 (by show e' 259<e' 307;rw [pos a307];omega),fun a355 _ a451 _ a691 _ a835 _ a883 _ a884 _ a885 _=>?_⟩
  have v835:=add_ (a:=9) (b:=e' 14) a835 (by omega)
  refine ⟨bit_nz a884 (by show 0<=e' 835;omega),lt_nz a885 (by show e' 835<e' 883;rw [pos a883];omega),fun a931 _ a1027 _ a1171 _=>?_⟩
  have v1171:=add_ (a:=e' 14) (b:=1) a1171 (by omega)
  show ((0<=e' 1171/\e' 1171<=8)/\e' 451=rdF b 1 (e' 1171).toNat/\e' 1027=rdF b 9 (e' 1171).toNat/\e' 17=z0)/\(8-e' 1171).toNat<(8-e' 14).toNat
  refine ⟨⟨by omega,?_,?_,qz⟩,by omega⟩
  ·rw [show (e' 1171).toNat=(e' 14).toNat+1 by omega,show e' 451=binE .or .u64 (e' 115) (e' 355) from a451,show e' 115=binE .shl .u64 (e' 15) 8 from a115,show e' 355=(dec (e' 6)).getD (e' 259).toNat 0 from a355,d6,qx,show (e' 259).toNat=1+(e' 14).toNat by omega];rfl
  ·rw [show (e' 1171).toNat=(e' 14).toNat+1 by omega,show e' 1027=binE .or .u64 (e' 691) (e' 931) from a1027,show e' 691=binE .shl .u64 (e' 16) 8 from a691,show e' 931=(dec (e' 6)).getD (e' 835).toNat 0 from a931,d6,qy,show (e' 835).toNat=9+(e' 14).toNat by omega];rfl
 ·have c18:e' 14=8:=by have:=b_no b18 h;omega
  rw [c18] at qx qy
  intro a19 _ a20 _ a21 _
  refine ⟨bit_nz a20 (Int.le_refl _),lt_nz a21 (by show (0:Int)<e' 19;rw [pos a19];decide),fun a22 _ a23 _=>?_⟩
  have v22:e' 22=b.getD 0 0:=by rw [<- d6];exact a22
  have b23:=c_gt a23
  simp only [ev_var,ev_lit] at b23
  rw [v22] at b23
  unfold readLV
  rw [if_neg (show ¬ b.length≠17 from fun hc=>hc hn),<- hz0]
  refine ⟨fun h=>?_,fun h=>?_⟩
  ·rw [if_pos (.inl (b_yes b23 h))];rfl
  have h1:=b_no b23 h
  refine ⟨by show pOk (e' 0);rw [qp];exact pr_ok hpr,fun a24 _ a25 _=>?_⟩
  have v24:e' 24=bi (onP p (rdF b 1 8) (rdF b 9 8) z0):=by rw [<- qp,show rdF b 1 8=e' 15 from qx.symm,show rdF b 9 8=e' 16 from qy.symm,<- qz];exact a24
  rw [bi_bj] at v24
  have b25:=c_not a25
  simp only [ev_var] at b25
  refine ⟨fun h=>?_,fun h=>?_⟩
  ·rw [if_pos (.inr (bj_z v24 (b_yes b25 h)))];rfl
  have hon:=bj_nz v24 (b_no b25 h)
  rw [if_neg (fun hc=>hc.elim h1 (fun k=>k hon))]
  refine ⟨by show prP (e' 0);rw [qp];exact hpr,fun a26 _ a27 _=>?_⟩
  have v26:e' 26=bi (inP p r (rdF b 1 8) (rdF b 9 8) z0):=by rw [<- qp,<- qr,show rdF b 1 8=e' 15 from qx.symm,show rdF b 9 8=e' 16 from qy.symm,<- qz];exact a26
  rw [bi_bj] at v26
  have b27:=c_not a27
  simp only [ev_var] at b27
  refine ⟨fun h=>?_,fun h=>?_⟩
  ·rw [if_neg (bj_z v26 (b_yes b27 h))];rfl
  ·rw [if_pos (bj_nz v26 (b_no b27 h)),show rdF b 1 8=e' 15 from qx.symm,show rdF b 9 8=e' 16 from qy.symm,<- qz];rfl
theorem lim0 {n:Int} (h0:0<=n) (h1:n<18446744073709551616):lim n 0=n:=by rw [lim_0];exact Int.emod_eq_of_lt h0 h1
theorem rOf_sm64 {s:Int} (h:isL s):rOf s<18446744073709551616:=by
 rcases h with rfl | rfl <;> decide
theorem rOf_pos0 (s:Int):0<rOf s:=by
 unfold rOf
 split
 ·decide
 ·split <;> decide
def invB (x:Int):Int:=x^(bP-2).toNat
theorem nP_bP:((Np.nP:Nat):Int)=bP:=rfl
theorem invB_ok {x:Int} (h:¬ x%bP=0):(x*invB x)%bP=1:=by
 have h1:=md_lt (x:=x) bP_pos
 have hf:=fermat_int Np.p_base (a:=x%bP) (by omega) (by rw [nP_bP];exact h1.2)
 rw [nP_bP] at hf
 rw [<- hf]
 unfold invB
 generalize (bP-2).toNat=n
 exact (mdE_mul (md_self x) ((md_self _).trans (mdE_pow (md_self x) n))).symm
theorem one_md:(1:Int)%bP=1:=by decide
theorem mulB_z {x y:Int} (h:(x*y)%bP=0) (hx:¬ x%bP=0):y%bP=0:=by
 have hi:=invB_ok hx
 have h1:(y*(x*invB x))%bP=y%bP:=by
  have:=mdE_mul (p:=bP) (a:=y) (A:=y) rfl (hi.trans one_md.symm)
  rw [Int.mul_one] at this;exact this
 rw [<- h1,show y*(x*invB x)=x*y*invB x by rw [<- Int.mul_assoc,Int.mul_comm y x]]
 exact md0_mul _ h
theorem dbl_nz {y:Int} (h0:0<=y) (h1:y<bP) (h:¬ y=0):¬ (y+y)%bP=0:=fun hc=>by
 have ho:=bP_odd
 rcases Int.lt_or_le (y+y) bP with hl | hl
 ·rw [Int.emod_eq_of_lt (by omega) hl] at hc;omega
 ·rw [md_eq (x:=y+y) (n:=bP) (r:=y+y-bP) 1 (by omega) (by omega) (by omega)] at hc
  generalize bP=p at *
  omega
theorem neg_z {y:Int} (h0:0<=y) (h1:y<bP) (h:y=(-y)%bP):y=0:=by
 by_cases hy:y=0
 ·exact hy
 ·refine absurd ?_ (dbl_nz h0 h1 hy)
  have h2:(y+y)%bP=(y + -y)%bP:=mdE_add rfl (by rw [<- h];exact Int.emod_eq_of_lt h0 h1)
  rw [h2,Int.add_right_neg];rfl
theorem sub_nz {x y:Int} (h0:0<=x/\x<bP) (h1:0<=y/\y<bP) (h:¬ x=y):¬ (y-x)%bP=0:=by unfold bP at *;omega
theorem opp_of {y y':Int} (h0:0<=y/\y<bP) (h1:0<=y'/\y'<bP) (h:(y'+y)%bP=0):y=(-y')%bP:=by unfold bP at *;omega
section
variable {x y x' y':Int}
end
end Go.Sx

namespace Go.Sx
open Go Go.RowKit
set_option maxRecDepth 100000
theorem onL_of {p x y z:Int} (h:onP p x y z) (hx:0<=x) (hy:0<=y) (hz:0<=z/\z<=1):onL p ⟨x,y,z⟩:=⟨h,⟨hx,hy⟩,(by show z=0∨z=1;omega)⟩
def markB (n i:Nat):Int:=160+((n+i:Nat):Int)%90
def lentU (l:List Int) (k:Nat):List Int:=l++((List.range k).map (markB l.length)++List.replicate (3-k) 0)
def lentB (l:List Int):List Int:=l++(List.range 3).map (markB l.length)
theorem lentU_3 (l:List Int):lentU l 3=lentB l:=by unfold lentU lentB;simp
theorem lentU_len (l:List Int) {k:Nat} (h:k<=3):(lentU l k).length=l.length+3:=by
 unfold lentU
 rw [List.length_append,List.length_append,List.length_map,List.length_range,List.length_replicate];omega
theorem lentB_len (l:List Int):(lentB l).length=l.length+3:=by rw [<- lentU_3];exact lentU_len l (Nat.le_refl _)
theorem lentU_step (l:List Int) {k:Nat} (h:k<3):(lentU l k).set (l.length+k) (markB l.length k)=lentU l (k+1):=by
 unfold lentU
 rw [List.set_append_right _ _ (by omega),show l.length+k-l.length=k by omega,List.set_append_right _ _ (by simp),List.length_map,List.length_range,Nat.sub_self,show 3-k=3-(k+1)+1 by omega,List.replicate_succ,List.set_cons_zero,List.range_succ,List.map_append,List.append_assoc];rfl
open Classical in
noncomputable def kSame (f:FuncId):K:={fn:=f,ext:=false,ins:=[.lst (.int .u8),.lst (.int .u8)],outs:=[oB],pre:=fun _=>True,sem:=fun | [a,b]=>[bj (dec a=dec b)] | _=>[] }
noncomputable def kLentB (te:TypeId) (f:FuncId):K:={fn:=f,ext:=false,ins:=[.lst (.int .u8)],outs:=[.lent te (.int .u8)],pre:=fun | [l]=>(dec l).length<=1000000000 | _=>False,sem:=fun | [l]=>[enc (lentB (dec l)),((dec l).length:Int)] | _=>[] }
noncomputable def kKeptB (f:FuncId):K:={fn:=f,ext:=false,ins:=[.lent (.int .u8),.lst (.int .u8)],outs:=[oB],pre:=fun | [_,_,l]=>(dec l).length<=1000000000 | _=>False,sem:=fun | [m,n,l]=>[bj (n=((dec l).length:Int)/\dec m=lentB (dec l))] | _=>[] }
def tSameB:Tree:=(.lett 2 .bit (.lsame (.var 0) (.var 1))
(.ret [.var 2]))
theorem law_same (f:FuncId) (e:Nat->Int):tSameB.says [] ⟨fun ys=>ys=(kSame f).sem [e 0,e 1],[]⟩ e:=by
 intro a2 _
 exact congrArg (fun x=>[x]) (bj_of (c_same a2))
def tLentB:Tree:=(.lett 1 (.int .i64) (.llen (.var 0))
(.lett 2 (.int .i64) (.bin .add .i64 (.var 1) (.lit 3))
(.lett 3 .bit (.cmp .leq (.lit 0) (.var 2))
(.lett 4 .bit (.cmp .lss (.var 2) (.lit 4294967296))
(.nz (.var 3)
(.nz (.var 4)
(.lett 5 (.lst (.int .u8)) (.lrep (.var 2) (.lit 0))
(.lett 6 (.int .i64) (.llen (.var 5))
(.lett 7 .bit (.cmp .lss (.lit 0) (.var 6))
(.nz (.var 7)
(.lett 8 (.lst (.int .u8)) (.lcpy (.var 5) (.var 0))
(.lett 9 (.int .i64) (.llen (.var 0))
(.loop [.var 9,.var 8] [(.int .i64),(.lst (.int .u8))] 10
(.lett 12 (.int .i64) (.llen (.var 11))
(.lett 13 .bit (.cmp .lss (.var 10) (.var 12))
(.split 13
(.lett 14 (.int .i64) (.bin .rem .i64 (.var 10) (.lit 90))
(.lett 15 (.int .i64) (.bin .add .i64 (.lit 160) (.var 14))
(.lett 16 (.int .u8) (.conv .u8 (.var 15))
(.lett 17 (.int .i64) (.llen (.var 11))
(.lett 18 .bit (.cmp .leq (.lit 0) (.var 10))
(.lett 19 .bit (.cmp .lss (.var 10) (.var 17))
(.nz (.var 18)
(.nz (.var 19)
(.lett 20 (.lst (.int .u8)) (.lput (.var 11) (.var 10) (.var 16))
(.lett 21 (.int .i64) (.bin .add .i64 (.var 10) (.lit 1))
(.back 0 [.var 21,.var 20])))))))))))
(.lett 14 (.int .i64) (.llen (.var 0))
(.lett 15 (.int .i64) (.llen (.var 11))
(.lett 16 .bit (.cmp .leq (.lit 0) (.lit 0))
(.lett 17 .bit (.cmp .leq (.lit 0) (.var 14))
(.lett 18 .bit (.cmp .leq (.var 14) (.var 15))
(.nz (.var 16)
(.nz (.var 17)
(.nz (.var 18)
(.ret [.var 11,.var 14])))))))))))))))))))))))))
theorem law_lentB (te:TypeId) (f:FuncId) (e:Nat->Int) (hk:kkHas [.lst (.int .u8)] [e 0]) (hp:(kLentB te f).pre [e 0]):tLentB.says [] ⟨fun ys=>ys=(kLentB te f).sem [e 0],[]⟩ e:=by
 obtain ⟨l,d0⟩:∃ l,dec (e 0)=l:=⟨_,rfl⟩
 have hl:l.length<=1000000000:=by rw [<- d0];exact hp
 show tLentB.says _ ⟨fun ys=>ys=[enc (lentB (dec (e 0))),((dec (e 0)).length:Int)],[]⟩ e
 rw [d0]
 clear hp hk
 intro a1 _ a2 _ a3 _ a4 _
 have v1:e 1=(l.length:Int):=by rw [<- d0];exact a1
 have v2:=add_ (a:=e 1) (b:=3) a2 (by omega)
 refine ⟨bit_nz a3 (by show 0<=e 2;omega),lt_nz a4 (by show e 2<4294967296;omega),fun a5 _ a6 _ a7 _=>?_⟩
 have d5:dec (e 5)=List.replicate (l.length+3) 0:=by
  rw [show e 5=enc (List.replicate (e 2).toNat 0) from a5,dec_enc,show (e 2).toNat=l.length+3 by omega]
 have v6:e 6=((l.length+3:Nat):Int):=by rw [show e 6=((dec (e 5)).length:Int) from a6,d5,List.length_replicate]
 refine ⟨lt_nz a7 (by show (0:Int)<e 6;omega),fun a8 _ a9 _=>?_⟩
 have q8:e 8=enc (lentU l 0):=by
  rw [show e 8=enc ((dec (e 0)).take (dec (e 5)).length++(dec (e 5)).drop (dec (e 0)).length) from a8,d0,d5,List.length_replicate,List.take_of_length_le (by omega),List.drop_replicate,show l.length+3-l.length=3 by omega];rfl
 have v9:e 9=(l.length:Int):=by rw [<- d0];exact a9
 clear a1 a2 a3 a4 a5 a6 a7 a8 a9 d5 v6 v1 v2
 refine ⟨fun | [i,q]=>((l.length:Int)<=i/\i<=l.length+3)/\q=enc (lentU l (i-l.length).toNat) | _=>False,fun | [i,_]=>(l.length+3-i).toNat | _=>0,?_,fun e' he hkk hI=>?_⟩
 ·show ((l.length:Int)<=e 9/\e 9<=l.length+3)/\e 8=enc (lentU l (e 9-l.length).toNat)
  rw [v9,Int.sub_self]
  exact ⟨⟨Int.le_refl _,by omega⟩,q8⟩
 obtain ⟨⟨i0,i1⟩,q11⟩:((l.length:Int)<=e' 10/\e' 10<=l.length+3)/\e' 11=enc (lentU l (e' 10-l.length).toNat):=hI
 have d0:=(congrArg dec (he 0 (by decide))).trans d0
 have d11:=(congrArg dec q11).trans (dec_enc _)
 have len:∀ {v:Int},v=((dec (e' 11)).length:Int)->v=l.length+3:=fun h=>by rw [h,d11,lentU_len l (by omega)];omega
 clear he hkk q8 v9
 intro a12 _ a13 _
 have v12:=len a12
 have b13:=c_lt a13
 simp only [ev_var] at b13
 refine ⟨fun h=>?_,fun h=>?_⟩
 ·have c13:e' 10<l.length+3:=by have:=b_yes b13 h;omega
  intro a14 _ a15 _ a16 _ a17 _ a18 _ a19 _
  have v14:=rem_ (i:=e' 10) 90 (by omega) a14
  have v15:=add_ (a:=160) (b:=e' 14) a15 (by omega)
  have v17:=len a17
  refine ⟨bit_nz a18 (by show 0<=e' 10;omega),lt_nz a19 (by show e' 10<e' 17;omega),fun a20 _ a21 _=>?_⟩
  have v16:e' 16=markB l.length (e' 10-l.length).toNat:=by
   rw [show e' 16=e' 15%256 from a16,v15,v14]
   unfold markB
   rw [show ((l.length+(e' 10-l.length).toNat:Nat):Int)=e' 10 by omega];omega
  have v21:=add_ (a:=e' 10) (b:=1) a21 (by omega)
  show (((l.length:Int)<=e' 21/\e' 21<=l.length+3)/\e' 20=enc (lentU l (e' 21-l.length).toNat))/\(l.length+3-e' 21).toNat<(l.length+3-e' 10).toNat
  refine ⟨⟨by omega,?_⟩,by omega⟩
  rw [show e' 20=enc ((dec (e' 11)).set (e' 10).toNat (e' 16)) from a20,d11,v16,show (e' 10).toNat=l.length+(e' 10-l.length).toNat by omega,lentU_step l (by omega),show (e' 21-l.length).toNat=(e' 10-l.length).toNat+1 by omega]
 ·have c13:e' 10=l.length+3:=by have:=b_no b13 h;omega
  intro a14 _ a15 _ a16 _ a17 _ a18 _
  have v14:e' 14=(l.length:Int):=by rw [<- d0];exact a14
  have v15:=len a15
  refine ⟨bit_nz a16 (Int.le_refl _),bit_nz a17 (by show 0<=e' 14;omega),le_nz a18 (by show e' 14<=e' 15;omega),?_⟩
  show [e' 11,e' 14]=_
  rw [v14,q11,c13,show ((l.length:Int)+3-l.length).toNat=3 by omega,lentU_3]
def tKeptB:Tree:=(.lett 147 (.int .i64) (.llen (.var 2))
(.lett 195 .bit (.cmp .eql (.var 1) (.var 147))
(.split 195
(.lett 387 (.int .i64) (.llen (.var 0))
(.lett 435 (.int .i64) (.llen (.var 0))
(.lett 436 .bit (.cmp .leq (.lit 0) (.lit 0))
(.lett 437 .bit (.cmp .leq (.lit 0) (.var 387))
(.lett 438 .bit (.cmp .leq (.var 387) (.var 435))
(.nz (.var 436)
(.nz (.var 437)
(.nz (.var 438)
(.req 0 [.var 2]
(.lett 531 (.lst (.int .u8)) (.app 0 0 [.var 2])
(.lett 532 (.int .i64) (.app 0 1 [.var 2])
(.lett 627 (.int .i64) (.llen (.var 2))
(.lett 675 (.int .i64) (.bin .add .i64 (.var 627) (.lit 3))
(.lett 723 (.int .i64) (.llen (.var 531))
(.lett 724 .bit (.cmp .leq (.lit 0) (.lit 0))
(.lett 725 .bit (.cmp .leq (.lit 0) (.var 675))
(.lett 726 .bit (.cmp .leq (.var 675) (.var 723))
(.nz (.var 724)
(.nz (.var 725)
(.nz (.var 726)
(.lett 771 (.lst (.int .u8)) (.lsub (.var 0) (.lit 0) (.var 387))
(.lett 772 (.lst (.int .u8)) (.lsub (.var 531) (.lit 0) (.var 675))
(.req 1 [.var 771,.var 772]
(.lett 773 .bit (.app 1 0 [.var 771,.var 772])
(.ret [.var 773])))))))))))))))))))))))))
(.ret [.lit 0]))))
theorem law_keptB (te:TypeId) (f1 f2 f:FuncId) (e:Nat->Int) (hk:kkHas [.lst (.int .u8),.int .i64,.lst (.int .u8)] [e 0,e 1,e 2]) (hp:(kKeptB f).pre [e 0,e 1,e 2]):tKeptB.says [kLentB te f1,kSame f2] ⟨fun ys=>ys=(kKeptB f).sem [e 0,e 1,e 2],[]⟩ e:=by
 obtain ⟨l,d2⟩:∃ l,dec (e 2)=l:=⟨_,rfl⟩
 have hl:l.length<=1000000000:=by rw [<- d2];exact hp
 show tKeptB.says _ ⟨fun ys=>ys=[bj (e 1=((dec (e 2)).length:Int)/\dec (e 0)=lentB (dec (e 2)))],[]⟩ e
 rw [d2]
 intro a147 _ a195 _
 have v147:e 147=(l.length:Int):=by rw [<- d2];exact a147
 have b195:=c_eq a195
 simp only [ev_var] at b195
 rw [v147] at b195
 refine ⟨fun h=>?_,fun h=>?_⟩
 ·have h1:=b_yes b195 h
  intro a387 _ a435 _ a436 _ a437 _ a438 _
  have v387:e 387=((dec (e 0)).length:Int):=a387
  have v435:e 435=((dec (e 0)).length:Int):=a435
  refine ⟨bit_nz a436 (Int.le_refl _),bit_nz a437 (by show 0<=e 387;omega),le_nz a438 (by show e 387<=e 435;omega),⟨by show (dec (e 2)).length<=1000000000;rw [d2];exact hl,fun a531 _ a532 _ a627 _ a675 _ a723 _ a724 _ a725 _ a726 _=>?_⟩⟩
  have d531:dec (e 531)=lentB l:=by rw [show e 531=enc (lentB (dec (e 2))) from a531,dec_enc,d2]
  have v627:e 627=(l.length:Int):=by rw [<- d2];exact a627
  have v675:=add_ (a:=e 627) (b:=3) a675 (by omega)
  have v723:e 723=((l.length+3:Nat):Int):=by rw [show e 723=((dec (e 531)).length:Int) from a723,d531,lentB_len]
  refine ⟨bit_nz a724 (Int.le_refl _),bit_nz a725 (by show 0<=e 675;omega),le_nz a726 (by show e 675<=e 723;omega),fun a771 _ a772 _=>⟨trivial,fun a773 _=>?_⟩⟩
  have d771:dec (e 771)=dec (e 0):=by rw [show e 771=enc (((dec (e 0)).take (e 387).toNat).drop 0) from a771,dec_enc,v387,Int.toNat_natCast,List.take_of_length_le (Nat.le_refl _),List.drop_zero]
  have d772:dec (e 772)=lentB l:=by rw [show e 772=enc (((dec (e 531)).take (e 675).toNat).drop 0) from a772,dec_enc,d531,List.take_of_length_le (by rw [lentB_len];omega),List.drop_zero]
  show [e 773]=_
  rw [show e 773=bj (dec (e 771)=dec (e 772)) from a773,d771,d772]
  exact congrArg (fun x=>[x]) (bj_iff ⟨fun h=>⟨h1,h⟩,fun h=>h.2⟩)
 ·show [(0:Int)]=_
  rw [bj_f (fun hh=>b_no b195 h hh.1)]
noncomputable def kLBytes (te:TypeId) (f:FuncId):K:={fn:=f,ext:=false,ins:=[iI,iPt],outs:=[.lst te (.int .u8),oI],pre:=fun | [s,x,y,z]=>isL s/\onP (pL s) x y z | _=>False,sem:=fun | [s,x,y,z]=>[enc (bytesL x y z),0] | _=>[] }
def tLBytes:Tree:=(.req 0 [.var 0]
(.lett 4 (.int .u64) (.app 0 0 [.var 0])
(.lett 5 (.int .u64) (.app 0 1 [.var 0])
(.lett 6 (.int .u64) (.app 0 2 [.var 0])
(.lett 7 (.int .u64) (.app 0 3 [.var 0])
(.lett 8 (.int .u64) (.app 0 4 [.var 0])
(.lett 9 .bit (.app 0 5 [.var 0])
(.lett 10 .bit (.app 0 6 [.var 0])
(.lett 11 .bit (.not (.var 10))
(.split 11
(.ret [.lit 0,.lit 2])
(.req 1 [.var 4,.var 5,.var 6,.var 7,.var 8,.var 9,.var 1,.var 2,.var 3]
(.lett 12 .bit (.app 1 0 [.var 4,.var 5,.var 6,.var 7,.var 8,.var 9,.var 1,.var 2,.var 3])
(.lett 13 .bit (.not (.var 12))
(.split 13
 (.ret [.lit 0,.lit 5])
 (.req 2 [.var 1,.var 2,.var 3]
 (.lett 14 (.int .u8) (.app 2 0 [.var 1,.var 2,.var 3])
 (.lett 15 (.int .u8) (.app 2 1 [.var 1,.var 2,.var 3])
 (.lett 16 (.int .u8) (.app 2 2 [.var 1,.var 2,.var 3])
 (.lett 17 (.int .u8) (.app 2 3 [.var 1,.var 2,.var 3])
 (.lett 18 (.int .u8) (.app 2 4 [.var 1,.var 2,.var 3])
 (.lett 19 (.int .u8) (.app 2 5 [.var 1,.var 2,.var 3])
 (.lett 20 (.int .u8) (.app 2 6 [.var 1,.var 2,.var 3])
 (.lett 21 (.int .u8) (.app 2 7 [.var 1,.var 2,.var 3])
 (.lett 22 (.int .u8) (.app 2 8 [.var 1,.var 2,.var 3])
 (.lett 23 (.int .u8) (.app 2 9 [.var 1,.var 2,.var 3])
 (.lett 24 (.int .u8) (.app 2 10 [.var 1,.var 2,.var 3])
 (.lett 25 (.int .u8) (.app 2 11 [.var 1,.var 2,.var 3])
 (.lett 26 (.int .u8) (.app 2 12 [.var 1,.var 2,.var 3])
 (.lett 27 (.int .u8) (.app 2 13 [.var 1,.var 2,.var 3])
 (.lett 28 (.int .u8) (.app 2 14 [.var 1,.var 2,.var 3])
 (.lett 29 (.int .u8) (.app 2 15 [.var 1,.var 2,.var 3])
 (.lett 30 (.int .u8) (.app 2 16 [.var 1,.var 2,.var 3])
 (.lett 31 (.lst (.int .u8)) (.lapp (.lit 0) [.var 14,.var 15,.var 16,.var 17,.var 18,.var 19,.var 20,.var 21,.var 22,.var 23,.var 24,.var 25,.var 26,.var 27,.var 28,.var 29,.var 30])
 (.ret [.var 31,.lit 0]))))))))))))))))))))))))))))))))))
theorem law_lBytes (te:TypeId) (f1 f2 f3 f:FuncId) (e:Nat->Int) (hp:(kLBytes te f).pre [e 0,e 1,e 2,e 3]):tLBytes.says [kLOf f1,kLOn f2,kWritten f3] ⟨fun ys=>ys=(kLBytes te f).sem [e 0,e 1,e 2,e 3],[]⟩ e:=by
 obtain ⟨hl,hon⟩:isL (e 0)/\onP (pL (e 0)) (e 1) (e 2) (e 3):=hp
 have hpr:=pL_pr hl
 show tLBytes.says _ ⟨fun ys=>ys=[enc (bytesL (e 1) (e 2) (e 3)),0],[]⟩ e
 refine ⟨trivial,fun a4 _ a5 _ a6 _ a7 _ a8 _ a9 _ a10 _ a11 _=>?_⟩
 have v4:e 4=pL (e 0):=by rw [show e 4=(cvL (e 0)).getD 0 0 from a4,cvL_t hl];rfl
 have v10:e 10=1:=by rw [show e 10=(cvL (e 0)).getD 6 0 from a10,cvL_t hl];rfl
 have b11:=c_not a11
 simp only [ev_var] at b11
 refine ⟨fun h=>by have:=b_yes b11 h;omega,fun _=>⟨?_,fun a12 _ a13 _=>?_⟩⟩
 ·show pOk (e 4)
  rw [v4];exact pr_ok hpr
 have v12:e 12=bi (onP (e 4) (e 1) (e 2) (e 3)):=a12
 rw [v4,bi_bj] at v12
 have b13:=c_not a13
 simp only [ev_var] at b13
 refine ⟨fun h=>absurd hon (bj_z v12 (b_yes b13 h)),fun _=>⟨trivial,?_⟩⟩
 intro c0 _ c1 _ c2 _ c3 _ c4 _ c5 _ c6 _ c7 _ c8 _ c9 _ c10 _ c11 _ c12 _ c13 _ c14 _ c15 _ c16 _ a31 _
 show [e 31,0]=_
 rw [show e 31=enc (dec 0++[e 14,e 15,e 16,e 17,e 18,e 19,e 20,e 21,e 22,e 23,e 24,e 25,e 26,e 27,e 28,e 29,e 30]) from a31,dec_zero,List.nil_append]
 have:[e 14,e 15,e 16,e 17,e 18,e 19,e 20,e 21,e 22,e 23,e 24,e 25,e 26,e 27,e 28,e 29,e 30]=bytesL (e 1) (e 2) (e 3):=by
  rw [show e 14=_ from c0,show e 15=_ from c1,show e 16=_ from c2,show e 17=_ from c3,show e 18=_ from c4,show e 19=_ from c5,show e 20=_ from c6,show e 21=_ from c7,show e 22=_ from c8,show e 23=_ from c9,show e 24=_ from c10,show e 25=_ from c11,show e 26=_ from c12,show e 27=_ from c13,show e 28=_ from c14,show e 29=_ from c15,show e 30=_ from c16];rfl
 rw [this]
theorem lsub_t {T:List K} {e:Nat->Int} {v:Int} {x n:Nat} (h:v=(D.lsub (.var x) (.lit 0) (.var n)).ev T e):dec v=(dec (e x)).take (e n).toNat:=by
 rw [h]
 show dec (enc (((dec (e x)).take (e n).toNat).drop 0))=_
 rw [dec_enc,List.drop_zero]
def vars (i n:Nat):List A:=(List.range n).map fun j=>.var (i+j)
def rTo (g:Nat) (us:List A) (g':Nat) (us':List A) (cs:List (Nat×D)) (n:Nat):List Rule:=(List.range n).map fun j=>{l:=.app g j us,r:=.d (.app g' j us'),cs:=cs }
def rLit (g:Nat) (us:List A) (xs:List Int):List Rule:=(List.range xs.length).map fun j=>{l:=.app g j us,r:=.a (.lit (xs.getD j 0)) }
theorem rulesOk_app {T:List K} {e:Nat->Int}:∀ {a b:List Rule},RulesOk T e a->RulesOk T e b->RulesOk T e (a++b)
 | [],_,_,h=>h
 | _::_,_,h,h'=>⟨h.1,rulesOk_app h.2 h'⟩
theorem rulesOk_map {T:List K} {e:Nat->Int} {f:Nat->Rule}:∀ {l:List Nat},(∀ j∈l,CsOk T e (f j).cs->(f j).l.ev T e=(f j).r.ev T e)->RulesOk T e (l.map f)
 | [],_=>trivial
 | j::l,h=>⟨h j (List.mem_cons_self ..),rulesOk_map fun i hi=>h i (List.mem_cons_of_mem _ hi)⟩
theorem rTo_ok {T:List K} {e:Nat->Int} {g g' n:Nat} {us us':List A} {cs:List (Nat×D)} {X X':K} (h:T[g]?=some X) (h':T[g']?=some X') (hs:CsOk T e cs->∀ j,j<n->(X.sem (us.map (·.ev e))).getD j 0=(X'.sem (us'.map (·.ev e))).getD j 0):RulesOk T e (rTo g us g' us' cs n) :=
 rulesOk_map fun j hj hc=>by
  show (D.app g j us).ev T e=(D.app g' j us').ev T e
  simp only [D.ev,h,h']
  exact hs hc j (List.mem_range.1 hj)
theorem rLit_ok {T:List K} {e:Nat->Int} {g:Nat} {us:List A} {xs:List Int} {X:K} (h:T[g]?=some X) (hs:∀ j,j<xs.length->(X.sem (us.map (·.ev e))).getD j 0=xs.getD j 0):RulesOk T e (rLit g us xs) :=
 rulesOk_map fun j hj hc=>by
  show (D.app g j us).ev T e=xs.getD j 0
  simp only [D.ev,h]
  exact hs j (List.mem_range.1 hj)
def k15:List A:=vars 0 15
section
variable {te tb:TypeId} {f0 f1 f2 f3 f4 f5 f6 f7 f8 f9 f10 f11 f12 f13 f14 f15 f16:FuncId} {e:Nat->Int}
theorem lentB_take (l:List Int):(lentB l).take l.length=l:=by unfold lentB;exact List.take_left' rfl
end
def S2 (A B:E2):Prop:=A.1%bP=B.1%bP/\A.2%bP=B.2%bP
theorem RT0_mul (A C:E2):(RT 0).mul A C=(A.1*C.1-A.2*C.2,A.1*C.2+A.2*C.1):=by
 show (if (0:Int)=0 then (A.1*C.1-A.2*C.2,A.1*C.2+A.2*C.1) else (A.1*C.1,0))=_
 rw [if_pos rfl]
theorem isz3 {x y:Int}:R2.isz (x,y)=true↔x%bP=0/\y%bP=0:=by
 show (x%bP==0&&y%bP==0)=true↔_
 rw [Bool.and_eq_true,beq_iff_eq,beq_iff_eq]
theorem R2_one (b:E2):R2.mul b R2.one=b:=by
 show (b.1*1-b.2*0,b.1*0+b.2*1)=b
 rw [Int.mul_one,Int.mul_zero,Int.mul_zero,Int.mul_one,Int.sub_zero,Int.zero_add]
theorem R2_comm (a b:E2):R2.mul a b=R2.mul b a:=by
 show (a.1*b.1-a.2*b.2,a.1*b.2+a.2*b.1)=(b.1*a.1-b.2*a.2,b.1*a.2+b.2*a.1)
 rw [Int.mul_comm a.1 b.1,Int.mul_comm a.2 b.2,Int.mul_comm a.1 b.2,Int.mul_comm a.2 b.1,Int.add_comm]
theorem R2_zmul {y z:E2} (h:R2.isz y=true):R2.isz (R2.mul y z)=true:=by
 obtain ⟨h1,h2⟩:=isz3.1 h
 exact isz3.2 ⟨md0_sub (md0_mul _ h1) (md0_mul _ h2),md0_add (md0_mul _ h1) (md0_mul _ h2)⟩
theorem S2_mul {a b c d:E2} (h:S2 a b) (k:S2 c d):S2 ((RT 0).mul a c) (R2.mul b d):=by
 rw [RT0_mul]
 exact ⟨mdE_sub (mdE_mul h.1 k.1) (mdE_mul h.2 k.2),mdE_add (mdE_mul h.1 k.2) (mdE_mul h.2 k.1)⟩
theorem hom2:Hom (RT 0) R2 S2 where
 add:=fun h k=>⟨mdE_add h.1 k.1,mdE_add h.2 k.2⟩
 sub:=fun h k=>⟨mdE_sub h.1 k.1,mdE_sub h.2 k.2⟩
 mul:=S2_mul
 md:=fun {a b} h=>⟨by show a.1%bP%bP=b.1%bP%bP;rw [md_self,md_self];exact h.1,by show a.2%bP%bP=b.2%bP%bP;rw [md_self,md_self];exact h.2⟩
 isz:=fun {a b} h=>by
  rw [Bool.eq_iff_iff]
  exact isz1.trans ((by rw [h.1,h.2]:(a.1%bP=0/\a.2%bP=0)↔(b.1%bP=0/\b.2%bP=0)).trans isz3.symm)
 za:=isz1.2 ⟨rfl,rfl⟩
 zb:=isz3.2 ⟨rfl,rfl⟩
 ob:=fun h=>one_ne (isz3.1 h).1
 m1:=fun {a b} h=>by rw [R2_one,R2_one];exact h
 m2:=fun {a b} h=>by rw [R2_one,R2_one,R2_one];exact h
 m3:=fun {a b h k} x y=>by rw [R2_one,R2_comm k b];exact S2_mul x y
 dz:=fun {y z} h=>by
  have h1:R2.isz (R2.mul y z)=true:=by
   rcases h with h | h
   ·exact R2_zmul h
   ·rw [R2_comm];exact R2_zmul h
  obtain ⟨a,b⟩:=isz3.1 h1
  exact isz3.2 ⟨md0_add a a,md0_add b b⟩
 ma:=fun {a}=>by
  rw [Bool.eq_iff_iff]
  exact isz1.trans ((by rw [md_self,md_self]:(a.1%bP%bP=0/\a.2%bP%bP=0)↔(a.1%bP=0/\a.2%bP=0)).trans isz1.symm)
 mb:=fun {a}=>by
  rw [Bool.eq_iff_iff]
  exact isz3.trans ((by rw [md_self,md_self]:(a.1%bP%bP=0/\a.2%bP%bP=0)↔(a.1%bP=0/\a.2%bP=0)).trans isz3.symm)
def inv2 (A:E2):E2:=(A.1*nrm A.1 A.2,-(A.2*nrm A.1 A.2))
def lowV2 (P:J E2):List Int:=if P.z.1%bP=0/\P.z.2%bP=0 then [0,0,0,0,1] else
 let i:=inv2 P.z
 let s:=R2.mul i i
 let x:=R2.mul P.x s
 let y:=R2.mul P.y (R2.mul s i)
 [x.1%bP,x.2%bP,y.1%bP,y.2%bP,0]
def manyV2 (l:List Int):List Int:=match l with
 | [a,b,c,d,k]=>if k=0 then [0,0,0,0,1] else [a,b,c,d,0]
 | _=>[]
theorem inv2_S {A B:E2} (h:S2 A B):S2 (invT 0 A) (inv2 B):=by
 rw [invT_0 rfl]
 have hn:nrm A.1 A.2%bP=nrm B.1 B.2%bP:=mdE_pow (mdE_add (mdE_mul h.1 h.1) (mdE_mul h.2 h.2)) _
 exact ⟨mdE_mul h.1 hn,mdE_neg (mdE_mul h.2 hn)⟩
theorem two2 {P Q:J E2} (h:SJ (RT 0) R2 S2 P Q):manyV2 (twoT 0 P)=lowV2 Q:=by
 rcases h with ⟨h,k⟩ | ⟨h,hx,hy,hz⟩
 ·rw [twoT_z h]
  unfold lowV2
  rw [if_pos (isz3.1 k)]
  show (if (0:Int)=0 then [0,0,0,0,1] else [0,0,0,0,0])=_
  rw [if_pos rfl]
 ·have kz:¬ (Q.z.1%bP=0/\Q.z.2%bP=0):=fun hc=>h (by rw [hom2.isz hz];exact isz3.2 hc)
  rw [twoT_n h]
  have hi:=inv2_S hz
  have hs:=S2_mul hi hi
  have X:=S2_mul hx hs
  have Y:=S2_mul hy (S2_mul hs hi)
  unfold lowV2
  rw [if_neg kz]
  unfold loT
  show (if (1:Int)=0 then [0,0,0,0,1] else [((RT 0).mul P.x ((RT 0).mul (invT 0 P.z) (invT 0 P.z))).1%bP,((RT 0).mul P.x ((RT 0).mul (invT 0 P.z) (invT 0 P.z))).2%bP,((RT 0).mul P.y ((RT 0).mul ((RT 0).mul (invT 0 P.z) (invT 0 P.z)) (invT 0 P.z))).1%bP,((RT 0).mul P.y ((RT 0).mul ((RT 0).mul (invT 0 P.z) (invT 0 P.z)) (invT 0 P.z))).2%bP,0])=_
  rw [if_neg (by decide),X.1,X.2,Y.1,Y.2]
theorem many2_eq {a b c d:Int} {k n:Nat} (hk:k<=384) (hn:n<2^k):manyV2 (twoT 0 (tmT (RT 0) (of2 a b c d 1 0) k n))=lowV2 (tmJ R2 ⟨(a,b),(c,d),(1,0)⟩ 384 n):=by
 obtain ⟨j,hj⟩:∃ j,384=k+j:=⟨384-k,by omega⟩
 rw [hj,tmJ_more hn j]
 exact two2 (SJ_tm hom2 ⟨rfl,rfl⟩ ⟨rfl,rfl⟩ ⟨rfl,rfl⟩ rfl k n hn)
def EQ (x y:Int) (Y:E2):Prop:=x=toE Y.1/\y=toE Y.2
theorem EQ.l1 {x y:Int} {Y:E2} (h:EQ x y Y):x<bP:=E_lt h.1
theorem EQ.l2 {x y:Int} {Y:E2} (h:EQ x y Y):y<bP:=E_lt h.2
theorem EQ_self {x y:Int} (h0:0<=x) (h1:x<bP) (k0:0<=y) (k1:y<bP):EQ x y (ofE x,ofE y):=⟨E_of h0 h1,E_of k0 k1⟩
theorem EQ_add {x y a b c d:Int} {A C:E2} (h:x=toE (ofE a+ofE c)) (k:y=toE (ofE b+ofE d)) (ha:EQ a b A) (hc:EQ c d C):EQ x y (R2.add A C):=⟨Eadd h ha.1 hc.1,Eadd k ha.2 hc.2⟩
theorem EQ_sub {x y a b c d:Int} {A C:E2} (h:x=toE (ofE a-ofE c)) (k:y=toE (ofE b-ofE d)) (ha:EQ a b A) (hc:EQ c d C):EQ x y (R2.sub A C):=⟨Esub h ha.1 hc.1,Esub k ha.2 hc.2⟩
theorem EQ_mul {x y a b c d:Int} {A C:E2} (h:x=toE (ofE a*ofE c-ofE b*ofE d)) (k:y=toE (ofE a*ofE d+ofE b*ofE c)) (ha:EQ a b A) (hc:EQ c d C):EQ x y (R2.mul A C) :=
 ⟨h.trans (toE_md (mdE_sub (mdE_mul (E_ofm ha.1) (E_ofm hc.1)) (mdE_mul (E_ofm ha.2) (E_ofm hc.2)))),k.trans (toE_md (mdE_add (mdE_mul (E_ofm ha.1) (E_ofm hc.2)) (mdE_mul (E_ofm ha.2) (E_ofm hc.1))))⟩
def kE2Add (f:FuncId):K:={fn:=f,ext:=false,ins:=[iE2,iE2],outs:=[oE2],pre:=fun | [a,b,c,d]=>a<bP/\b<bP/\c<bP/\d<bP | _=>False,sem:=fun | [a,b,c,d]=>[toE (ofE a+ofE c),toE (ofE b+ofE d)] | _=>[] }
def kE2Sub (f:FuncId):K:={fn:=f,ext:=false,ins:=[iE2,iE2],outs:=[oE2],pre:=fun | [a,b,c,d]=>a<bP/\b<bP/\c<bP/\d<bP | _=>False,sem:=fun | [a,b,c,d]=>[toE (ofE a-ofE c),toE (ofE b-ofE d)] | _=>[] }
def kE2Mul (f:FuncId):K:={fn:=f,ext:=false,ins:=[iE2,iE2],outs:=[oE2],pre:=fun | [a,b,c,d]=>a<bP/\b<bP/\c<bP/\d<bP | _=>False,sem:=fun | [a,b,c,d]=>[toE (ofE a*ofE c-ofE b*ofE d),toE (ofE a*ofE d+ofE b*ofE c)] | _=>[] }
def kE2Norm (f:FuncId):K:={fn:=f,ext:=false,ins:=[iE2],outs:=[oN],pre:=fun | [a,b]=>a<bP/\b<bP | _=>False,sem:=fun | [a,b]=>[toE (ofE a*ofE a+ofE b*ofE b)] | _=>[] }
def kE2Scale (f:FuncId):K:={fn:=f,ext:=false,ins:=[iE2,iN],outs:=[oE2],pre:=fun | [a,b,n]=>a<bP/\b<bP/\n<bP | _=>False,sem:=fun | [a,b,n]=>[toE (ofE a*ofE n),toE (ofE b*ofE n)] | _=>[] }
def tE2Add:Tree:=(.req 0 [.var 0,.var 2]
(.lett 196 .num (.app 0 0 [.var 0,.var 2])
(.req 0 [.var 1,.var 3]
(.lett 436 .num (.app 0 0 [.var 1,.var 3])
(.ret [.var 196,.var 436])))))
theorem law_e2Add (f1 f:FuncId) (e:Nat->Int) (hk:kkHas [.num,.num,.num,.num] [e 0,e 1,e 2,e 3]) (hp:(kE2Add f).pre [e 0,e 1,e 2,e 3]):tE2Add.says [kEAdd f1] ⟨fun ys=>ys=(kE2Add f).sem [e 0,e 1,e 2,e 3],[]⟩ e:=by
 obtain ⟨u0,u1,u2,u3⟩:e 0<bP/\e 1<bP/\e 2<bP/\e 3<bP:=hp
 obtain ⟨h0,h1,h2,h3,_⟩:=hk
 have q0:=E_of h0.1 u0
 have q1:=E_of h1.1 u1
 have q2:=E_of h2.1 u2
 have q3:=E_of h3.1 u3
 clear u0 h0 u1 h1 u2 h2 u3 h3
 show tE2Add.says _ ⟨fun ys=>ys=[toE (ofE (e 0)+ofE (e 2)),toE (ofE (e 1)+ofE (e 3))],[]⟩ e
 refine ⟨⟨E_lt q0,E_lt q2⟩,?_⟩
 intro a196 k196
 have q196:=Eadd (show e 196=toE (ofE (e 0)+ofE (e 2)) from a196) q0 q2
 clear a196 k196
 refine ⟨⟨E_lt q1,E_lt q3⟩,?_⟩
 intro a436 k436
 have q436:=Eadd (show e 436=toE (ofE (e 1)+ofE (e 3)) from a436) q1 q3
 clear a436 k436
 show [e 196,e 436]=_
 rw [q196,q436]
 all_goals rfl
def tE2Sub:Tree:=(.req 0 [.var 0,.var 2]
(.lett 196 .num (.app 0 0 [.var 0,.var 2])
(.req 0 [.var 1,.var 3]
(.lett 436 .num (.app 0 0 [.var 1,.var 3])
(.ret [.var 196,.var 436])))))
theorem law_e2Sub (f1 f:FuncId) (e:Nat->Int) (hk:kkHas [.num,.num,.num,.num] [e 0,e 1,e 2,e 3]) (hp:(kE2Sub f).pre [e 0,e 1,e 2,e 3]):tE2Sub.says [kESub f1] ⟨fun ys=>ys=(kE2Sub f).sem [e 0,e 1,e 2,e 3],[]⟩ e:=by
 obtain ⟨u0,u1,u2,u3⟩:e 0<bP/\e 1<bP/\e 2<bP/\e 3<bP:=hp
 obtain ⟨h0,h1,h2,h3,_⟩:=hk
 have q0:=E_of h0.1 u0
 have q1:=E_of h1.1 u1
 have q2:=E_of h2.1 u2
 have q3:=E_of h3.1 u3
 clear u0 h0 u1 h1 u2 h2 u3 h3
 show tE2Sub.says _ ⟨fun ys=>ys=[toE (ofE (e 0)-ofE (e 2)),toE (ofE (e 1)-ofE (e 3))],[]⟩ e
 refine ⟨⟨E_lt q0,E_lt q2⟩,?_⟩
 intro a196 k196
 have q196:=Esub (show e 196=toE (ofE (e 0)-ofE (e 2)) from a196) q0 q2
 clear a196 k196
 refine ⟨⟨E_lt q1,E_lt q3⟩,?_⟩
 intro a436 k436
 have q436:=Esub (show e 436=toE (ofE (e 1)-ofE (e 3)) from a436) q1 q3
 clear a436 k436
 show [e 196,e 436]=_
 rw [q196,q436]
 all_goals rfl
theorem cross2 (a b c d:Int):(a+b)*(c+d)-a*c-b*d=a*d+b*c:=by grind
def tE2Mul:Tree:=(.req 0 [.var 0,.var 2]
(.lett 196 .num (.app 0 0 [.var 0,.var 2])
(.req 0 [.var 1,.var 3]
(.lett 436 .num (.app 0 0 [.var 1,.var 3])
(.req 1 [.var 0,.var 1]
(.lett 868 .num (.app 1 0 [.var 0,.var 1])
(.req 1 [.var 2,.var 3]
(.lett 1108 .num (.app 1 0 [.var 2,.var 3])
(.req 0 [.var 868,.var 1108]
(.lett 1156 .num (.app 0 0 [.var 868,.var 1108])
(.req 2 [.var 196,.var 436]
(.lett 1396 .num (.app 2 0 [.var 196,.var 436])
(.req 2 [.var 1156,.var 196]
(.lett 1540 .num (.app 2 0 [.var 1156,.var 196])
(.req 2 [.var 1540,.var 436]
(.lett 1636 .num (.app 2 0 [.var 1540,.var 436])
(.ret [.var 1396,.var 1636])))))))))))))))))
theorem law_e2Mul (f1 f2 f3 f:FuncId) (e:Nat->Int) (hk:kkHas [.num,.num,.num,.num] [e 0,e 1,e 2,e 3]) (hp:(kE2Mul f).pre [e 0,e 1,e 2,e 3]):tE2Mul.says [kEMul f1,kEAdd f2,kESub f3] ⟨fun ys=>ys=(kE2Mul f).sem [e 0,e 1,e 2,e 3],[]⟩ e:=by
 obtain ⟨u0,u1,u2,u3⟩:e 0<bP/\e 1<bP/\e 2<bP/\e 3<bP:=hp
 obtain ⟨h0,h1,h2,h3,_⟩:=hk
 have q0:=E_of h0.1 u0
 have q1:=E_of h1.1 u1
 have q2:=E_of h2.1 u2
 have q3:=E_of h3.1 u3
 clear u0 h0 u1 h1 u2 h2 u3 h3
 show tE2Mul.says _ ⟨fun ys=>ys=[toE (ofE (e 0)*ofE (e 2)-ofE (e 1)*ofE (e 3)),toE (ofE (e 0)*ofE (e 3)+ofE (e 1)*ofE (e 2))],[]⟩ e
 refine ⟨⟨E_lt q0,E_lt q2⟩,?_⟩
 intro a196 k196
 have q196:=Emul (show e 196=toE (ofE (e 0)*ofE (e 2)) from a196) q0 q2
 clear a196 k196
 refine ⟨⟨E_lt q1,E_lt q3⟩,?_⟩
 intro a436 k436
 have q436:=Emul (show e 436=toE (ofE (e 1)*ofE (e 3)) from a436) q1 q3
 clear a436 k436
 refine ⟨⟨E_lt q0,E_lt q1⟩,?_⟩
 intro a868 k868
 have q868:=Eadd (show e 868=toE (ofE (e 0)+ofE (e 1)) from a868) q0 q1
 clear a868 k868
 refine ⟨⟨E_lt q2,E_lt q3⟩,?_⟩
 intro a1108 k1108
 have q1108:=Eadd (show e 1108=toE (ofE (e 2)+ofE (e 3)) from a1108) q2 q3
 clear a1108 k1108
 refine ⟨⟨E_lt q868,E_lt q1108⟩,?_⟩
 intro a1156 k1156
 have q1156:=Emul (show e 1156=toE (ofE (e 868)*ofE (e 1108)) from a1156) q868 q1108
 clear a1156 k1156
 refine ⟨⟨E_lt q196,E_lt q436⟩,?_⟩
 intro a1396 k1396
 have q1396:=Esub (show e 1396=toE (ofE (e 196)-ofE (e 436)) from a1396) q196 q436
 clear a1396 k1396
 refine ⟨⟨E_lt q1156,E_lt q196⟩,?_⟩
 intro a1540 k1540
 have q1540:=Esub (show e 1540=toE (ofE (e 1156)-ofE (e 196)) from a1540) q1156 q196
 clear a1540 k1540
 refine ⟨⟨E_lt q1540,E_lt q436⟩,?_⟩
 intro a1636 k1636
 have q1636:=Esub (show e 1636=toE (ofE (e 1540)-ofE (e 436)) from a1636) q1540 q436
 clear a1636 k1636
 show [e 1396,e 1636]=_
 rw [q1396,q1636]
 rw [cross2]
def tE2Norm:Tree:=(.req 0 [.var 0,.var 0]
(.lett 194 .num (.app 0 0 [.var 0,.var 0])
(.req 0 [.var 1,.var 1]
(.lett 434 .num (.app 0 0 [.var 1,.var 1])
(.req 1 [.var 194,.var 434]
(.lett 482 .num (.app 1 0 [.var 194,.var 434])
(.ret [.var 482])))))))
theorem law_e2Norm (f1 f2 f:FuncId) (e:Nat->Int) (hk:kkHas [.num,.num] [e 0,e 1]) (hp:(kE2Norm f).pre [e 0,e 1]):tE2Norm.says [kEMul f1,kEAdd f2] ⟨fun ys=>ys=(kE2Norm f).sem [e 0,e 1],[]⟩ e:=by
 obtain ⟨u0,u1⟩:e 0<bP/\e 1<bP:=hp
 obtain ⟨h0,h1,_⟩:=hk
 have q0:=E_of h0.1 u0
 have q1:=E_of h1.1 u1
 clear u0 h0 u1 h1
 show tE2Norm.says _ ⟨fun ys=>ys=[toE (ofE (e 0)*ofE (e 0)+ofE (e 1)*ofE (e 1))],[]⟩ e
 refine ⟨⟨E_lt q0,E_lt q0⟩,?_⟩
 intro a194 k194
 have q194:=Emul (show e 194=toE (ofE (e 0)*ofE (e 0)) from a194) q0 q0
 clear a194 k194
 refine ⟨⟨E_lt q1,E_lt q1⟩,?_⟩
 intro a434 k434
 have q434:=Emul (show e 434=toE (ofE (e 1)*ofE (e 1)) from a434) q1 q1
 clear a434 k434
 refine ⟨⟨E_lt q194,E_lt q434⟩,?_⟩
 intro a482 k482
 have q482:=Eadd (show e 482=toE (ofE (e 194)+ofE (e 434)) from a482) q194 q434
 clear a482 k482
 show [e 482]=_
 rw [q482]
 all_goals rfl
def tE2Scale:Tree:=(.req 0 [.var 0,.var 2]
(.lett 147 .num (.app 0 0 [.var 0,.var 2])
(.req 0 [.var 1,.var 2]
(.lett 339 .num (.app 0 0 [.var 1,.var 2])
(.ret [.var 147,.var 339])))))
theorem law_e2Scale (f1 f:FuncId) (e:Nat->Int) (hk:kkHas [.num,.num,.num] [e 0,e 1,e 2]) (hp:(kE2Scale f).pre [e 0,e 1,e 2]):tE2Scale.says [kEMul f1] ⟨fun ys=>ys=(kE2Scale f).sem [e 0,e 1,e 2],[]⟩ e:=by
 obtain ⟨u0,u1,u2⟩:e 0<bP/\e 1<bP/\e 2<bP:=hp
 obtain ⟨h0,h1,h2,_⟩:=hk
 have q0:=E_of h0.1 u0
 have q1:=E_of h1.1 u1
 have q2:=E_of h2.1 u2
 clear u0 h0 u1 h1 u2 h2
 show tE2Scale.says _ ⟨fun ys=>ys=[toE (ofE (e 0)*ofE (e 2)),toE (ofE (e 1)*ofE (e 2))],[]⟩ e
 refine ⟨⟨E_lt q0,E_lt q2⟩,?_⟩
 intro a147 k147
 have q147:=Emul (show e 147=toE (ofE (e 0)*ofE (e 2)) from a147) q0 q2
 clear a147 k147
 refine ⟨⟨E_lt q1,E_lt q2⟩,?_⟩
 intro a339 k339
 have q339:=Emul (show e 339=toE (ofE (e 1)*ofE (e 2)) from a339) q1 q2
 clear a339 k339
 show [e 147,e 339]=_
 rw [q147,q339]
 all_goals rfl
def Fo.ls2 (o:Fo):List L:=[.cst (.fn o.add []),.cst (.fn o.sub []),.cst (.fn o.mul []),.cst (.fn o.inv []),.num,.num,.num,.num]
abbrev ls6:List L:=[.num,.num,.num,.num,.num,.num]
abbrev lsQ2:List L:=[.num,.num,.num,.num,.bool]
def ofJ2 (a b c d x y:Int):J E2:=⟨(ofE a,ofE b),(ofE c,ofE d),(ofE x,ofE y)⟩
def J.e2 (P:J E2):List Int:=[toE P.x.1,toE P.x.2,toE P.y.1,toE P.y.2,toE P.z.1,toE P.z.2]
def kRaise2 (o:Fo) (f:FuncId):K:={fn:=f,ext:=false,ins:=[.agg o.ls2,.agg lsQ2],outs:=[.agg ls6],pre:=fun _=>True,sem:=fun | [u,v,_,_,a,b,c,d,z]=>if z=0 then [a,b,c,d,u,v] else [u,v,u,v,0,0] | _=>[] }
def kTwice2 (o:Fo) (f:FuncId):K:={fn:=f,ext:=false,ins:=[.agg o.ls2,.agg ls6],outs:=[.agg ls6],pre:=fun | [_,_,_,_,a,b,c,d,x,y]=>(a<bP/\b<bP)/\(c<bP/\d<bP)/\(x<bP/\y<bP) | _=>False,sem:=fun | [_,_,_,_,a,b,c,d,x,y]=>(dblJ R2 (ofJ2 a b c d x y)).e2 | _=>[] }
def kSum2J (o:Fo) (f:FuncId):K:={fn:=f,ext:=false,ins:=[.agg o.ls2,.agg ls6,.agg ls6],outs:=[.agg ls6],pre:=fun | [u,v,_,_,a,b,c,d,x,y,a',b',c',d',x',y']=>(u=toE 1/\v=0)/\((a<bP/\b<bP)/\(c<bP/\d<bP)/\(x<bP/\y<bP))/\((a'<bP/\b'<bP)/\(c'<bP/\d'<bP)/\(x'<bP/\y'<bP)) | _=>False,sem:=fun | [_,_,_,_,a,b,c,d,x,y,a',b',c',d',x',y']=>(sumJ R2 (ofJ2 a b c d x y) (ofJ2 a' b' c' d' x' y')).e2 | _=>[] }
def t2Raise:Tree:=(.split 8
(.ret [.var 0,.var 1,.var 0,.var 1,.lit 0,.lit 0])
(.ret [.var 4,.var 5,.var 6,.var 7,.var 0,.var 1]))
theorem law_raise2 (o:Fo) (f:FuncId) (e:Nat->Int):t2Raise.says [] ⟨fun ys=>ys=(kRaise2 o f).sem [e 0,e 1,e 2,e 3,e 4,e 5,e 6,e 7,e 8],[]⟩ e:=by
 refine ⟨fun h=>?_,fun h=>?_⟩
 ·show [e 0,e 1,e 0,e 1,0,0]=if e 8=0 then [e 4,e 5,e 6,e 7,e 0,e 1] else [e 0,e 1,e 0,e 1,0,0]
  rw [if_neg h]
 ·show [e 4,e 5,e 6,e 7,e 0,e 1]=if e 8=0 then [e 4,e 5,e 6,e 7,e 0,e 1] else [e 0,e 1,e 0,e 1,0,0]
  rw [if_pos h]
def t2Twice:Tree:=(.req 2 [.var 6,.var 7,.var 6,.var 7]
(.lett 10 .num (.app 2 0 [.var 6,.var 7,.var 6,.var 7])
(.lett 11 .num (.app 2 1 [.var 6,.var 7,.var 6,.var 7])
(.req 2 [.var 4,.var 5,.var 10,.var 11]
(.lett 12 .num (.app 2 0 [.var 4,.var 5,.var 10,.var 11])
(.lett 13 .num (.app 2 1 [.var 4,.var 5,.var 10,.var 11])
(.req 0 [.var 12,.var 13,.var 12,.var 13]
(.lett 14 .num (.app 0 0 [.var 12,.var 13,.var 12,.var 13])
(.lett 15 .num (.app 0 1 [.var 12,.var 13,.var 12,.var 13])
(.req 0 [.var 14,.var 15,.var 14,.var 15]
(.lett 16 .num (.app 0 0 [.var 14,.var 15,.var 14,.var 15])
(.lett 17 .num (.app 0 1 [.var 14,.var 15,.var 14,.var 15])
(.req 2 [.var 4,.var 5,.var 4,.var 5]
(.lett 18 .num (.app 2 0 [.var 4,.var 5,.var 4,.var 5])
(.lett 19 .num (.app 2 1 [.var 4,.var 5,.var 4,.var 5])
(.req 0 [.var 18,.var 19,.var 18,.var 19]
(.lett 308 .num (.app 0 0 [.var 18,.var 19,.var 18,.var 19])
(.lett 309 .num (.app 0 1 [.var 18,.var 19,.var 18,.var 19])
(.req 0 [.var 308,.var 309,.var 18,.var 19]
(.lett 404 .num (.app 0 0 [.var 308,.var 309,.var 18,.var 19])
(.lett 405 .num (.app 0 1 [.var 308,.var 309,.var 18,.var 19])
(.req 2 [.var 404,.var 405,.var 404,.var 405]
(.lett 788 .num (.app 2 0 [.var 404,.var 405,.var 404,.var 405])
(.lett 789 .num (.app 2 1 [.var 404,.var 405,.var 404,.var 405])
(.req 0 [.var 16,.var 17,.var 16,.var 17]
(.lett 1028 .num (.app 0 0 [.var 16,.var 17,.var 16,.var 17])
(.lett 1029 .num (.app 0 1 [.var 16,.var 17,.var 16,.var 17])
(.req 1 [.var 788,.var 789,.var 1028,.var 1029]
(.lett 1076 .num (.app 1 0 [.var 788,.var 789,.var 1028,.var 1029])
(.lett 1077 .num (.app 1 1 [.var 788,.var 789,.var 1028,.var 1029])
(.req 2 [.var 10,.var 11,.var 10,.var 11]
(.lett 1220 .num (.app 2 0 [.var 10,.var 11,.var 10,.var 11])
(.lett 1221 .num (.app 2 1 [.var 10,.var 11,.var 10,.var 11])
(.req 0 [.var 1220,.var 1221,.var 1220,.var 1221]
(.lett 1222 .num (.app 0 0 [.var 1220,.var 1221,.var 1220,.var 1221])
(.lett 1223 .num (.app 0 1 [.var 1220,.var 1221,.var 1220,.var 1221])
(.req 0 [.var 1222,.var 1223,.var 1222,.var 1223]
(.lett 1224 .num (.app 0 0 [.var 1222,.var 1223,.var 1222,.var 1223])
(.lett 1225 .num (.app 0 1 [.var 1222,.var 1223,.var 1222,.var 1223])
(.req 0 [.var 1224,.var 1225,.var 1224,.var 1225]
(.lett 1226 .num (.app 0 0 [.var 1224,.var 1225,.var 1224,.var 1225])
(.lett 1227 .num (.app 0 1 [.var 1224,.var 1225,.var 1224,.var 1225])
(.req 2 [.var 6,.var 7,.var 8,.var 9]
(.lett 1228 .num (.app 2 0 [.var 6,.var 7,.var 8,.var 9])
(.lett 1229 .num (.app 2 1 [.var 6,.var 7,.var 8,.var 9])
(.req 1 [.var 16,.var 17,.var 1076,.var 1077]
(.lett 1710 .num (.app 1 0 [.var 16,.var 17,.var 1076,.var 1077])
(.lett 1711 .num (.app 1 1 [.var 16,.var 17,.var 1076,.var 1077])
(.req 2 [.var 404,.var 405,.var 1710,.var 1711]
(.lett 1758 .num (.app 2 0 [.var 404,.var 405,.var 1710,.var 1711])
(.lett 1759 .num (.app 2 1 [.var 404,.var 405,.var 1710,.var 1711])
(.req 1 [.var 1758,.var 1759,.var 1226,.var 1227]
(.lett 1854 .num (.app 1 0 [.var 1758,.var 1759,.var 1226,.var 1227])
(.lett 1855 .num (.app 1 1 [.var 1758,.var 1759,.var 1226,.var 1227])
(.req 0 [.var 1228,.var 1229,.var 1228,.var 1229]
(.lett 2094 .num (.app 0 0 [.var 1228,.var 1229,.var 1228,.var 1229])
(.lett 2095 .num (.app 0 1 [.var 1228,.var 1229,.var 1228,.var 1229])
(.ret [.var 1076,.var 1077,.var 1854,.var 1855,.var 2094,.var 2095]))))))))))))))))))))))))))))))))))))))))))))))))))))))))))
theorem law_twice2 (o:Fo) (f1 f2 f3 f:FuncId) (e:Nat->Int) (hk:kkHas [.num,.num,.num,.num,.num,.num,.num,.num,.num,.num] [e 0,e 1,e 2,e 3,e 4,e 5,e 6,e 7,e 8,e 9]) (hp:(kTwice2 o f).pre [e 0,e 1,e 2,e 3,e 4,e 5,e 6,e 7,e 8,e 9]):t2Twice.says [kE2Add f1,kE2Sub f2,kE2Mul f3] ⟨fun ys=>ys=(kTwice2 o f).sem [e 0,e 1,e 2,e 3,e 4,e 5,e 6,e 7,e 8,e 9],[]⟩ e:=by
 obtain ⟨⟨u4,u5⟩,⟨u6,u7⟩,u8,u9⟩:(e 4<bP/\e 5<bP)/\(e 6<bP/\e 7<bP)/\(e 8<bP/\e 9<bP):=hp
 obtain ⟨_,_,_,_,h4,h5,h6,h7,h8,h9,_⟩:=hk
 have q5:=EQ_self h4.1 u4 h5.1 u5
 have q7:=EQ_self h6.1 u6 h7.1 u7
 have q9:=EQ_self h8.1 u8 h9.1 u9
 clear u4 u5 u6 u7 u8 u9 h4 h5 h6 h7 h8 h9
 show t2Twice.says _ ⟨fun ys=>ys=(dblJ R2 (ofJ2 (e 4) (e 5) (e 6) (e 7) (e 8) (e 9))).e2,[]⟩ e
 refine ⟨⟨EQ.l1 q7,EQ.l2 q7,EQ.l1 q7,EQ.l2 q7⟩,?_⟩
 intro a10 k10
 have q10:=(show e 10=toE (ofE (e 6)*ofE (e 6)-ofE (e 7)*ofE (e 7)) from a10)
 clear a10 k10
 intro a11 k11
 have q11:=EQ_mul q10 (show e 11=toE (ofE (e 6)*ofE (e 7)+ofE (e 7)*ofE (e 6)) from a11) q7 q7
 clear a11 k11
 refine ⟨⟨EQ.l1 q5,EQ.l2 q5,EQ.l1 q11,EQ.l2 q11⟩,?_⟩
 intro a12 k12
 have q12:=(show e 12=toE (ofE (e 4)*ofE (e 10)-ofE (e 5)*ofE (e 11)) from a12)
 clear a12 k12
 intro a13 k13
 have q13:=EQ_mul q12 (show e 13=toE (ofE (e 4)*ofE (e 11)+ofE (e 5)*ofE (e 10)) from a13) q5 q11
 clear a13 k13
 refine ⟨⟨EQ.l1 q13,EQ.l2 q13,EQ.l1 q13,EQ.l2 q13⟩,?_⟩
 intro a14 k14
 have q14:=(show e 14=toE (ofE (e 12)+ofE (e 12)) from a14)
 clear a14 k14
 intro a15 k15
 have q15:=EQ_add q14 (show e 15=toE (ofE (e 13)+ofE (e 13)) from a15) q13 q13
 clear a15 k15
 refine ⟨⟨EQ.l1 q15,EQ.l2 q15,EQ.l1 q15,EQ.l2 q15⟩,?_⟩
 intro a16 k16
 have q16:=(show e 16=toE (ofE (e 14)+ofE (e 14)) from a16)
 clear a16 k16
 intro a17 k17
 have q17:=EQ_add q16 (show e 17=toE (ofE (e 15)+ofE (e 15)) from a17) q15 q15
 clear a17 k17
 refine ⟨⟨EQ.l1 q5,EQ.l2 q5,EQ.l1 q5,EQ.l2 q5⟩,?_⟩
 intro a18 k18
 have q18:=(show e 18=toE (ofE (e 4)*ofE (e 4)-ofE (e 5)*ofE (e 5)) from a18)
 clear a18 k18
 intro a19 k19
 have q19:=EQ_mul q18 (show e 19=toE (ofE (e 4)*ofE (e 5)+ofE (e 5)*ofE (e 4)) from a19) q5 q5
 clear a19 k19
 refine ⟨⟨EQ.l1 q19,EQ.l2 q19,EQ.l1 q19,EQ.l2 q19⟩,?_⟩
 intro a308 k308
 have q308:=(show e 308=toE (ofE (e 18)+ofE (e 18)) from a308)
 clear a308 k308
 intro a309 k309
 have q309:=EQ_add q308 (show e 309=toE (ofE (e 19)+ofE (e 19)) from a309) q19 q19
 clear a309 k309
 refine ⟨⟨EQ.l1 q309,EQ.l2 q309,EQ.l1 q19,EQ.l2 q19⟩,?_⟩
 intro a404 k404
 have q404:=(show e 404=toE (ofE (e 308)+ofE (e 18)) from a404)
 clear a404 k404
 intro a405 k405
 have q405:=EQ_add q404 (show e 405=toE (ofE (e 309)+ofE (e 19)) from a405) q309 q19
 clear a405 k405
 refine ⟨⟨EQ.l1 q405,EQ.l2 q405,EQ.l1 q405,EQ.l2 q405⟩,?_⟩
 intro a788 k788
 have q788:=(show e 788=toE (ofE (e 404)*ofE (e 404)-ofE (e 405)*ofE (e 405)) from a788)
 clear a788 k788
 intro a789 k789
 have q789:=EQ_mul q788 (show e 789=toE (ofE (e 404)*ofE (e 405)+ofE (e 405)*ofE (e 404)) from a789) q405 q405
 clear a789 k789
 refine ⟨⟨EQ.l1 q17,EQ.l2 q17,EQ.l1 q17,EQ.l2 q17⟩,?_⟩
 intro a1028 k1028
 have q1028:=(show e 1028=toE (ofE (e 16)+ofE (e 16)) from a1028)
 clear a1028 k1028
 intro a1029 k1029
 have q1029:=EQ_add q1028 (show e 1029=toE (ofE (e 17)+ofE (e 17)) from a1029) q17 q17
 clear a1029 k1029
 refine ⟨⟨EQ.l1 q789,EQ.l2 q789,EQ.l1 q1029,EQ.l2 q1029⟩,?_⟩
 intro a1076 k1076
 have q1076:=(show e 1076=toE (ofE (e 788)-ofE (e 1028)) from a1076)
 clear a1076 k1076
 intro a1077 k1077
 have q1077:=EQ_sub q1076 (show e 1077=toE (ofE (e 789)-ofE (e 1029)) from a1077) q789 q1029
 clear a1077 k1077
 refine ⟨⟨EQ.l1 q11,EQ.l2 q11,EQ.l1 q11,EQ.l2 q11⟩,?_⟩
 intro a1220 k1220
 have q1220:=(show e 1220=toE (ofE (e 10)*ofE (e 10)-ofE (e 11)*ofE (e 11)) from a1220)
 clear a1220 k1220
 intro a1221 k1221
 have q1221:=EQ_mul q1220 (show e 1221=toE (ofE (e 10)*ofE (e 11)+ofE (e 11)*ofE (e 10)) from a1221) q11 q11
 clear a1221 k1221
 refine ⟨⟨EQ.l1 q1221,EQ.l2 q1221,EQ.l1 q1221,EQ.l2 q1221⟩,?_⟩
 intro a1222 k1222
 have q1222:=(show e 1222=toE (ofE (e 1220)+ofE (e 1220)) from a1222)
 clear a1222 k1222
 intro a1223 k1223
 have q1223:=EQ_add q1222 (show e 1223=toE (ofE (e 1221)+ofE (e 1221)) from a1223) q1221 q1221
 clear a1223 k1223
 refine ⟨⟨EQ.l1 q1223,EQ.l2 q1223,EQ.l1 q1223,EQ.l2 q1223⟩,?_⟩
 intro a1224 k1224
 have q1224:=(show e 1224=toE (ofE (e 1222)+ofE (e 1222)) from a1224)
 clear a1224 k1224
 intro a1225 k1225
 have q1225:=EQ_add q1224 (show e 1225=toE (ofE (e 1223)+ofE (e 1223)) from a1225) q1223 q1223
 clear a1225 k1225
 refine ⟨⟨EQ.l1 q1225,EQ.l2 q1225,EQ.l1 q1225,EQ.l2 q1225⟩,?_⟩
 intro a1226 k1226
 have q1226:=(show e 1226=toE (ofE (e 1224)+ofE (e 1224)) from a1226)
 clear a1226 k1226
 intro a1227 k1227
 have q1227:=EQ_add q1226 (show e 1227=toE (ofE (e 1225)+ofE (e 1225)) from a1227) q1225 q1225
 clear a1227 k1227
 refine ⟨⟨EQ.l1 q7,EQ.l2 q7,EQ.l1 q9,EQ.l2 q9⟩,?_⟩
 intro a1228 k1228
 have q1228:=(show e 1228=toE (ofE (e 6)*ofE (e 8)-ofE (e 7)*ofE (e 9)) from a1228)
 clear a1228 k1228
 intro a1229 k1229
 have q1229:=EQ_mul q1228 (show e 1229=toE (ofE (e 6)*ofE (e 9)+ofE (e 7)*ofE (e 8)) from a1229) q7 q9
 clear a1229 k1229
 refine ⟨⟨EQ.l1 q17,EQ.l2 q17,EQ.l1 q1077,EQ.l2 q1077⟩,?_⟩
 intro a1710 k1710
 have q1710:=(show e 1710=toE (ofE (e 16)-ofE (e 1076)) from a1710)
 clear a1710 k1710
 intro a1711 k1711
 have q1711:=EQ_sub q1710 (show e 1711=toE (ofE (e 17)-ofE (e 1077)) from a1711) q17 q1077
 clear a1711 k1711
 refine ⟨⟨EQ.l1 q405,EQ.l2 q405,EQ.l1 q1711,EQ.l2 q1711⟩,?_⟩
 intro a1758 k1758
 have q1758:=(show e 1758=toE (ofE (e 404)*ofE (e 1710)-ofE (e 405)*ofE (e 1711)) from a1758)
 clear a1758 k1758
 intro a1759 k1759
 have q1759:=EQ_mul q1758 (show e 1759=toE (ofE (e 404)*ofE (e 1711)+ofE (e 405)*ofE (e 1710)) from a1759) q405 q1711
 clear a1759 k1759
 refine ⟨⟨EQ.l1 q1759,EQ.l2 q1759,EQ.l1 q1227,EQ.l2 q1227⟩,?_⟩
 intro a1854 k1854
 have q1854:=(show e 1854=toE (ofE (e 1758)-ofE (e 1226)) from a1854)
 clear a1854 k1854
 intro a1855 k1855
 have q1855:=EQ_sub q1854 (show e 1855=toE (ofE (e 1759)-ofE (e 1227)) from a1855) q1759 q1227
 clear a1855 k1855
 refine ⟨⟨EQ.l1 q1229,EQ.l2 q1229,EQ.l1 q1229,EQ.l2 q1229⟩,?_⟩
 intro a2094 k2094
 have q2094:=(show e 2094=toE (ofE (e 1228)+ofE (e 1228)) from a2094)
 clear a2094 k2094
 intro a2095 k2095
 have q2095:=EQ_add q2094 (show e 2095=toE (ofE (e 1229)+ofE (e 1229)) from a2095) q1229 q1229
 clear a2095 k2095
 show [e 1076,e 1077,e 1854,e 1855,e 2094,e 2095]=_
 rw [q1077.1,q1077.2,q1855.1,q1855.2,q2095.1,q2095.2];rfl
theorem Q_z {x y:Int} {Y:E2} (h:EQ x y Y) (k:x=0/\y=0):R2.isz Y=true:=isz3.2 ⟨z_E h.1 k.1,z_E h.2 k.2⟩
theorem Q_nz {x y:Int} {Y:E2} (h:EQ x y Y) (k:¬ (x=0/\y=0)):¬ R2.isz Y=true:=fun hc=>k ⟨h.1.trans (toE_zero.2 (isz3.1 hc).1),h.2.trans (toE_zero.2 (isz3.1 hc).2)⟩
theorem e2_self {a b c d x y:Int} {A C X:E2} (h:EQ a b A) (k:EQ c d C) (l:EQ x y X):(⟨A,C,X⟩:J E2).e2=[a,b,c,d,x,y]:=by
 show [toE A.1,toE A.2,toE C.1,toE C.2,toE X.1,toE X.2]=_
 rw [<- h.1,<- h.2,<- k.1,<- k.2,<- l.1,<- l.2]
def t2Sum:Tree:=(.lett 16 .bit (.eqs [((.limb 8 0),(.lit 0)),((.limb 8 1),(.lit 0)),((.limb 8 2),(.lit 0)),((.limb 8 3),(.lit 0)),((.limb 8 4),(.lit 0)),((.limb 8 5),(.lit 0)),((.limb 9 0),(.lit 0)),((.limb 9 1),(.lit 0)),((.limb 9 2),(.lit 0)),((.limb 9 3),(.lit 0)),((.limb 9 4),(.lit 0)),((.limb 9 5),(.lit 0))])
(.split 16
(.ret [.var 10,.var 11,.var 12,.var 13,.var 14,.var 15])
(.lett 17 .bit (.eqs [((.limb 14 0),(.lit 0)),((.limb 14 1),(.lit 0)),((.limb 14 2),(.lit 0)),((.limb 14 3),(.lit 0)),((.limb 14 4),(.lit 0)),((.limb 14 5),(.lit 0)),((.limb 15 0),(.lit 0)),((.limb 15 1),(.lit 0)),((.limb 15 2),(.lit 0)),((.limb 15 3),(.lit 0)),((.limb 15 4),(.lit 0)),((.limb 15 5),(.lit 0))])
(.split 17
 (.ret [.var 4,.var 5,.var 6,.var 7,.var 8,.var 9])
 (.req 2 [.var 8,.var 9,.var 8,.var 9]
 (.lett 306 .num (.app 2 0 [.var 8,.var 9,.var 8,.var 9])
 (.lett 307 .num (.app 2 1 [.var 8,.var 9,.var 8,.var 9])
 (.req 2 [.var 14,.var 15,.var 14,.var 15]
 (.lett 642 .num (.app 2 0 [.var 14,.var 15,.var 14,.var 15])
 (.lett 643 .num (.app 2 1 [.var 14,.var 15,.var 14,.var 15])
 (.req 2 [.var 4,.var 5,.var 642,.var 643]
 (.lett 1122 .num (.app 2 0 [.var 4,.var 5,.var 642,.var 643])
 (.lett 1123 .num (.app 2 1 [.var 4,.var 5,.var 642,.var 643])
 (.req 2 [.var 10,.var 11,.var 306,.var 307]
 (.lett 1410 .num (.app 2 0 [.var 10,.var 11,.var 306,.var 307])
 (.lett 1411 .num (.app 2 1 [.var 10,.var 11,.var 306,.var 307])
 (.req 2 [.var 642,.var 643,.var 14,.var 15]
 (.lett 2082 .num (.app 2 0 [.var 642,.var 643,.var 14,.var 15])
 (.lett 2083 .num (.app 2 1 [.var 642,.var 643,.var 14,.var 15])
 (.req 2 [.var 6,.var 7,.var 2082,.var 2083]
 (.lett 2130 .num (.app 2 0 [.var 6,.var 7,.var 2082,.var 2083])
 (.lett 2131 .num (.app 2 1 [.var 6,.var 7,.var 2082,.var 2083])
 (.req 2 [.var 306,.var 307,.var 8,.var 9]
 (.lett 2610 .num (.app 2 0 [.var 306,.var 307,.var 8,.var 9])
 (.lett 2611 .num (.app 2 1 [.var 306,.var 307,.var 8,.var 9])
 (.req 2 [.var 12,.var 13,.var 2610,.var 2611]
 (.lett 2658 .num (.app 2 0 [.var 12,.var 13,.var 2610,.var 2611])
 (.lett 2659 .num (.app 2 1 [.var 12,.var 13,.var 2610,.var 2611])
 (.req 1 [.var 1410,.var 1411,.var 1122,.var 1123]
 (.lett 3090 .num (.app 1 0 [.var 1410,.var 1411,.var 1122,.var 1123])
 (.lett 3091 .num (.app 1 1 [.var 1410,.var 1411,.var 1122,.var 1123])
 (.req 1 [.var 2658,.var 2659,.var 2130,.var 2131]
 (.lett 3330 .num (.app 1 0 [.var 2658,.var 2659,.var 2130,.var 2131])
 (.lett 3331 .num (.app 1 1 [.var 2658,.var 2659,.var 2130,.var 2131])
 (.lett 3570 .bit (.eqs [((.limb 3090 0),(.lit 0)),((.limb 3090 1),(.lit 0)),((.limb 3090 2),(.lit 0)),((.limb 3090 3),(.lit 0)),((.limb 3090 4),(.lit 0)),((.limb 3090 5),(.lit 0)),((.limb 3091 0),(.lit 0)),((.limb 3091 1),(.lit 0)),((.limb 3091 2),(.lit 0)),((.limb 3091 3),(.lit 0)),((.limb 3091 4),(.lit 0)),((.limb 3091 5),(.lit 0))])
 (.split 3570
 (.lett 3571 .bit (.eqs [((.limb 3330 0),(.lit 0)),((.limb 3330 1),(.lit 0)),((.limb 3330 2),(.lit 0)),((.limb 3330 3),(.lit 0)),((.limb 3330 4),(.lit 0)),((.limb 3330 5),(.lit 0)),((.limb 3331 0),(.lit 0)),((.limb 3331 1),(.lit 0)),((.limb 3331 2),(.lit 0)),((.limb 3331 3),(.lit 0)),((.limb 3331 4),(.lit 0)),((.limb 3331 5),(.lit 0))])
 (.split 3571
 (.req 3 [.var 0,.var 1,.var 2,.var 3,.var 4,.var 5,.var 6,.var 7,.var 8,.var 9]
 (.lett 3572 .num (.app 3 0 [.var 0,.var 1,.var 2,.var 3,.var 4,.var 5,.var 6,.var 7,.var 8,.var 9])
 (.lett 3573 .num (.app 3 1 [.var 0,.var 1,.var 2,.var 3,.var 4,.var 5,.var 6,.var 7,.var 8,.var 9])
 (.lett 3574 .num (.app 3 2 [.var 0,.var 1,.var 2,.var 3,.var 4,.var 5,.var 6,.var 7,.var 8,.var 9])
 (.lett 3575 .num (.app 3 3 [.var 0,.var 1,.var 2,.var 3,.var 4,.var 5,.var 6,.var 7,.var 8,.var 9])
 (.lett 3576 .num (.app 3 4 [.var 0,.var 1,.var 2,.var 3,.var 4,.var 5,.var 6,.var 7,.var 8,.var 9])
 (.lett 3577 .num (.app 3 5 [.var 0,.var 1,.var 2,.var 3,.var 4,.var 5,.var 6,.var 7,.var 8,.var 9])
 (.ret [.var 3572,.var 3573,.var 3574,.var 3575,.var 3576,.var 3577]))))))))
 (.ret [.var 0,.var 1,.var 0,.var 1,.lit 0,.lit 0])))
 (.req 2 [.var 3090,.var 3091,.var 3090,.var 3091]
 (.lett 3571 .num (.app 2 0 [.var 3090,.var 3091,.var 3090,.var 3091])
 (.lett 3572 .num (.app 2 1 [.var 3090,.var 3091,.var 3090,.var 3091])
 (.req 2 [.var 3571,.var 3572,.var 3090,.var 3091]
 (.lett 3573 .num (.app 2 0 [.var 3571,.var 3572,.var 3090,.var 3091])
 (.lett 3574 .num (.app 2 1 [.var 3571,.var 3572,.var 3090,.var 3091])
 (.req 2 [.var 1122,.var 1123,.var 3571,.var 3572]
 (.lett 3575 .num (.app 2 0 [.var 1122,.var 1123,.var 3571,.var 3572])
 (.lett 3576 .num (.app 2 1 [.var 1122,.var 1123,.var 3571,.var 3572])
 (.req 2 [.var 3330,.var 3331,.var 3330,.var 3331]
 (.lett 3961 .num (.app 2 0 [.var 3330,.var 3331,.var 3330,.var 3331])
 (.lett 3962 .num (.app 2 1 [.var 3330,.var 3331,.var 3330,.var 3331])
 (.req 1 [.var 3961,.var 3962,.var 3573,.var 3574]
 (.lett 4057 .num (.app 1 0 [.var 3961,.var 3962,.var 3573,.var 3574])
 (.lett 4058 .num (.app 1 1 [.var 3961,.var 3962,.var 3573,.var 3574])
 (.req 0 [.var 3575,.var 3576,.var 3575,.var 3576]
 (.lett 4297 .num (.app 0 0 [.var 3575,.var 3576,.var 3575,.var 3576])
 (.lett 4298 .num (.app 0 1 [.var 3575,.var 3576,.var 3575,.var 3576])
 (.req 1 [.var 4057,.var 4058,.var 4297,.var 4298]
 (.lett 4345 .num (.app 1 0 [.var 4057,.var 4058,.var 4297,.var 4298])
 (.lett 4346 .num (.app 1 1 [.var 4057,.var 4058,.var 4297,.var 4298])
 (.req 1 [.var 3575,.var 3576,.var 4345,.var 4346]
 (.lett 4969 .num (.app 1 0 [.var 3575,.var 3576,.var 4345,.var 4346])
 (.lett 4970 .num (.app 1 1 [.var 3575,.var 3576,.var 4345,.var 4346])
 (.req 2 [.var 3330,.var 3331,.var 4969,.var 4970]
 (.lett 5017 .num (.app 2 0 [.var 3330,.var 3331,.var 4969,.var 4970])
 (.lett 5018 .num (.app 2 1 [.var 3330,.var 3331,.var 4969,.var 4970])
 (.req 2 [.var 2130,.var 2131,.var 3573,.var 3574]
 (.lett 5257 .num (.app 2 0 [.var 2130,.var 2131,.var 3573,.var 3574])
 (.lett 5258 .num (.app 2 1 [.var 2130,.var 2131,.var 3573,.var 3574])
 (.req 1 [.var 5017,.var 5018,.var 5257,.var 5258]
 (.lett 5305 .num (.app 1 0 [.var 5017,.var 5018,.var 5257,.var 5258])
 (.lett 5306 .num (.app 1 1 [.var 5017,.var 5018,.var 5257,.var 5258])
 (.req 2 [.var 8,.var 9,.var 14,.var 15]
 (.lett 5785 .num (.app 2 0 [.var 8,.var 9,.var 14,.var 15])
 (.lett 5786 .num (.app 2 1 [.var 8,.var 9,.var 14,.var 15])
 (.req 2 [.var 3090,.var 3091,.var 5785,.var 5786]
 (.lett 5833 .num (.app 2 0 [.var 3090,.var 3091,.var 5785,.var 5786])
 (.lett 5834 .num (.app 2 1 [.var 3090,.var 3091,.var 5785,.var 5786])
 (.ret [.var 4345,.var 4346,.var 5305,.var 5306,.var 5833,.var 5834]))))))))))))))))))))))))))))))))))))))))))))))))))))))))))))))))))))))))))))
theorem law_sum2 (o:Fo) (f1 f2 f3 f4 f:FuncId) (e:Nat->Int) (hk:kkHas [.num,.num,.num,.num,.num,.num,.num,.num,.num,.num,.num,.num,.num,.num,.num,.num] [e 0,e 1,e 2,e 3,e 4,e 5,e 6,e 7,e 8,e 9,e 10,e 11,e 12,e 13,e 14,e 15]) (hp:(kSum2J o f).pre [e 0,e 1,e 2,e 3,e 4,e 5,e 6,e 7,e 8,e 9,e 10,e 11,e 12,e 13,e 14,e 15]):t2Sum.says [kE2Add f1,kE2Sub f2,kE2Mul f3,kTwice2 o f4] ⟨fun ys=>ys=(kSum2J o f).sem [e 0,e 1,e 2,e 3,e 4,e 5,e 6,e 7,e 8,e 9,e 10,e 11,e 12,e 13,e 14,e 15],[]⟩ e:=by
 obtain ⟨⟨q0,q1⟩,⟨⟨u4,u5⟩,⟨u6,u7⟩,u8,u9⟩,⟨u10,u11⟩,⟨u12,u13⟩,u14,u15⟩:(e 0=toE 1/\e 1=0)/\((e 4<bP/\e 5<bP)/\(e 6<bP/\e 7<bP)/\(e 8<bP/\e 9<bP))/\((e 10<bP/\e 11<bP)/\(e 12<bP/\e 13<bP)/\(e 14<bP/\e 15<bP)):=hp
 obtain ⟨_,_,_,_,h4,h5,h6,h7,h8,h9,h10,h11,h12,h13,h14,h15,_⟩:=hk
 have k8:=h8
 have k9:=h9
 have k14:=h14
 have k15:=h15
 have hd:(dblJ R2 (ofJ2 (e 4) (e 5) (e 6) (e 7) (e 8) (e 9))).e2=(dblJ R2 ⟨(ofE (e 4),ofE (e 5)),(ofE (e 6),ofE (e 7)),(ofE (e 8),ofE (e 9))⟩).e2:=rfl
 have q5:=EQ_self h4.1 u4 h5.1 u5
 have q7:=EQ_self h6.1 u6 h7.1 u7
 have q9:=EQ_self h8.1 u8 h9.1 u9
 have q11:=EQ_self h10.1 u10 h11.1 u11
 have q13:=EQ_self h12.1 u12 h13.1 u13
 have q15:=EQ_self h14.1 u14 h15.1 u15
 clear h4 h5 h6 h7 h8 h9 h10 h11 h12 h13 h14 h15
 show t2Sum.says _ ⟨fun ys=>ys=(sumJ R2 ⟨(ofE (e 4),ofE (e 5)),(ofE (e 6),ofE (e 7)),(ofE (e 8),ofE (e 9))⟩ ⟨(ofE (e 10),ofE (e 11)),(ofE (e 12),ofE (e 13)),(ofE (e 14),ofE (e 15))⟩).e2,[]⟩ e
 generalize (ofE (e 4),ofE (e 5))=X at *
 generalize (ofE (e 6),ofE (e 7))=Y at *
 generalize (ofE (e 8),ofE (e 9))=Z at *
 generalize (ofE (e 10),ofE (e 11))=X' at *
 generalize (ofE (e 12),ofE (e 13))=Y' at *
 generalize (ofE (e 14),ofE (e 15))=Z' at *
 intro a16 k16
 have b16:=c_num00 a16 k8 k9
 clear a16 k16
 refine ⟨fun h=>?_,fun h=>?_⟩
 ·have c16:=h
  have z1:=Q_z q9 (b_yes b16 c16)
  show [e 10,e 11,e 12,e 13,e 14,e 15]=_
  rw [sumJ_z1 z1,e2_self q11 q13 q15]
 ·have c16:=h
  have z1:=Q_nz q9 (b_no b16 c16)
  intro a17 k17
  have b17:=c_num00 a17 k14 k15
  clear a17 k17
  refine ⟨fun h=>?_,fun h=>?_⟩
  ·have c17:=h
   have z2:=Q_z q15 (b_yes b17 c17)
   show [e 4,e 5,e 6,e 7,e 8,e 9]=_
   rw [sumJ_z2 z1 z2,e2_self q5 q7 q9]
  ·have c17:=h
   have z2:=Q_nz q15 (b_no b17 c17)
   refine ⟨⟨EQ.l1 q9,EQ.l2 q9,EQ.l1 q9,EQ.l2 q9⟩,?_⟩
   intro a306 k306
   have q306:=(show e 306=toE (ofE (e 8)*ofE (e 8)-ofE (e 9)*ofE (e 9)) from a306)
   clear a306 k306
   intro a307 k307
   have q307:=EQ_mul q306 (show e 307=toE (ofE (e 8)*ofE (e 9)+ofE (e 9)*ofE (e 8)) from a307) q9 q9
   clear a307 k307
   refine ⟨⟨EQ.l1 q15,EQ.l2 q15,EQ.l1 q15,EQ.l2 q15⟩,?_⟩
   intro a642 k642
   have q642:=(show e 642=toE (ofE (e 14)*ofE (e 14)-ofE (e 15)*ofE (e 15)) from a642)
   clear a642 k642
   intro a643 k643
   have q643:=EQ_mul q642 (show e 643=toE (ofE (e 14)*ofE (e 15)+ofE (e 15)*ofE (e 14)) from a643) q15 q15
   clear a643 k643
   refine ⟨⟨EQ.l1 q5,EQ.l2 q5,EQ.l1 q643,EQ.l2 q643⟩,?_⟩
   intro a1122 k1122
   have q1122:=(show e 1122=toE (ofE (e 4)*ofE (e 642)-ofE (e 5)*ofE (e 643)) from a1122)
   clear a1122 k1122
   intro a1123 k1123
   have q1123:=EQ_mul q1122 (show e 1123=toE (ofE (e 4)*ofE (e 643)+ofE (e 5)*ofE (e 642)) from a1123) q5 q643
   clear a1123 k1123
   refine ⟨⟨EQ.l1 q11,EQ.l2 q11,EQ.l1 q307,EQ.l2 q307⟩,?_⟩
   intro a1410 k1410
   have q1410:=(show e 1410=toE (ofE (e 10)*ofE (e 306)-ofE (e 11)*ofE (e 307)) from a1410)
   clear a1410 k1410
   intro a1411 k1411
   have q1411:=EQ_mul q1410 (show e 1411=toE (ofE (e 10)*ofE (e 307)+ofE (e 11)*ofE (e 306)) from a1411) q11 q307
   clear a1411 k1411
   refine ⟨⟨EQ.l1 q643,EQ.l2 q643,EQ.l1 q15,EQ.l2 q15⟩,?_⟩
   intro a2082 k2082
   have q2082:=(show e 2082=toE (ofE (e 642)*ofE (e 14)-ofE (e 643)*ofE (e 15)) from a2082)
   clear a2082 k2082
   intro a2083 k2083
   have q2083:=EQ_mul q2082 (show e 2083=toE (ofE (e 642)*ofE (e 15)+ofE (e 643)*ofE (e 14)) from a2083) q643 q15
   clear a2083 k2083
   refine ⟨⟨EQ.l1 q7,EQ.l2 q7,EQ.l1 q2083,EQ.l2 q2083⟩,?_⟩
   intro a2130 k2130
   have q2130:=(show e 2130=toE (ofE (e 6)*ofE (e 2082)-ofE (e 7)*ofE (e 2083)) from a2130)
   clear a2130 k2130
   intro a2131 k2131
   have q2131:=EQ_mul q2130 (show e 2131=toE (ofE (e 6)*ofE (e 2083)+ofE (e 7)*ofE (e 2082)) from a2131) q7 q2083
   clear a2131 k2131
   refine ⟨⟨EQ.l1 q307,EQ.l2 q307,EQ.l1 q9,EQ.l2 q9⟩,?_⟩
   intro a2610 k2610
   have q2610:=(show e 2610=toE (ofE (e 306)*ofE (e 8)-ofE (e 307)*ofE (e 9)) from a2610)
   clear a2610 k2610
   intro a2611 k2611
   have q2611:=EQ_mul q2610 (show e 2611=toE (ofE (e 306)*ofE (e 9)+ofE (e 307)*ofE (e 8)) from a2611) q307 q9
   clear a2611 k2611
   refine ⟨⟨EQ.l1 q13,EQ.l2 q13,EQ.l1 q2611,EQ.l2 q2611⟩,?_⟩
   intro a2658 k2658
   have q2658:=(show e 2658=toE (ofE (e 12)*ofE (e 2610)-ofE (e 13)*ofE (e 2611)) from a2658)
   clear a2658 k2658
   intro a2659 k2659
   have q2659:=EQ_mul q2658 (show e 2659=toE (ofE (e 12)*ofE (e 2611)+ofE (e 13)*ofE (e 2610)) from a2659) q13 q2611
   clear a2659 k2659
   refine ⟨⟨EQ.l1 q1411,EQ.l2 q1411,EQ.l1 q1123,EQ.l2 q1123⟩,?_⟩
   intro a3090 k3090
   have q3090:=(show e 3090=toE (ofE (e 1410)-ofE (e 1122)) from a3090)
   clear a3090
   intro a3091 k3091
   have q3091:=EQ_sub q3090 (show e 3091=toE (ofE (e 1411)-ofE (e 1123)) from a3091) q1411 q1123
   clear a3091
   refine ⟨⟨EQ.l1 q2659,EQ.l2 q2659,EQ.l1 q2131,EQ.l2 q2131⟩,?_⟩
   intro a3330 k3330
   have q3330:=(show e 3330=toE (ofE (e 2658)-ofE (e 2130)) from a3330)
   clear a3330
   intro a3331 k3331
   have q3331:=EQ_sub q3330 (show e 3331=toE (ofE (e 2659)-ofE (e 2131)) from a3331) q2659 q2131
   clear a3331
   intro a3570 k3570
   have b3570:=c_num00 a3570 k3090 k3091
   clear a3570 k3570
   refine ⟨fun h=>?_,fun h=>?_⟩
   ·have c3570:=h
    have z3:=Q_z q3091 (b_yes b3570 c3570)
    intro a3571 k3571
    have b3571:=c_num00 a3571 k3330 k3331
    clear a3571 k3571
    refine ⟨fun h=>?_,fun h=>?_⟩
    ·have c3571:=h
     have z4:=Q_z q3331 (b_yes b3571 c3571)
     refine ⟨⟨⟨u4,u5⟩,⟨u6,u7⟩,u8,u9⟩,?_⟩
     intro a3572 k3572
     have q3572:=(show e 3572=((dblJ R2 (ofJ2 (e 4) (e 5) (e 6) (e 7) (e 8) (e 9))).e2).getD 0 0 from a3572)
     clear a3572 k3572
     intro a3573 k3573
     have q3573:=(show e 3573=((dblJ R2 (ofJ2 (e 4) (e 5) (e 6) (e 7) (e 8) (e 9))).e2).getD 1 0 from a3573)
     clear a3573 k3573
     intro a3574 k3574
     have q3574:=(show e 3574=((dblJ R2 (ofJ2 (e 4) (e 5) (e 6) (e 7) (e 8) (e 9))).e2).getD 2 0 from a3574)
     clear a3574 k3574
     intro a3575 k3575
     have q3575:=(show e 3575=((dblJ R2 (ofJ2 (e 4) (e 5) (e 6) (e 7) (e 8) (e 9))).e2).getD 3 0 from a3575)
     clear a3575 k3575
     intro a3576 k3576
     have q3576:=(show e 3576=((dblJ R2 (ofJ2 (e 4) (e 5) (e 6) (e 7) (e 8) (e 9))).e2).getD 4 0 from a3576)
     clear a3576 k3576
     intro a3577 k3577
     have q3577:=(show e 3577=((dblJ R2 (ofJ2 (e 4) (e 5) (e 6) (e 7) (e 8) (e 9))).e2).getD 5 0 from a3577)
     clear a3577 k3577
     show [e 3572,e 3573,e 3574,e 3575,e 3576,e 3577]=_
     rw [sumJ_dbl z1 z2 z3 z4,<- hd,q3572,q3573,q3574,q3575,q3576,q3577];rfl
    ·have c3571:=h
     have z4:=Q_nz q3331 (b_no b3571 c3571)
     show [e 0,e 1,e 0,e 1,0,0]=_
     rw [sumJ_opp z1 z2 z3 z4,q0,q1]
     show _=[toE 1,toE 0,toE 1,toE 0,toE 0,toE 0]
     rw [toE_0]
   ·have c3570:=h
    have z3:=Q_nz q3091 (b_no b3570 c3570)
    refine ⟨⟨EQ.l1 q3091,EQ.l2 q3091,EQ.l1 q3091,EQ.l2 q3091⟩,?_⟩
    intro a3571 k3571
    have q3571:=(show e 3571=toE (ofE (e 3090)*ofE (e 3090)-ofE (e 3091)*ofE (e 3091)) from a3571)
    clear a3571 k3571
    intro a3572 k3572
    have q3572:=EQ_mul q3571 (show e 3572=toE (ofE (e 3090)*ofE (e 3091)+ofE (e 3091)*ofE (e 3090)) from a3572) q3091 q3091
    clear a3572 k3572
    refine ⟨⟨EQ.l1 q3572,EQ.l2 q3572,EQ.l1 q3091,EQ.l2 q3091⟩,?_⟩
    intro a3573 k3573
    have q3573:=(show e 3573=toE (ofE (e 3571)*ofE (e 3090)-ofE (e 3572)*ofE (e 3091)) from a3573)
    clear a3573 k3573
    intro a3574 k3574
    have q3574:=EQ_mul q3573 (show e 3574=toE (ofE (e 3571)*ofE (e 3091)+ofE (e 3572)*ofE (e 3090)) from a3574) q3572 q3091
    clear a3574 k3574
    refine ⟨⟨EQ.l1 q1123,EQ.l2 q1123,EQ.l1 q3572,EQ.l2 q3572⟩,?_⟩
    intro a3575 k3575
    have q3575:=(show e 3575=toE (ofE (e 1122)*ofE (e 3571)-ofE (e 1123)*ofE (e 3572)) from a3575)
    clear a3575 k3575
    intro a3576 k3576
    have q3576:=EQ_mul q3575 (show e 3576=toE (ofE (e 1122)*ofE (e 3572)+ofE (e 1123)*ofE (e 3571)) from a3576) q1123 q3572
    clear a3576 k3576
    refine ⟨⟨EQ.l1 q3331,EQ.l2 q3331,EQ.l1 q3331,EQ.l2 q3331⟩,?_⟩
    intro a3961 k3961
    have q3961:=(show e 3961=toE (ofE (e 3330)*ofE (e 3330)-ofE (e 3331)*ofE (e 3331)) from a3961)
    clear a3961 k3961
    intro a3962 k3962
    have q3962:=EQ_mul q3961 (show e 3962=toE (ofE (e 3330)*ofE (e 3331)+ofE (e 3331)*ofE (e 3330)) from a3962) q3331 q3331
    clear a3962 k3962
    refine ⟨⟨EQ.l1 q3962,EQ.l2 q3962,EQ.l1 q3574,EQ.l2 q3574⟩,?_⟩
    intro a4057 k4057
    have q4057:=(show e 4057=toE (ofE (e 3961)-ofE (e 3573)) from a4057)
    clear a4057 k4057
    intro a4058 k4058
    have q4058:=EQ_sub q4057 (show e 4058=toE (ofE (e 3962)-ofE (e 3574)) from a4058) q3962 q3574
    clear a4058 k4058
    refine ⟨⟨EQ.l1 q3576,EQ.l2 q3576,EQ.l1 q3576,EQ.l2 q3576⟩,?_⟩
    intro a4297 k4297
    have q4297:=(show e 4297=toE (ofE (e 3575)+ofE (e 3575)) from a4297)
    clear a4297 k4297
    intro a4298 k4298
    have q4298:=EQ_add q4297 (show e 4298=toE (ofE (e 3576)+ofE (e 3576)) from a4298) q3576 q3576
    clear a4298 k4298
    refine ⟨⟨EQ.l1 q4058,EQ.l2 q4058,EQ.l1 q4298,EQ.l2 q4298⟩,?_⟩
    intro a4345 k4345
    have q4345:=(show e 4345=toE (ofE (e 4057)-ofE (e 4297)) from a4345)
    clear a4345 k4345
    intro a4346 k4346
    have q4346:=EQ_sub q4345 (show e 4346=toE (ofE (e 4058)-ofE (e 4298)) from a4346) q4058 q4298
    clear a4346 k4346
    refine ⟨⟨EQ.l1 q3576,EQ.l2 q3576,EQ.l1 q4346,EQ.l2 q4346⟩,?_⟩
    intro a4969 k4969
    have q4969:=(show e 4969=toE (ofE (e 3575)-ofE (e 4345)) from a4969)
    clear a4969 k4969
    intro a4970 k4970
    have q4970:=EQ_sub q4969 (show e 4970=toE (ofE (e 3576)-ofE (e 4346)) from a4970) q3576 q4346
    clear a4970 k4970
    refine ⟨⟨EQ.l1 q3331,EQ.l2 q3331,EQ.l1 q4970,EQ.l2 q4970⟩,?_⟩
    intro a5017 k5017
    have q5017:=(show e 5017=toE (ofE (e 3330)*ofE (e 4969)-ofE (e 3331)*ofE (e 4970)) from a5017)
    clear a5017 k5017
    intro a5018 k5018
    have q5018:=EQ_mul q5017 (show e 5018=toE (ofE (e 3330)*ofE (e 4970)+ofE (e 3331)*ofE (e 4969)) from a5018) q3331 q4970
    clear a5018 k5018
    refine ⟨⟨EQ.l1 q2131,EQ.l2 q2131,EQ.l1 q3574,EQ.l2 q3574⟩,?_⟩
    intro a5257 k5257
    have q5257:=(show e 5257=toE (ofE (e 2130)*ofE (e 3573)-ofE (e 2131)*ofE (e 3574)) from a5257)
    clear a5257 k5257
    intro a5258 k5258
    have q5258:=EQ_mul q5257 (show e 5258=toE (ofE (e 2130)*ofE (e 3574)+ofE (e 2131)*ofE (e 3573)) from a5258) q2131 q3574
    clear a5258 k5258
    refine ⟨⟨EQ.l1 q5018,EQ.l2 q5018,EQ.l1 q5258,EQ.l2 q5258⟩,?_⟩
    intro a5305 k5305
    have q5305:=(show e 5305=toE (ofE (e 5017)-ofE (e 5257)) from a5305)
    clear a5305 k5305
    intro a5306 k5306
    have q5306:=EQ_sub q5305 (show e 5306=toE (ofE (e 5018)-ofE (e 5258)) from a5306) q5018 q5258
    clear a5306 k5306
    refine ⟨⟨EQ.l1 q9,EQ.l2 q9,EQ.l1 q15,EQ.l2 q15⟩,?_⟩
    intro a5785 k5785
    have q5785:=(show e 5785=toE (ofE (e 8)*ofE (e 14)-ofE (e 9)*ofE (e 15)) from a5785)
    clear a5785 k5785
    intro a5786 k5786
    have q5786:=EQ_mul q5785 (show e 5786=toE (ofE (e 8)*ofE (e 15)+ofE (e 9)*ofE (e 14)) from a5786) q9 q15
    clear a5786 k5786
    refine ⟨⟨EQ.l1 q3091,EQ.l2 q3091,EQ.l1 q5786,EQ.l2 q5786⟩,?_⟩
    intro a5833 k5833
    have q5833:=(show e 5833=toE (ofE (e 3090)*ofE (e 5785)-ofE (e 3091)*ofE (e 5786)) from a5833)
    clear a5833 k5833
    intro a5834 k5834
    have q5834:=EQ_mul q5833 (show e 5834=toE (ofE (e 3090)*ofE (e 5786)+ofE (e 3091)*ofE (e 5785)) from a5834) q3091 q5786
    clear a5834 k5834
    show [e 4345,e 4346,e 5305,e 5306,e 5833,e 5834]=_
    rw [sumJ_gen z1 z2 z3,q4346.1,q4346.2,q5306.1,q5306.2,q5834.1,q5834.2];rfl
end Go.Sx
