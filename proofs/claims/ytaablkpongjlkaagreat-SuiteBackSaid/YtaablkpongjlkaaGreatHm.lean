/- Part Hm of the proof. -/
import Derived.Test.YtaablkpongjlkaaGreatHl
import Derived.Test.YtaablkpongjlkaaGreatHh
set_option linter.unusedVariables false
set_option linter.unusedSimpArgs false
namespace Go.Sx
open Go Go.RowKit
set_option maxRecDepth 100000
def keyP (r:List Int):List Int:=if r.getD 3 0≠0 then [0,0,0,0,0,0,0,r.getD 3 0] else [0,r.getD 0 0,r.getD 1 0,r.getD 2 0,0,0,0,0]
def keyL (s:Int) (r:List Int):List Int:=if r.getD 3 0≠0 then [0,0,0,0,0,0,0,r.getD 3 0] else [s,0,0,0,r.getD 0 0,r.getD 1 0,r.getD 2 0,0]
noncomputable def readKey (s:Int) (b:List Int):List Int :=
 if s=0 then keyP (read1V b) else if s=1∨s=2 then keyL s (readLV (pL s) (rOf s) b) else [0,0,0,0,0,0,0,2]
def keyB (s px py pz x y z:Int):List Int:=if s=0 then bytes1V px py pz else bytesL x y z
noncomputable def kReadKey (f:FuncId):K:={fn:=f,ext:=false,ins:=[iI,.lst (.int .u8)],outs:=[.agg lsKey,oI],pre:=fun _=>True,sem:=fun | [s,l]=>readKey s (dec l) | _=>[] }
theorem keyOk_0 {s px py pz x y z:Int} (h:keyOk s px py pz x y z) (h0:s=0):(x=0/\y=0/\z=0)/\inG px py pz:=by
 rcases h with h | h
 ·exact h.2
 ·rcases h.1 with h1 | h1 <;> omega
theorem keyOk_L {s px py pz x y z:Int} (h:keyOk s px py pz x y z) (h0:¬ s=0):isL s/\(px=0/\py=0/\pz=0)/\inP (pL s) (rOf s) x y z:=by
 rcases h with h | h
 ·exact absurd h.1 h0
 ·exact h
theorem endP_says {T:List K} {e:Nat->Int} {f:FuncId} (h0:T[0]?=some (kRead1 f)) (n:Nat) (v:Nat) (hv:e v=0) {b:List Int} (hb:dec (e 1)=b) :
  (Tree.req 0 [.var 1] (.lett n .num (.app 0 0 [.var 1]) (.lett (n+1) .num (.app 0 1 [.var 1]) (.lett (n+2) .bit (.app 0 2 [.var 1]) (.lett (n+3) (.int .i64) (.app 0 3 [.var 1]) (.lett (n+4) .bit (.cmp .neq (.var (n+3)) (.lit 0)) (.split (n+4) (.ret [.lit 0,.lit 0,.lit 0,.lit 0,.lit 0,.lit 0,.lit 0,.var (n+3)]) (.ret [.var v,.var n,.var (n+1),.var (n+2),.lit 0,.lit 0,.lit 0,.lit 0])))))))).says T ⟨fun ys=>ys=keyP (read1V b),[]⟩ e:=by
 refine ⟨by rw [h0];trivial,fun a0 _ a1 _ a2 _ a3 _ a4 _=>?_⟩
 simp only [D.ev,h0] at a0 a1 a2 a3
 have v0:e n=(read1V b).getD 0 0:=by rw [<- hb];exact a0
 have v1:e (n+1)=(read1V b).getD 1 0:=by rw [<- hb];exact a1
 have v2:e (n+2)=(read1V b).getD 2 0:=by rw [<- hb];exact a2
 have v3:e (n+3)=(read1V b).getD 3 0:=by rw [<- hb];exact a3
 have b4:=c_ne a4
 simp only [ev_var,ev_lit] at b4
 unfold keyP
 rw [<- v0,<- v1,<- v2,<- v3]
 refine ⟨fun h=>?_,fun h=>?_⟩
 ·rw [if_pos (show e (n+3)≠0 by omega)];rfl
 ·rw [if_neg (fun hc=>hc (show e (n+3)=0 by omega))]
  show [e v,e n,e (n+1),e (n+2),0,0,0,0]=_
  rw [hv]
theorem endL_says {T:List K} {e:Nat->Int} {f:FuncId} (h0:T[1]?=some (kLRead f)) (n:Nat) (hl:isL (e 0)) {b:List Int} (hb:dec (e 1)=b) :
  (Tree.req 1 [.var 0,.var 1] (.lett n (.int .u64) (.app 1 0 [.var 0,.var 1]) (.lett (n+1) (.int .u64) (.app 1 1 [.var 0,.var 1]) (.lett (n+2) .bit (.app 1 2 [.var 0,.var 1]) (.lett (n+3) (.int .i64) (.app 1 3 [.var 0,.var 1]) (.lett (n+4) .bit (.cmp .neq (.var (n+3)) (.lit 0)) (.split (n+4) (.ret [.lit 0,.lit 0,.lit 0,.lit 0,.lit 0,.lit 0,.lit 0,.var (n+3)]) (.ret [.var 0,.lit 0,.lit 0,.lit 0,.var n,.var (n+1),.var (n+2),.lit 0])))))))).says T ⟨fun ys=>ys=keyL (e 0) (readLV (pL (e 0)) (rOf (e 0)) b),[]⟩ e:=by
 refine ⟨by rw [h0];exact hl,fun a0 _ a1 _ a2 _ a3 _ a4 _=>?_⟩
 simp only [D.ev,h0] at a0 a1 a2 a3
 have v0:e n=(readLV (pL (e 0)) (rOf (e 0)) b).getD 0 0:=by rw [<- hb];exact a0
 have v1:e (n+1)=(readLV (pL (e 0)) (rOf (e 0)) b).getD 1 0:=by rw [<- hb];exact a1
 have v2:e (n+2)=(readLV (pL (e 0)) (rOf (e 0)) b).getD 2 0:=by rw [<- hb];exact a2
 have v3:e (n+3)=(readLV (pL (e 0)) (rOf (e 0)) b).getD 3 0:=by rw [<- hb];exact a3
 have b4:=c_ne a4
 simp only [ev_var,ev_lit] at b4
 unfold keyL
 rw [<- v0,<- v1,<- v2,<- v3]
 refine ⟨fun h=>?_,fun h=>?_⟩
 ·rw [if_pos (show e (n+3)≠0 by omega)];rfl
 ·rw [if_neg (fun hc=>hc (show e (n+3)=0 by omega))];rfl
theorem readKey_0 {s:Int} (h:s=0) (b:List Int):readKey s b=keyP (read1V b):=if_pos h
theorem readKey_L {s:Int} (h:isL s) (b:List Int):readKey s b=keyL s (readLV (pL s) (rOf s) b):=by
 unfold readKey
 rw [if_neg (by rcases h with h | h <;> omega),if_pos (show s=1∨s=2 from h)]
theorem readKey_n {s:Int} (h0:¬ s=0) (h:¬ isL s) (b:List Int):readKey s b=[0,0,0,0,0,0,0,2]:=by
 unfold readKey
 rw [if_neg h0,if_neg (show ¬ (s=1∨s=2) from h)]
def tReadKey:Tree:=(.lett 2 .bit (.cmp .eql (.var 0) (.lit 0))
(.split 2
(.lett 3 .bit (.cmp .eql (.var 0) (.lit 0))
(.split 3
 (.req 0 [.var 1]
 (.lett 4 .num (.app 0 0 [.var 1])
 (.lett 5 .num (.app 0 1 [.var 1])
 (.lett 6 .bit (.app 0 2 [.var 1])
 (.lett 7 (.int .i64) (.app 0 3 [.var 1])
 (.lett 8 .bit (.cmp .neq (.var 7) (.lit 0))
 (.split 8
 (.ret [.lit 0,.lit 0,.lit 0,.lit 0,.lit 0,.lit 0,.lit 0,.var 7])
 (.ret [.var 0,.var 4,.var 5,.var 6,.lit 0,.lit 0,.lit 0,.lit 0]))))))))
 (.req 1 [.var 0,.var 1]
 (.lett 4 (.int .u64) (.app 1 0 [.var 0,.var 1])
 (.lett 5 (.int .u64) (.app 1 1 [.var 0,.var 1])
 (.lett 6 .bit (.app 1 2 [.var 0,.var 1])
 (.lett 7 (.int .i64) (.app 1 3 [.var 0,.var 1])
 (.lett 8 .bit (.cmp .neq (.var 7) (.lit 0))
 (.split 8
 (.ret [.lit 0,.lit 0,.lit 0,.lit 0,.lit 0,.lit 0,.lit 0,.var 7])
 (.ret [.var 0,.lit 0,.lit 0,.lit 0,.var 4,.var 5,.var 6,.lit 0]))))))))))
(.lett 3 .bit (.cmp .eql (.var 0) (.lit 1))
(.split 3
 (.lett 4 .bit (.cmp .eql (.var 0) (.lit 0))
 (.split 4
 (.req 0 [.var 1]
 (.lett 5 .num (.app 0 0 [.var 1])
 (.lett 6 .num (.app 0 1 [.var 1])
 (.lett 7 .bit (.app 0 2 [.var 1])
 (.lett 8 (.int .i64) (.app 0 3 [.var 1])
 (.lett 9 .bit (.cmp .neq (.var 8) (.lit 0))
 (.split 9
 (.ret [.lit 0,.lit 0,.lit 0,.lit 0,.lit 0,.lit 0,.lit 0,.var 8])
 (.ret [.var 0,.var 5,.var 6,.var 7,.lit 0,.lit 0,.lit 0,.lit 0]))))))))
 (.req 1 [.var 0,.var 1]
 (.lett 5 (.int .u64) (.app 1 0 [.var 0,.var 1])
 (.lett 6 (.int .u64) (.app 1 1 [.var 0,.var 1])
 (.lett 7 .bit (.app 1 2 [.var 0,.var 1])
 (.lett 8 (.int .i64) (.app 1 3 [.var 0,.var 1])
 (.lett 9 .bit (.cmp .neq (.var 8) (.lit 0))
 (.split 9
 (.ret [.lit 0,.lit 0,.lit 0,.lit 0,.lit 0,.lit 0,.lit 0,.var 8])
 (.ret [.var 0,.lit 0,.lit 0,.lit 0,.var 5,.var 6,.var 7,.lit 0]))))))))))
 (.lett 4 .bit (.cmp .eql (.var 0) (.lit 2))
 (.lett 5 .bit (.not (.var 4))
 (.split 5
 (.ret [.lit 0,.lit 0,.lit 0,.lit 0,.lit 0,.lit 0,.lit 0,.lit 2])
 (.lett 6 .bit (.cmp .eql (.var 0) (.lit 0))
 (.split 6
 (.req 0 [.var 1]
 (.lett 7 .num (.app 0 0 [.var 1])
 (.lett 8 .num (.app 0 1 [.var 1])
 (.lett 9 .bit (.app 0 2 [.var 1])
 (.lett 10 (.int .i64) (.app 0 3 [.var 1])
 (.lett 11 .bit (.cmp .neq (.var 10) (.lit 0))
 (.split 11
 (.ret [.lit 0,.lit 0,.lit 0,.lit 0,.lit 0,.lit 0,.lit 0,.var 10])
 (.ret [.var 0,.var 7,.var 8,.var 9,.lit 0,.lit 0,.lit 0,.lit 0]))))))))
 (.req 1 [.var 0,.var 1]
 (.lett 7 (.int .u64) (.app 1 0 [.var 0,.var 1])
 (.lett 8 (.int .u64) (.app 1 1 [.var 0,.var 1])
 (.lett 9 .bit (.app 1 2 [.var 0,.var 1])
 (.lett 10 (.int .i64) (.app 1 3 [.var 0,.var 1])
 (.lett 11 .bit (.cmp .neq (.var 10) (.lit 0))
 (.split 11
 (.ret [.lit 0,.lit 0,.lit 0,.lit 0,.lit 0,.lit 0,.lit 0,.var 10])
 (.ret [.var 0,.lit 0,.lit 0,.lit 0,.var 7,.var 8,.var 9,.lit 0])))))))))))))))))
theorem law_readKey (f1 f2 f:FuncId) (e:Nat->Int):tReadKey.says [kRead1 f1,kLRead f2] ⟨fun ys=>ys=(kReadKey f).sem [e 0,e 1],[]⟩ e:=by
 obtain ⟨b,hb⟩:∃ b,dec (e 1)=b:=⟨_,rfl⟩
 show tReadKey.says _ ⟨fun ys=>ys=readKey (e 0) (dec (e 1)),[]⟩ e
 rw [hb]
 intro a2 _
 have b2:=c_eq a2
 simp only [ev_var,ev_lit] at b2
 refine ⟨fun h=>?_,fun h=>?_⟩
 ·have e0:e 0=0:=b_yes b2 h
  intro a3 _
  have b3:=c_eq a3
  simp only [ev_var,ev_lit] at b3
  refine ⟨fun _=>?_,fun h=>absurd e0 (b_no b3 h)⟩
  rw [readKey_0 e0]
  exact endP_says (T:=[kRead1 f1,kLRead f2]) rfl 4 0 e0 hb
 have n0:=b_no b2 h
 intro a3 _
 have b3:=c_eq a3
 simp only [ev_var,ev_lit] at b3
 refine ⟨fun h=>?_,fun h=>?_⟩
 ·have e1:e 0=1:=b_yes b3 h
  intro a4 _
  have b4:=c_eq a4
  simp only [ev_var,ev_lit] at b4
  refine ⟨fun h=>absurd (b_yes b4 h) n0,fun _=>?_⟩
  rw [readKey_L (.inl e1)]
  exact endL_says (T:=[kRead1 f1,kLRead f2]) rfl 5 (.inl e1) hb
 have n1:=b_no b3 h
 intro a4 _ a5 _
 have b4:=c_eq a4
 have b5:=c_not a5
 simp only [ev_var,ev_lit] at b4 b5
 refine ⟨fun h=>?_,fun h=>?_⟩
 ·have:¬ isL (e 0):=fun hc=>by
   have:=b_yes b5 h
   rcases hc with h1 | h1 <;> omega
  rw [readKey_n n0 this];rfl
 ·have e2:e 0=2:=by have:=b_no b5 h;omega
  intro a6 _
  have b6:=c_eq a6
  simp only [ev_var,ev_lit] at b6
  refine ⟨fun h=>absurd (b_yes b6 h) n0,fun _=>?_⟩
  rw [readKey_L (.inr e2)]
  exact endL_says (T:=[kRead1 f1,kLRead f2]) rfl 7 (.inr e2) hb
noncomputable def kLBytes (te:TypeId) (f:FuncId):K:={fn:=f,ext:=false,ins:=[iI,iPt],outs:=[.lst te (.int .u8),oI],pre:=fun | [s,x,y,z]=>isL s/\onP (pL s) x y z | _=>False,sem:=fun | [s,x,y,z]=>[enc (bytesL x y z),0] | _=>[] }
def tLBytes:Tree:=(.req 0 [.var 0]
(.lett 4 (.int .u64) (.app 0 0 [.var 0])
(.lett 5 (.int .u64) (.app 0 1 [.var 0])
(.lett 6 (.int .u64) (.app 0 2 [.var 0])
(.lett 7 (.int .u64) (.app 0 3 [.var 0])
(.lett 8 (.int .u64) (.app 0 4 [.var 0])
(.lett 9 .bit (.app 0 5 [.var 0])
(.lett 10 .bit (.app 0 6 [.var 0])
(.lett 11 .bit (.not (.var 10))
(.split 11
(.ret [.lit 0,.lit 2])
(.req 1 [.var 4,.var 5,.var 6,.var 7,.var 8,.var 9,.var 1,.var 2,.var 3]
(.lett 12 .bit (.app 1 0 [.var 4,.var 5,.var 6,.var 7,.var 8,.var 9,.var 1,.var 2,.var 3])
(.lett 13 .bit (.not (.var 12))
(.split 13
 (.ret [.lit 0,.lit 5])
 (.req 2 [.var 1,.var 2,.var 3]
 (.lett 14 (.int .u8) (.app 2 0 [.var 1,.var 2,.var 3])
 (.lett 15 (.int .u8) (.app 2 1 [.var 1,.var 2,.var 3])
 (.lett 16 (.int .u8) (.app 2 2 [.var 1,.var 2,.var 3])
 (.lett 17 (.int .u8) (.app 2 3 [.var 1,.var 2,.var 3])
 (.lett 18 (.int .u8) (.app 2 4 [.var 1,.var 2,.var 3])
 (.lett 19 (.int .u8) (.app 2 5 [.var 1,.var 2,.var 3])
 (.lett 20 (.int .u8) (.app 2 6 [.var 1,.var 2,.var 3])
 (.lett 21 (.int .u8) (.app 2 7 [.var 1,.var 2,.var 3])
 (.lett 22 (.int .u8) (.app 2 8 [.var 1,.var 2,.var 3])
 (.lett 23 (.int .u8) (.app 2 9 [.var 1,.var 2,.var 3])
 (.lett 24 (.int .u8) (.app 2 10 [.var 1,.var 2,.var 3])
 (.lett 25 (.int .u8) (.app 2 11 [.var 1,.var 2,.var 3])
 (.lett 26 (.int .u8) (.app 2 12 [.var 1,.var 2,.var 3])
 (.lett 27 (.int .u8) (.app 2 13 [.var 1,.var 2,.var 3])
 (.lett 28 (.int .u8) (.app 2 14 [.var 1,.var 2,.var 3])
 (.lett 29 (.int .u8) (.app 2 15 [.var 1,.var 2,.var 3])
 (.lett 30 (.int .u8) (.app 2 16 [.var 1,.var 2,.var 3])
 (.lett 31 (.lst (.int .u8)) (.lapp (.lit 0) [.var 14,.var 15,.var 16,.var 17,.var 18,.var 19,.var 20,.var 21,.var 22,.var 23,.var 24,.var 25,.var 26,.var 27,.var 28,.var 29,.var 30])
 (.ret [.var 31,.lit 0]))))))))))))))))))))))))))))))))))
theorem law_lBytes (te:TypeId) (f1 f2 f3 f:FuncId) (e:Nat->Int) (hp:(kLBytes te f).pre [e 0,e 1,e 2,e 3]):tLBytes.says [kLOf f1,kLOn f2,kWritten f3] ⟨fun ys=>ys=(kLBytes te f).sem [e 0,e 1,e 2,e 3],[]⟩ e:=by
 obtain ⟨hl,hon⟩:isL (e 0)/\onP (pL (e 0)) (e 1) (e 2) (e 3):=hp
 have hpr:=pL_pr hl
 show tLBytes.says _ ⟨fun ys=>ys=[enc (bytesL (e 1) (e 2) (e 3)),0],[]⟩ e
 refine ⟨trivial,fun a4 _ a5 _ a6 _ a7 _ a8 _ a9 _ a10 _ a11 _=>?_⟩
 have v4:e 4=pL (e 0):=by rw [show e 4=(cvL (e 0)).getD 0 0 from a4,cvL_t hl];rfl
 have v10:e 10=1:=by rw [show e 10=(cvL (e 0)).getD 6 0 from a10,cvL_t hl];rfl
 have b11:=c_not a11
 simp only [ev_var] at b11
 refine ⟨fun h=>by have:=b_yes b11 h;omega,fun _=>⟨?_,fun a12 _ a13 _=>?_⟩⟩
 ·show pOk (e 4)
  rw [v4];exact pr_ok hpr
 have v12:e 12=bi (onP (e 4) (e 1) (e 2) (e 3)):=a12
 rw [v4,bi_bj] at v12
 have b13:=c_not a13
 simp only [ev_var] at b13
 refine ⟨fun h=>absurd hon (bj_z v12 (b_yes b13 h)),fun _=>⟨trivial,?_⟩⟩
 intro c0 _ c1 _ c2 _ c3 _ c4 _ c5 _ c6 _ c7 _ c8 _ c9 _ c10 _ c11 _ c12 _ c13 _ c14 _ c15 _ c16 _ a31 _
 show [e 31,0]=_
 rw [show e 31=enc (dec 0++[e 14,e 15,e 16,e 17,e 18,e 19,e 20,e 21,e 22,e 23,e 24,e 25,e 26,e 27,e 28,e 29,e 30]) from a31,dec_zero,List.nil_append]
 have:[e 14,e 15,e 16,e 17,e 18,e 19,e 20,e 21,e 22,e 23,e 24,e 25,e 26,e 27,e 28,e 29,e 30]=bytesL (e 1) (e 2) (e 3):=by
  rw [show e 14=_ from c0,show e 15=_ from c1,show e 16=_ from c2,show e 17=_ from c3,show e 18=_ from c4,show e 19=_ from c5,show e 20=_ from c6,show e 21=_ from c7,show e 22=_ from c8,show e 23=_ from c9,show e 24=_ from c10,show e 25=_ from c11,show e 26=_ from c12,show e 27=_ from c13,show e 28=_ from c14,show e 29=_ from c15,show e 30=_ from c16];rfl
 rw [this]
def vars (i n:Nat):List A:=(List.range n).map fun j=>.var (i+j)
def rLit (g:Nat) (us:List A) (xs:List Int):List Rule:=(List.range xs.length).map fun j=>{l:=.app g j us,r:=.a (.lit (xs.getD j 0)) }
theorem rulesOk_app {T:List K} {e:Nat->Int}:∀ {a b:List Rule},RulesOk T e a->RulesOk T e b->RulesOk T e (a++b)
 | [],_,_,h=>h
 | _::_,_,h,h'=>⟨h.1,rulesOk_app h.2 h'⟩
theorem rulesOk_map {T:List K} {e:Nat->Int} {f:Nat->Rule}:∀ {l:List Nat},(∀ j∈l,CsOk T e (f j).cs->(f j).l.ev T e=(f j).r.ev T e)->RulesOk T e (l.map f)
 | [],_=>trivial
 | j::l,h=>⟨h j (List.mem_cons_self ..),rulesOk_map fun i hi=>h i (List.mem_cons_of_mem _ hi)⟩
theorem rLit_ok {T:List K} {e:Nat->Int} {g:Nat} {us:List A} {xs:List Int} {Y:K} (h:T[g]?=some Y) (hs:∀ j,j<xs.length->(Y.sem (us.map (·.ev e))).getD j 0=xs.getD j 0):RulesOk T e (rLit g us xs) :=
 rulesOk_map fun j hj hc=>by
  show (D.app g j us).ev T e=xs.getD j 0
  simp only [D.ev,h]
  exact hs j (List.mem_range.1 hj)
def k15:List A:=vars 0 15
section
variable {te tb:TypeId} {f0 f1 f2 f3 f4 f5 f6 f7 f8 f9 f10 f11 f12 f13 f14 f15 f16:FuncId} {e:Nat->Int}
end
def S2 (A B:E2):Prop:=A.1%bP=B.1%bP/\A.2%bP=B.2%bP
theorem isz3 {x y:Int}:R2.isz (x,y)=true↔x%bP=0/\y%bP=0:=by
 show (x%bP==0&&y%bP==0)=true↔_
 rw [Bool.and_eq_true,beq_iff_eq,beq_iff_eq]
theorem R2_zmul {y z:E2} (h:R2.isz y=true):R2.isz (R2.mul y z)=true:=by
 obtain ⟨h1,h2⟩:=isz3.1 h
 exact isz3.2 ⟨md0_sub (md0_mul _ h1) (md0_mul _ h2),md0_add (md0_mul _ h1) (md0_mul _ h2)⟩
def inv2 (A:E2):E2:=(A.1*nrm A.1 A.2,-(A.2*nrm A.1 A.2))
def EQ (x y:Int) (Y:E2):Prop:=x=toE Y.1/\y=toE Y.2
theorem EQ.l1 {x y:Int} {Y:E2} (h:EQ x y Y):x<bP:=E_lt h.1
theorem EQ.l2 {x y:Int} {Y:E2} (h:EQ x y Y):y<bP:=E_lt h.2
theorem EQ_self {x y:Int} (h0:0<=x) (h1:x<bP) (k0:0<=y) (k1:y<bP):EQ x y (ofE x,ofE y):=⟨E_of h0 h1,E_of k0 k1⟩
theorem EQ_add {x y a b c d:Int} {A C:E2} (h:x=toE (ofE a+ofE c)) (k:y=toE (ofE b+ofE d)) (ha:EQ a b A) (hc:EQ c d C):EQ x y (R2.add A C):=⟨Eadd h ha.1 hc.1,Eadd k ha.2 hc.2⟩
theorem EQ_sub {x y a b c d:Int} {A C:E2} (h:x=toE (ofE a-ofE c)) (k:y=toE (ofE b-ofE d)) (ha:EQ a b A) (hc:EQ c d C):EQ x y (R2.sub A C):=⟨Esub h ha.1 hc.1,Esub k ha.2 hc.2⟩
theorem EQ_mul {x y a b c d:Int} {A C:E2} (h:x=toE (ofE a*ofE c-ofE b*ofE d)) (k:y=toE (ofE a*ofE d+ofE b*ofE c)) (ha:EQ a b A) (hc:EQ c d C):EQ x y (R2.mul A C) :=
 ⟨h.trans (toE_md (mdE_sub (mdE_mul (E_ofm ha.1) (E_ofm hc.1)) (mdE_mul (E_ofm ha.2) (E_ofm hc.2)))),k.trans (toE_md (mdE_add (mdE_mul (E_ofm ha.1) (E_ofm hc.2)) (mdE_mul (E_ofm ha.2) (E_ofm hc.1))))⟩
def kE2Add (f:FuncId):K:={fn:=f,ext:=false,ins:=[iE2,iE2],outs:=[oE2],pre:=fun | [a,b,c,d]=>a<bP/\b<bP/\c<bP/\d<bP | _=>False,sem:=fun | [a,b,c,d]=>[toE (ofE a+ofE c),toE (ofE b+ofE d)] | _=>[] }
def kE2Sub (f:FuncId):K:={fn:=f,ext:=false,ins:=[iE2,iE2],outs:=[oE2],pre:=fun | [a,b,c,d]=>a<bP/\b<bP/\c<bP/\d<bP | _=>False,sem:=fun | [a,b,c,d]=>[toE (ofE a-ofE c),toE (ofE b-ofE d)] | _=>[] }
def kE2Mul (f:FuncId):K:={fn:=f,ext:=false,ins:=[iE2,iE2],outs:=[oE2],pre:=fun | [a,b,c,d]=>a<bP/\b<bP/\c<bP/\d<bP | _=>False,sem:=fun | [a,b,c,d]=>[toE (ofE a*ofE c-ofE b*ofE d),toE (ofE a*ofE d+ofE b*ofE c)] | _=>[] }
def kE2Norm (f:FuncId):K:={fn:=f,ext:=false,ins:=[iE2],outs:=[oN],pre:=fun | [a,b]=>a<bP/\b<bP | _=>False,sem:=fun | [a,b]=>[toE (ofE a*ofE a+ofE b*ofE b)] | _=>[] }
def kE2Scale (f:FuncId):K:={fn:=f,ext:=false,ins:=[iE2,iN],outs:=[oE2],pre:=fun | [a,b,n]=>a<bP/\b<bP/\n<bP | _=>False,sem:=fun | [a,b,n]=>[toE (ofE a*ofE n),toE (ofE b*ofE n)] | _=>[] }
def tE2Add:Tree:=(.req 0 [.var 0,.var 2]
(.lett 196 .num (.app 0 0 [.var 0,.var 2])
(.req 0 [.var 1,.var 3]
(.lett 436 .num (.app 0 0 [.var 1,.var 3])
(.ret [.var 196,.var 436])))))
theorem law_e2Add (f1 f:FuncId) (e:Nat->Int) (hk:kkHas [.num,.num,.num,.num] [e 0,e 1,e 2,e 3]) (hp:(kE2Add f).pre [e 0,e 1,e 2,e 3]):tE2Add.says [kEAdd f1] ⟨fun ys=>ys=(kE2Add f).sem [e 0,e 1,e 2,e 3],[]⟩ e:=by
 obtain ⟨u0,u1,u2,u3⟩:e 0<bP/\e 1<bP/\e 2<bP/\e 3<bP:=hp
 obtain ⟨h0,h1,h2,h3,_⟩:=hk
 have q0:=E_of h0.1 u0
 have q1:=E_of h1.1 u1
 have q2:=E_of h2.1 u2
 have q3:=E_of h3.1 u3
 clear u0 h0 u1 h1 u2 h2 u3 h3
 show tE2Add.says _ ⟨fun ys=>ys=[toE (ofE (e 0)+ofE (e 2)),toE (ofE (e 1)+ofE (e 3))],[]⟩ e
 refine ⟨⟨E_lt q0,E_lt q2⟩,?_⟩
 intro a196 k196
 have q196:=Eadd (show e 196=toE (ofE (e 0)+ofE (e 2)) from a196) q0 q2
 clear a196 k196
 refine ⟨⟨E_lt q1,E_lt q3⟩,?_⟩
 intro a436 k436
 have q436:=Eadd (show e 436=toE (ofE (e 1)+ofE (e 3)) from a436) q1 q3
 clear a436 k436
 show [e 196,e 436]=_
 rw [q196,q436]
 all_goals rfl
def tE2Sub:Tree:=(.req 0 [.var 0,.var 2]
(.lett 196 .num (.app 0 0 [.var 0,.var 2])
(.req 0 [.var 1,.var 3]
(.lett 436 .num (.app 0 0 [.var 1,.var 3])
(.ret [.var 196,.var 436])))))
theorem law_e2Sub (f1 f:FuncId) (e:Nat->Int) (hk:kkHas [.num,.num,.num,.num] [e 0,e 1,e 2,e 3]) (hp:(kE2Sub f).pre [e 0,e 1,e 2,e 3]):tE2Sub.says [kESub f1] ⟨fun ys=>ys=(kE2Sub f).sem [e 0,e 1,e 2,e 3],[]⟩ e:=by
 obtain ⟨u0,u1,u2,u3⟩:e 0<bP/\e 1<bP/\e 2<bP/\e 3<bP:=hp
 obtain ⟨h0,h1,h2,h3,_⟩:=hk
 have q0:=E_of h0.1 u0
 have q1:=E_of h1.1 u1
 have q2:=E_of h2.1 u2
 have q3:=E_of h3.1 u3
 clear u0 h0 u1 h1 u2 h2 u3 h3
 show tE2Sub.says _ ⟨fun ys=>ys=[toE (ofE (e 0)-ofE (e 2)),toE (ofE (e 1)-ofE (e 3))],[]⟩ e
 refine ⟨⟨E_lt q0,E_lt q2⟩,?_⟩
 intro a196 k196
 have q196:=Esub (show e 196=toE (ofE (e 0)-ofE (e 2)) from a196) q0 q2
 clear a196 k196
 refine ⟨⟨E_lt q1,E_lt q3⟩,?_⟩
 intro a436 k436
 have q436:=Esub (show e 436=toE (ofE (e 1)-ofE (e 3)) from a436) q1 q3
 clear a436 k436
 show [e 196,e 436]=_
 rw [q196,q436]
 all_goals rfl
theorem cross2 (a b c d:Int):(a+b)*(c+d)-a*c-b*d=a*d+b*c:=by grind
def tE2Mul:Tree:=(.req 0 [.var 0,.var 2]
(.lett 196 .num (.app 0 0 [.var 0,.var 2])
(.req 0 [.var 1,.var 3]
(.lett 436 .num (.app 0 0 [.var 1,.var 3])
(.req 1 [.var 0,.var 1]
(.lett 868 .num (.app 1 0 [.var 0,.var 1])
(.req 1 [.var 2,.var 3]
(.lett 1108 .num (.app 1 0 [.var 2,.var 3])
(.req 0 [.var 868,.var 1108]
(.lett 1156 .num (.app 0 0 [.var 868,.var 1108])
(.req 2 [.var 196,.var 436]
(.lett 1396 .num (.app 2 0 [.var 196,.var 436])
(.req 2 [.var 1156,.var 196]
(.lett 1540 .num (.app 2 0 [.var 1156,.var 196])
(.req 2 [.var 1540,.var 436]
(.lett 1636 .num (.app 2 0 [.var 1540,.var 436])
(.ret [.var 1396,.var 1636])))))))))))))))))
theorem law_e2Mul (f1 f2 f3 f:FuncId) (e:Nat->Int) (hk:kkHas [.num,.num,.num,.num] [e 0,e 1,e 2,e 3]) (hp:(kE2Mul f).pre [e 0,e 1,e 2,e 3]):tE2Mul.says [kEMul f1,kEAdd f2,kESub f3] ⟨fun ys=>ys=(kE2Mul f).sem [e 0,e 1,e 2,e 3],[]⟩ e:=by
 obtain ⟨u0,u1,u2,u3⟩:e 0<bP/\e 1<bP/\e 2<bP/\e 3<bP:=hp
 obtain ⟨h0,h1,h2,h3,_⟩:=hk
 have q0:=E_of h0.1 u0
 have q1:=E_of h1.1 u1
 have q2:=E_of h2.1 u2
 have q3:=E_of h3.1 u3
 clear u0 h0 u1 h1 u2 h2 u3 h3
 show tE2Mul.says _ ⟨fun ys=>ys=[toE (ofE (e 0)*ofE (e 2)-ofE (e 1)*ofE (e 3)),toE (ofE (e 0)*ofE (e 3)+ofE (e 1)*ofE (e 2))],[]⟩ e
 refine ⟨⟨E_lt q0,E_lt q2⟩,?_⟩
 intro a196 k196
 have q196:=Emul (show e 196=toE (ofE (e 0)*ofE (e 2)) from a196) q0 q2
 clear a196 k196
 refine ⟨⟨E_lt q1,E_lt q3⟩,?_⟩
 intro a436 k436
 have q436:=Emul (show e 436=toE (ofE (e 1)*ofE (e 3)) from a436) q1 q3
 clear a436 k436
 refine ⟨⟨E_lt q0,E_lt q1⟩,?_⟩
 intro a868 k868
 have q868:=Eadd (show e 868=toE (ofE (e 0)+ofE (e 1)) from a868) q0 q1
 clear a868 k868
 refine ⟨⟨E_lt q2,E_lt q3⟩,?_⟩
 intro a1108 k1108
 have q1108:=Eadd (show e 1108=toE (ofE (e 2)+ofE (e 3)) from a1108) q2 q3
 clear a1108 k1108
 refine ⟨⟨E_lt q868,E_lt q1108⟩,?_⟩
 intro a1156 k1156
 have q1156:=Emul (show e 1156=toE (ofE (e 868)*ofE (e 1108)) from a1156) q868 q1108
 clear a1156 k1156
 refine ⟨⟨E_lt q196,E_lt q436⟩,?_⟩
 intro a1396 k1396
 have q1396:=Esub (show e 1396=toE (ofE (e 196)-ofE (e 436)) from a1396) q196 q436
 clear a1396 k1396
 refine ⟨⟨E_lt q1156,E_lt q196⟩,?_⟩
 intro a1540 k1540
 have q1540:=Esub (show e 1540=toE (ofE (e 1156)-ofE (e 196)) from a1540) q1156 q196
 clear a1540 k1540
 refine ⟨⟨E_lt q1540,E_lt q436⟩,?_⟩
 intro a1636 k1636
 have q1636:=Esub (show e 1636=toE (ofE (e 1540)-ofE (e 436)) from a1636) q1540 q436
 clear a1636 k1636
 show [e 1396,e 1636]=_
 rw [q1396,q1636]
 rw [cross2]
def tE2Norm:Tree:=(.req 0 [.var 0,.var 0]
(.lett 194 .num (.app 0 0 [.var 0,.var 0])
(.req 0 [.var 1,.var 1]
(.lett 434 .num (.app 0 0 [.var 1,.var 1])
(.req 1 [.var 194,.var 434]
(.lett 482 .num (.app 1 0 [.var 194,.var 434])
(.ret [.var 482])))))))
theorem law_e2Norm (f1 f2 f:FuncId) (e:Nat->Int) (hk:kkHas [.num,.num] [e 0,e 1]) (hp:(kE2Norm f).pre [e 0,e 1]):tE2Norm.says [kEMul f1,kEAdd f2] ⟨fun ys=>ys=(kE2Norm f).sem [e 0,e 1],[]⟩ e:=by
 obtain ⟨u0,u1⟩:e 0<bP/\e 1<bP:=hp
 obtain ⟨h0,h1,_⟩:=hk
 have q0:=E_of h0.1 u0
 have q1:=E_of h1.1 u1
 clear u0 h0 u1 h1
 show tE2Norm.says _ ⟨fun ys=>ys=[toE (ofE (e 0)*ofE (e 0)+ofE (e 1)*ofE (e 1))],[]⟩ e
 refine ⟨⟨E_lt q0,E_lt q0⟩,?_⟩
 intro a194 k194
 have q194:=Emul (show e 194=toE (ofE (e 0)*ofE (e 0)) from a194) q0 q0
 clear a194 k194
 refine ⟨⟨E_lt q1,E_lt q1⟩,?_⟩
 intro a434 k434
 have q434:=Emul (show e 434=toE (ofE (e 1)*ofE (e 1)) from a434) q1 q1
 clear a434 k434
 refine ⟨⟨E_lt q194,E_lt q434⟩,?_⟩
 intro a482 k482
 have q482:=Eadd (show e 482=toE (ofE (e 194)+ofE (e 434)) from a482) q194 q434
 clear a482 k482
 show [e 482]=_
 rw [q482]
 all_goals rfl
def tE2Scale:Tree:=(.req 0 [.var 0,.var 2]
(.lett 147 .num (.app 0 0 [.var 0,.var 2])
(.req 0 [.var 1,.var 2]
(.lett 339 .num (.app 0 0 [.var 1,.var 2])
(.ret [.var 147,.var 339])))))
theorem law_e2Scale (f1 f:FuncId) (e:Nat->Int) (hk:kkHas [.num,.num,.num] [e 0,e 1,e 2]) (hp:(kE2Scale f).pre [e 0,e 1,e 2]):tE2Scale.says [kEMul f1] ⟨fun ys=>ys=(kE2Scale f).sem [e 0,e 1,e 2],[]⟩ e:=by
 obtain ⟨u0,u1,u2⟩:e 0<bP/\e 1<bP/\e 2<bP:=hp
 obtain ⟨h0,h1,h2,_⟩:=hk
 have q0:=E_of h0.1 u0
 have q1:=E_of h1.1 u1
 have q2:=E_of h2.1 u2
 clear u0 h0 u1 h1 u2 h2
 show tE2Scale.says _ ⟨fun ys=>ys=[toE (ofE (e 0)*ofE (e 2)),toE (ofE (e 1)*ofE (e 2))],[]⟩ e
 refine ⟨⟨E_lt q0,E_lt q2⟩,?_⟩
 intro a147 k147
 have q147:=Emul (show e 147=toE (ofE (e 0)*ofE (e 2)) from a147) q0 q2
 clear a147 k147
 refine ⟨⟨E_lt q1,E_lt q2⟩,?_⟩
 intro a339 k339
 have q339:=Emul (show e 339=toE (ofE (e 1)*ofE (e 2)) from a339) q1 q2
 clear a339 k339
 show [e 147,e 339]=_
 rw [q147,q339]
 all_goals rfl
def Fo.ls2 (o:Fo):List L:=[.cst (.fn o.add []),.cst (.fn o.sub []),.cst (.fn o.mul []),.cst (.fn o.inv []),.num,.num,.num,.num]
abbrev ls6:List L:=[.num,.num,.num,.num,.num,.num]
abbrev lsQ2:List L:=[.num,.num,.num,.num,.bool]
def ofJ2 (a b c d x y:Int):J E2:=⟨(ofE a,ofE b),(ofE c,ofE d),(ofE x,ofE y)⟩
def J.e2 (P:J E2):List Int:=[toE P.x.1,toE P.x.2,toE P.y.1,toE P.y.2,toE P.z.1,toE P.z.2]
def kRaise2 (o:Fo) (f:FuncId):K:={fn:=f,ext:=false,ins:=[.agg o.ls2,.agg lsQ2],outs:=[.agg ls6],pre:=fun _=>True,sem:=fun | [u,v,_,_,a,b,c,d,z]=>if z=0 then [a,b,c,d,u,v] else [u,v,u,v,0,0] | _=>[] }
def kTwice2 (o:Fo) (f:FuncId):K:={fn:=f,ext:=false,ins:=[.agg o.ls2,.agg ls6],outs:=[.agg ls6],pre:=fun | [_,_,_,_,a,b,c,d,x,y]=>(a<bP/\b<bP)/\(c<bP/\d<bP)/\(x<bP/\y<bP) | _=>False,sem:=fun | [_,_,_,_,a,b,c,d,x,y]=>(dblJ R2 (ofJ2 a b c d x y)).e2 | _=>[] }
def kSum2J (o:Fo) (f:FuncId):K:={fn:=f,ext:=false,ins:=[.agg o.ls2,.agg ls6,.agg ls6],outs:=[.agg ls6],pre:=fun | [u,v,_,_,a,b,c,d,x,y,a',b',c',d',x',y']=>(u=toE 1/\v=0)/\((a<bP/\b<bP)/\(c<bP/\d<bP)/\(x<bP/\y<bP))/\((a'<bP/\b'<bP)/\(c'<bP/\d'<bP)/\(x'<bP/\y'<bP)) | _=>False,sem:=fun | [_,_,_,_,a,b,c,d,x,y,a',b',c',d',x',y']=>(sumJ R2 (ofJ2 a b c d x y) (ofJ2 a' b' c' d' x' y')).e2 | _=>[] }
def t2Raise:Tree:=(.split 8
(.ret [.var 0,.var 1,.var 0,.var 1,.lit 0,.lit 0])
(.ret [.var 4,.var 5,.var 6,.var 7,.var 0,.var 1]))
theorem law_raise2 (o:Fo) (f:FuncId) (e:Nat->Int):t2Raise.says [] ⟨fun ys=>ys=(kRaise2 o f).sem [e 0,e 1,e 2,e 3,e 4,e 5,e 6,e 7,e 8],[]⟩ e:=by
 refine ⟨fun h=>?_,fun h=>?_⟩
 ·show [e 0,e 1,e 0,e 1,0,0]=if e 8=0 then [e 4,e 5,e 6,e 7,e 0,e 1] else [e 0,e 1,e 0,e 1,0,0]
  rw [if_neg h]
 ·show [e 4,e 5,e 6,e 7,e 0,e 1]=if e 8=0 then [e 4,e 5,e 6,e 7,e 0,e 1] else [e 0,e 1,e 0,e 1,0,0]
  rw [if_pos h]
def t2Twice:Tree:=(.req 2 [.var 6,.var 7,.var 6,.var 7]
(.lett 10 .num (.app 2 0 [.var 6,.var 7,.var 6,.var 7])
(.lett 11 .num (.app 2 1 [.var 6,.var 7,.var 6,.var 7])
(.req 2 [.var 4,.var 5,.var 10,.var 11]
(.lett 12 .num (.app 2 0 [.var 4,.var 5,.var 10,.var 11])
(.lett 13 .num (.app 2 1 [.var 4,.var 5,.var 10,.var 11])
(.req 0 [.var 12,.var 13,.var 12,.var 13]
(.lett 14 .num (.app 0 0 [.var 12,.var 13,.var 12,.var 13])
(.lett 15 .num (.app 0 1 [.var 12,.var 13,.var 12,.var 13])
(.req 0 [.var 14,.var 15,.var 14,.var 15]
(.lett 16 .num (.app 0 0 [.var 14,.var 15,.var 14,.var 15])
(.lett 17 .num (.app 0 1 [.var 14,.var 15,.var 14,.var 15])
(.req 2 [.var 4,.var 5,.var 4,.var 5]
(.lett 18 .num (.app 2 0 [.var 4,.var 5,.var 4,.var 5])
(.lett 19 .num (.app 2 1 [.var 4,.var 5,.var 4,.var 5])
(.req 0 [.var 18,.var 19,.var 18,.var 19]
(.lett 308 .num (.app 0 0 [.var 18,.var 19,.var 18,.var 19])
(.lett 309 .num (.app 0 1 [.var 18,.var 19,.var 18,.var 19])
(.req 0 [.var 308,.var 309,.var 18,.var 19]
(.lett 404 .num (.app 0 0 [.var 308,.var 309,.var 18,.var 19])
(.lett 405 .num (.app 0 1 [.var 308,.var 309,.var 18,.var 19])
(.req 2 [.var 404,.var 405,.var 404,.var 405]
(.lett 788 .num (.app 2 0 [.var 404,.var 405,.var 404,.var 405])
(.lett 789 .num (.app 2 1 [.var 404,.var 405,.var 404,.var 405])
(.req 0 [.var 16,.var 17,.var 16,.var 17]
(.lett 1028 .num (.app 0 0 [.var 16,.var 17,.var 16,.var 17])
(.lett 1029 .num (.app 0 1 [.var 16,.var 17,.var 16,.var 17])
(.req 1 [.var 788,.var 789,.var 1028,.var 1029]
(.lett 1076 .num (.app 1 0 [.var 788,.var 789,.var 1028,.var 1029])
(.lett 1077 .num (.app 1 1 [.var 788,.var 789,.var 1028,.var 1029])
(.req 2 [.var 10,.var 11,.var 10,.var 11]
(.lett 1220 .num (.app 2 0 [.var 10,.var 11,.var 10,.var 11])
(.lett 1221 .num (.app 2 1 [.var 10,.var 11,.var 10,.var 11])
(.req 0 [.var 1220,.var 1221,.var 1220,.var 1221]
(.lett 1222 .num (.app 0 0 [.var 1220,.var 1221,.var 1220,.var 1221])
(.lett 1223 .num (.app 0 1 [.var 1220,.var 1221,.var 1220,.var 1221])
(.req 0 [.var 1222,.var 1223,.var 1222,.var 1223]
(.lett 1224 .num (.app 0 0 [.var 1222,.var 1223,.var 1222,.var 1223])
(.lett 1225 .num (.app 0 1 [.var 1222,.var 1223,.var 1222,.var 1223])
(.req 0 [.var 1224,.var 1225,.var 1224,.var 1225]
(.lett 1226 .num (.app 0 0 [.var 1224,.var 1225,.var 1224,.var 1225])
(.lett 1227 .num (.app 0 1 [.var 1224,.var 1225,.var 1224,.var 1225])
(.req 2 [.var 6,.var 7,.var 8,.var 9]
(.lett 1228 .num (.app 2 0 [.var 6,.var 7,.var 8,.var 9])
(.lett 1229 .num (.app 2 1 [.var 6,.var 7,.var 8,.var 9])
(.req 1 [.var 16,.var 17,.var 1076,.var 1077]
(.lett 1710 .num (.app 1 0 [.var 16,.var 17,.var 1076,.var 1077])
(.lett 1711 .num (.app 1 1 [.var 16,.var 17,.var 1076,.var 1077])
(.req 2 [.var 404,.var 405,.var 1710,.var 1711]
(.lett 1758 .num (.app 2 0 [.var 404,.var 405,.var 1710,.var 1711])
(.lett 1759 .num (.app 2 1 [.var 404,.var 405,.var 1710,.var 1711])
(.req 1 [.var 1758,.var 1759,.var 1226,.var 1227]
(.lett 1854 .num (.app 1 0 [.var 1758,.var 1759,.var 1226,.var 1227])
(.lett 1855 .num (.app 1 1 [.var 1758,.var 1759,.var 1226,.var 1227])
(.req 0 [.var 1228,.var 1229,.var 1228,.var 1229]
(.lett 2094 .num (.app 0 0 [.var 1228,.var 1229,.var 1228,.var 1229])
(.lett 2095 .num (.app 0 1 [.var 1228,.var 1229,.var 1228,.var 1229])
(.ret [.var 1076,.var 1077,.var 1854,.var 1855,.var 2094,.var 2095]))))))))))))))))))))))))))))))))))))))))))))))))))))))))))
theorem law_twice2 (o:Fo) (f1 f2 f3 f:FuncId) (e:Nat->Int) (hk:kkHas [.num,.num,.num,.num,.num,.num,.num,.num,.num,.num] [e 0,e 1,e 2,e 3,e 4,e 5,e 6,e 7,e 8,e 9]) (hp:(kTwice2 o f).pre [e 0,e 1,e 2,e 3,e 4,e 5,e 6,e 7,e 8,e 9]):t2Twice.says [kE2Add f1,kE2Sub f2,kE2Mul f3] ⟨fun ys=>ys=(kTwice2 o f).sem [e 0,e 1,e 2,e 3,e 4,e 5,e 6,e 7,e 8,e 9],[]⟩ e:=by
 obtain ⟨⟨u4,u5⟩,⟨u6,u7⟩,u8,u9⟩:(e 4<bP/\e 5<bP)/\(e 6<bP/\e 7<bP)/\(e 8<bP/\e 9<bP):=hp
 obtain ⟨_,_,_,_,h4,h5,h6,h7,h8,h9,_⟩:=hk
 have q5:=EQ_self h4.1 u4 h5.1 u5
 have q7:=EQ_self h6.1 u6 h7.1 u7
 have q9:=EQ_self h8.1 u8 h9.1 u9
 clear u4 u5 u6 u7 u8 u9 h4 h5 h6 h7 h8 h9
 show t2Twice.says _ ⟨fun ys=>ys=(dblJ R2 (ofJ2 (e 4) (e 5) (e 6) (e 7) (e 8) (e 9))).e2,[]⟩ e
 refine ⟨⟨EQ.l1 q7,EQ.l2 q7,EQ.l1 q7,EQ.l2 q7⟩,?_⟩
 intro a10 k10
 have q10:=(show e 10=toE (ofE (e 6)*ofE (e 6)-ofE (e 7)*ofE (e 7)) from a10)
 clear a10 k10
 intro a11 k11
 have q11:=EQ_mul q10 (show e 11=toE (ofE (e 6)*ofE (e 7)+ofE (e 7)*ofE (e 6)) from a11) q7 q7
 clear a11 k11
 refine ⟨⟨EQ.l1 q5,EQ.l2 q5,EQ.l1 q11,EQ.l2 q11⟩,?_⟩
 intro a12 k12
 have q12:=(show e 12=toE (ofE (e 4)*ofE (e 10)-ofE (e 5)*ofE (e 11)) from a12)
 clear a12 k12
 intro a13 k13
 have q13:=EQ_mul q12 (show e 13=toE (ofE (e 4)*ofE (e 11)+ofE (e 5)*ofE (e 10)) from a13) q5 q11
 clear a13 k13
 refine ⟨⟨EQ.l1 q13,EQ.l2 q13,EQ.l1 q13,EQ.l2 q13⟩,?_⟩
 intro a14 k14
 have q14:=(show e 14=toE (ofE (e 12)+ofE (e 12)) from a14)
 clear a14 k14
 intro a15 k15
 have q15:=EQ_add q14 (show e 15=toE (ofE (e 13)+ofE (e 13)) from a15) q13 q13
 clear a15 k15
 refine ⟨⟨EQ.l1 q15,EQ.l2 q15,EQ.l1 q15,EQ.l2 q15⟩,?_⟩
 intro a16 k16
 have q16:=(show e 16=toE (ofE (e 14)+ofE (e 14)) from a16)
 clear a16 k16
 intro a17 k17
 have q17:=EQ_add q16 (show e 17=toE (ofE (e 15)+ofE (e 15)) from a17) q15 q15
 clear a17 k17
 refine ⟨⟨EQ.l1 q5,EQ.l2 q5,EQ.l1 q5,EQ.l2 q5⟩,?_⟩
 intro a18 k18
 have q18:=(show e 18=toE (ofE (e 4)*ofE (e 4)-ofE (e 5)*ofE (e 5)) from a18)
 clear a18 k18
 intro a19 k19
 have q19:=EQ_mul q18 (show e 19=toE (ofE (e 4)*ofE (e 5)+ofE (e 5)*ofE (e 4)) from a19) q5 q5
 clear a19 k19
 refine ⟨⟨EQ.l1 q19,EQ.l2 q19,EQ.l1 q19,EQ.l2 q19⟩,?_⟩
 intro a308 k308
 have q308:=(show e 308=toE (ofE (e 18)+ofE (e 18)) from a308)
 clear a308 k308
 intro a309 k309
 have q309:=EQ_add q308 (show e 309=toE (ofE (e 19)+ofE (e 19)) from a309) q19 q19
 clear a309 k309
 refine ⟨⟨EQ.l1 q309,EQ.l2 q309,EQ.l1 q19,EQ.l2 q19⟩,?_⟩
 intro a404 k404
 have q404:=(show e 404=toE (ofE (e 308)+ofE (e 18)) from a404)
 clear a404 k404
 intro a405 k405
 have q405:=EQ_add q404 (show e 405=toE (ofE (e 309)+ofE (e 19)) from a405) q309 q19
 clear a405 k405
 refine ⟨⟨EQ.l1 q405,EQ.l2 q405,EQ.l1 q405,EQ.l2 q405⟩,?_⟩
 intro a788 k788
 have q788:=(show e 788=toE (ofE (e 404)*ofE (e 404)-ofE (e 405)*ofE (e 405)) from a788)
 clear a788 k788
 intro a789 k789
 have q789:=EQ_mul q788 (show e 789=toE (ofE (e 404)*ofE (e 405)+ofE (e 405)*ofE (e 404)) from a789) q405 q405
 clear a789 k789
 refine ⟨⟨EQ.l1 q17,EQ.l2 q17,EQ.l1 q17,EQ.l2 q17⟩,?_⟩
 intro a1028 k1028
 have q1028:=(show e 1028=toE (ofE (e 16)+ofE (e 16)) from a1028)
 clear a1028 k1028
 intro a1029 k1029
 have q1029:=EQ_add q1028 (show e 1029=toE (ofE (e 17)+ofE (e 17)) from a1029) q17 q17
 clear a1029 k1029
 refine ⟨⟨EQ.l1 q789,EQ.l2 q789,EQ.l1 q1029,EQ.l2 q1029⟩,?_⟩
 intro a1076 k1076
 have q1076:=(show e 1076=toE (ofE (e 788)-ofE (e 1028)) from a1076)
 clear a1076 k1076
 intro a1077 k1077
 have q1077:=EQ_sub q1076 (show e 1077=toE (ofE (e 789)-ofE (e 1029)) from a1077) q789 q1029
 clear a1077 k1077
 refine ⟨⟨EQ.l1 q11,EQ.l2 q11,EQ.l1 q11,EQ.l2 q11⟩,?_⟩
 intro a1220 k1220
 have q1220:=(show e 1220=toE (ofE (e 10)*ofE (e 10)-ofE (e 11)*ofE (e 11)) from a1220)
 clear a1220 k1220
 intro a1221 k1221
 have q1221:=EQ_mul q1220 (show e 1221=toE (ofE (e 10)*ofE (e 11)+ofE (e 11)*ofE (e 10)) from a1221) q11 q11
 clear a1221 k1221
 refine ⟨⟨EQ.l1 q1221,EQ.l2 q1221,EQ.l1 q1221,EQ.l2 q1221⟩,?_⟩
 intro a1222 k1222
 have q1222:=(show e 1222=toE (ofE (e 1220)+ofE (e 1220)) from a1222)
 clear a1222 k1222
 intro a1223 k1223
 have q1223:=EQ_add q1222 (show e 1223=toE (ofE (e 1221)+ofE (e 1221)) from a1223) q1221 q1221
 clear a1223 k1223
 refine ⟨⟨EQ.l1 q1223,EQ.l2 q1223,EQ.l1 q1223,EQ.l2 q1223⟩,?_⟩
 intro a1224 k1224
 have q1224:=(show e 1224=toE (ofE (e 1222)+ofE (e 1222)) from a1224)
 clear a1224 k1224
 intro a1225 k1225
 have q1225:=EQ_add q1224 (show e 1225=toE (ofE (e 1223)+ofE (e 1223)) from a1225) q1223 q1223
 clear a1225 k1225
 refine ⟨⟨EQ.l1 q1225,EQ.l2 q1225,EQ.l1 q1225,EQ.l2 q1225⟩,?_⟩
 intro a1226 k1226
 have q1226:=(show e 1226=toE (ofE (e 1224)+ofE (e 1224)) from a1226)
 clear a1226 k1226
 intro a1227 k1227
 have q1227:=EQ_add q1226 (show e 1227=toE (ofE (e 1225)+ofE (e 1225)) from a1227) q1225 q1225
 clear a1227 k1227
 refine ⟨⟨EQ.l1 q7,EQ.l2 q7,EQ.l1 q9,EQ.l2 q9⟩,?_⟩
 intro a1228 k1228
 have q1228:=(show e 1228=toE (ofE (e 6)*ofE (e 8)-ofE (e 7)*ofE (e 9)) from a1228)
 clear a1228 k1228
 intro a1229 k1229
 have q1229:=EQ_mul q1228 (show e 1229=toE (ofE (e 6)*ofE (e 9)+ofE (e 7)*ofE (e 8)) from a1229) q7 q9
 clear a1229 k1229
 refine ⟨⟨EQ.l1 q17,EQ.l2 q17,EQ.l1 q1077,EQ.l2 q1077⟩,?_⟩
 intro a1710 k1710
 have q1710:=(show e 1710=toE (ofE (e 16)-ofE (e 1076)) from a1710)
 clear a1710 k1710
 intro a1711 k1711
 have q1711:=EQ_sub q1710 (show e 1711=toE (ofE (e 17)-ofE (e 1077)) from a1711) q17 q1077
 clear a1711 k1711
 refine ⟨⟨EQ.l1 q405,EQ.l2 q405,EQ.l1 q1711,EQ.l2 q1711⟩,?_⟩
 intro a1758 k1758
 have q1758:=(show e 1758=toE (ofE (e 404)*ofE (e 1710)-ofE (e 405)*ofE (e 1711)) from a1758)
 clear a1758 k1758
 intro a1759 k1759
 have q1759:=EQ_mul q1758 (show e 1759=toE (ofE (e 404)*ofE (e 1711)+ofE (e 405)*ofE (e 1710)) from a1759) q405 q1711
 clear a1759 k1759
 refine ⟨⟨EQ.l1 q1759,EQ.l2 q1759,EQ.l1 q1227,EQ.l2 q1227⟩,?_⟩
 intro a1854 k1854
 have q1854:=(show e 1854=toE (ofE (e 1758)-ofE (e 1226)) from a1854)
 clear a1854 k1854
 intro a1855 k1855
 have q1855:=EQ_sub q1854 (show e 1855=toE (ofE (e 1759)-ofE (e 1227)) from a1855) q1759 q1227
 clear a1855 k1855
 refine ⟨⟨EQ.l1 q1229,EQ.l2 q1229,EQ.l1 q1229,EQ.l2 q1229⟩,?_⟩
 intro a2094 k2094
 have q2094:=(show e 2094=toE (ofE (e 1228)+ofE (e 1228)) from a2094)
 clear a2094 k2094
 intro a2095 k2095
 have q2095:=EQ_add q2094 (show e 2095=toE (ofE (e 1229)+ofE (e 1229)) from a2095) q1229 q1229
 clear a2095 k2095
 show [e 1076,e 1077,e 1854,e 1855,e 2094,e 2095]=_
 rw [q1077.1,q1077.2,q1855.1,q1855.2,q2095.1,q2095.2];rfl
theorem Q_z {x y:Int} {Y:E2} (h:EQ x y Y) (k:x=0/\y=0):R2.isz Y=true:=isz3.2 ⟨z_E h.1 k.1,z_E h.2 k.2⟩
theorem Q_nz {x y:Int} {Y:E2} (h:EQ x y Y) (k:¬ (x=0/\y=0)):¬ R2.isz Y=true:=fun hc=>k ⟨h.1.trans (toE_zero.2 (isz3.1 hc).1),h.2.trans (toE_zero.2 (isz3.1 hc).2)⟩
theorem e2_self {a b c d x y:Int} {A C X:E2} (h:EQ a b A) (k:EQ c d C) (l:EQ x y X):(⟨A,C,X⟩:J E2).e2=[a,b,c,d,x,y]:=by
 show [toE A.1,toE A.2,toE C.1,toE C.2,toE X.1,toE X.2]=_
 rw [<- h.1,<- h.2,<- k.1,<- k.2,<- l.1,<- l.2]
def t2Sum:Tree:=(.lett 16 .bit (.eqs [((.limb 8 0),(.lit 0)),((.limb 8 1),(.lit 0)),((.limb 8 2),(.lit 0)),((.limb 8 3),(.lit 0)),((.limb 8 4),(.lit 0)),((.limb 8 5),(.lit 0)),((.limb 9 0),(.lit 0)),((.limb 9 1),(.lit 0)),((.limb 9 2),(.lit 0)),((.limb 9 3),(.lit 0)),((.limb 9 4),(.lit 0)),((.limb 9 5),(.lit 0))])
(.split 16
(.ret [.var 10,.var 11,.var 12,.var 13,.var 14,.var 15])
(.lett 17 .bit (.eqs [((.limb 14 0),(.lit 0)),((.limb 14 1),(.lit 0)),((.limb 14 2),(.lit 0)),((.limb 14 3),(.lit 0)),((.limb 14 4),(.lit 0)),((.limb 14 5),(.lit 0)),((.limb 15 0),(.lit 0)),((.limb 15 1),(.lit 0)),((.limb 15 2),(.lit 0)),((.limb 15 3),(.lit 0)),((.limb 15 4),(.lit 0)),((.limb 15 5),(.lit 0))])
(.split 17
 (.ret [.var 4,.var 5,.var 6,.var 7,.var 8,.var 9])
 (.req 2 [.var 8,.var 9,.var 8,.var 9]
 (.lett 306 .num (.app 2 0 [.var 8,.var 9,.var 8,.var 9])
 (.lett 307 .num (.app 2 1 [.var 8,.var 9,.var 8,.var 9])
 (.req 2 [.var 14,.var 15,.var 14,.var 15]
 (.lett 642 .num (.app 2 0 [.var 14,.var 15,.var 14,.var 15])
 (.lett 643 .num (.app 2 1 [.var 14,.var 15,.var 14,.var 15])
 (.req 2 [.var 4,.var 5,.var 642,.var 643]
 (.lett 1122 .num (.app 2 0 [.var 4,.var 5,.var 642,.var 643])
 (.lett 1123 .num (.app 2 1 [.var 4,.var 5,.var 642,.var 643])
 (.req 2 [.var 10,.var 11,.var 306,.var 307]
 (.lett 1410 .num (.app 2 0 [.var 10,.var 11,.var 306,.var 307])
 (.lett 1411 .num (.app 2 1 [.var 10,.var 11,.var 306,.var 307])
 (.req 2 [.var 642,.var 643,.var 14,.var 15]
 (.lett 2082 .num (.app 2 0 [.var 642,.var 643,.var 14,.var 15])
 (.lett 2083 .num (.app 2 1 [.var 642,.var 643,.var 14,.var 15])
 (.req 2 [.var 6,.var 7,.var 2082,.var 2083]
 (.lett 2130 .num (.app 2 0 [.var 6,.var 7,.var 2082,.var 2083])
 (.lett 2131 .num (.app 2 1 [.var 6,.var 7,.var 2082,.var 2083])
 (.req 2 [.var 306,.var 307,.var 8,.var 9]
 (.lett 2610 .num (.app 2 0 [.var 306,.var 307,.var 8,.var 9])
 (.lett 2611 .num (.app 2 1 [.var 306,.var 307,.var 8,.var 9])
 (.req 2 [.var 12,.var 13,.var 2610,.var 2611]
 (.lett 2658 .num (.app 2 0 [.var 12,.var 13,.var 2610,.var 2611])
 (.lett 2659 .num (.app 2 1 [.var 12,.var 13,.var 2610,.var 2611])
 (.req 1 [.var 1410,.var 1411,.var 1122,.var 1123]
 (.lett 3090 .num (.app 1 0 [.var 1410,.var 1411,.var 1122,.var 1123])
 (.lett 3091 .num (.app 1 1 [.var 1410,.var 1411,.var 1122,.var 1123])
 (.req 1 [.var 2658,.var 2659,.var 2130,.var 2131]
 (.lett 3330 .num (.app 1 0 [.var 2658,.var 2659,.var 2130,.var 2131])
 (.lett 3331 .num (.app 1 1 [.var 2658,.var 2659,.var 2130,.var 2131])
 (.lett 3570 .bit (.eqs [((.limb 3090 0),(.lit 0)),((.limb 3090 1),(.lit 0)),((.limb 3090 2),(.lit 0)),((.limb 3090 3),(.lit 0)),((.limb 3090 4),(.lit 0)),((.limb 3090 5),(.lit 0)),((.limb 3091 0),(.lit 0)),((.limb 3091 1),(.lit 0)),((.limb 3091 2),(.lit 0)),((.limb 3091 3),(.lit 0)),((.limb 3091 4),(.lit 0)),((.limb 3091 5),(.lit 0))])
 (.split 3570
 (.lett 3571 .bit (.eqs [((.limb 3330 0),(.lit 0)),((.limb 3330 1),(.lit 0)),((.limb 3330 2),(.lit 0)),((.limb 3330 3),(.lit 0)),((.limb 3330 4),(.lit 0)),((.limb 3330 5),(.lit 0)),((.limb 3331 0),(.lit 0)),((.limb 3331 1),(.lit 0)),((.limb 3331 2),(.lit 0)),((.limb 3331 3),(.lit 0)),((.limb 3331 4),(.lit 0)),((.limb 3331 5),(.lit 0))])
 (.split 3571
 (.req 3 [.var 0,.var 1,.var 2,.var 3,.var 4,.var 5,.var 6,.var 7,.var 8,.var 9]
 (.lett 3572 .num (.app 3 0 [.var 0,.var 1,.var 2,.var 3,.var 4,.var 5,.var 6,.var 7,.var 8,.var 9])
 (.lett 3573 .num (.app 3 1 [.var 0,.var 1,.var 2,.var 3,.var 4,.var 5,.var 6,.var 7,.var 8,.var 9])
 (.lett 3574 .num (.app 3 2 [.var 0,.var 1,.var 2,.var 3,.var 4,.var 5,.var 6,.var 7,.var 8,.var 9])
 (.lett 3575 .num (.app 3 3 [.var 0,.var 1,.var 2,.var 3,.var 4,.var 5,.var 6,.var 7,.var 8,.var 9])
 (.lett 3576 .num (.app 3 4 [.var 0,.var 1,.var 2,.var 3,.var 4,.var 5,.var 6,.var 7,.var 8,.var 9])
 (.lett 3577 .num (.app 3 5 [.var 0,.var 1,.var 2,.var 3,.var 4,.var 5,.var 6,.var 7,.var 8,.var 9])
 (.ret [.var 3572,.var 3573,.var 3574,.var 3575,.var 3576,.var 3577]))))))))
 (.ret [.var 0,.var 1,.var 0,.var 1,.lit 0,.lit 0])))
 (.req 2 [.var 3090,.var 3091,.var 3090,.var 3091]
 (.lett 3571 .num (.app 2 0 [.var 3090,.var 3091,.var 3090,.var 3091])
 (.lett 3572 .num (.app 2 1 [.var 3090,.var 3091,.var 3090,.var 3091])
 (.req 2 [.var 3571,.var 3572,.var 3090,.var 3091]
 (.lett 3573 .num (.app 2 0 [.var 3571,.var 3572,.var 3090,.var 3091])
 (.lett 3574 .num (.app 2 1 [.var 3571,.var 3572,.var 3090,.var 3091])
 (.req 2 [.var 1122,.var 1123,.var 3571,.var 3572]
 (.lett 3575 .num (.app 2 0 [.var 1122,.var 1123,.var 3571,.var 3572])
 (.lett 3576 .num (.app 2 1 [.var 1122,.var 1123,.var 3571,.var 3572])
 (.req 2 [.var 3330,.var 3331,.var 3330,.var 3331]
 (.lett 3961 .num (.app 2 0 [.var 3330,.var 3331,.var 3330,.var 3331])
 (.lett 3962 .num (.app 2 1 [.var 3330,.var 3331,.var 3330,.var 3331])
 (.req 1 [.var 3961,.var 3962,.var 3573,.var 3574]
 (.lett 4057 .num (.app 1 0 [.var 3961,.var 3962,.var 3573,.var 3574])
 (.lett 4058 .num (.app 1 1 [.var 3961,.var 3962,.var 3573,.var 3574])
 (.req 0 [.var 3575,.var 3576,.var 3575,.var 3576]
 (.lett 4297 .num (.app 0 0 [.var 3575,.var 3576,.var 3575,.var 3576])
 (.lett 4298 .num (.app 0 1 [.var 3575,.var 3576,.var 3575,.var 3576])
 (.req 1 [.var 4057,.var 4058,.var 4297,.var 4298]
 (.lett 4345 .num (.app 1 0 [.var 4057,.var 4058,.var 4297,.var 4298])
 (.lett 4346 .num (.app 1 1 [.var 4057,.var 4058,.var 4297,.var 4298])
 (.req 1 [.var 3575,.var 3576,.var 4345,.var 4346]
 (.lett 4969 .num (.app 1 0 [.var 3575,.var 3576,.var 4345,.var 4346])
 (.lett 4970 .num (.app 1 1 [.var 3575,.var 3576,.var 4345,.var 4346])
 (.req 2 [.var 3330,.var 3331,.var 4969,.var 4970]
 (.lett 5017 .num (.app 2 0 [.var 3330,.var 3331,.var 4969,.var 4970])
 (.lett 5018 .num (.app 2 1 [.var 3330,.var 3331,.var 4969,.var 4970])
 (.req 2 [.var 2130,.var 2131,.var 3573,.var 3574]
 (.lett 5257 .num (.app 2 0 [.var 2130,.var 2131,.var 3573,.var 3574])
 (.lett 5258 .num (.app 2 1 [.var 2130,.var 2131,.var 3573,.var 3574])
 (.req 1 [.var 5017,.var 5018,.var 5257,.var 5258]
 (.lett 5305 .num (.app 1 0 [.var 5017,.var 5018,.var 5257,.var 5258])
 (.lett 5306 .num (.app 1 1 [.var 5017,.var 5018,.var 5257,.var 5258])
 (.req 2 [.var 8,.var 9,.var 14,.var 15]
 (.lett 5785 .num (.app 2 0 [.var 8,.var 9,.var 14,.var 15])
 (.lett 5786 .num (.app 2 1 [.var 8,.var 9,.var 14,.var 15])
 (.req 2 [.var 3090,.var 3091,.var 5785,.var 5786]
 (.lett 5833 .num (.app 2 0 [.var 3090,.var 3091,.var 5785,.var 5786])
 (.lett 5834 .num (.app 2 1 [.var 3090,.var 3091,.var 5785,.var 5786])
 (.ret [.var 4345,.var 4346,.var 5305,.var 5306,.var 5833,.var 5834]))))))))))))))))))))))))))))))))))))))))))))))))))))))))))))))))))))))))))))
theorem law_sum2 (o:Fo) (f1 f2 f3 f4 f:FuncId) (e:Nat->Int) (hk:kkHas [.num,.num,.num,.num,.num,.num,.num,.num,.num,.num,.num,.num,.num,.num,.num,.num] [e 0,e 1,e 2,e 3,e 4,e 5,e 6,e 7,e 8,e 9,e 10,e 11,e 12,e 13,e 14,e 15]) (hp:(kSum2J o f).pre [e 0,e 1,e 2,e 3,e 4,e 5,e 6,e 7,e 8,e 9,e 10,e 11,e 12,e 13,e 14,e 15]):t2Sum.says [kE2Add f1,kE2Sub f2,kE2Mul f3,kTwice2 o f4] ⟨fun ys=>ys=(kSum2J o f).sem [e 0,e 1,e 2,e 3,e 4,e 5,e 6,e 7,e 8,e 9,e 10,e 11,e 12,e 13,e 14,e 15],[]⟩ e:=by
 obtain ⟨⟨q0,q1⟩,⟨⟨u4,u5⟩,⟨u6,u7⟩,u8,u9⟩,⟨u10,u11⟩,⟨u12,u13⟩,u14,u15⟩:(e 0=toE 1/\e 1=0)/\((e 4<bP/\e 5<bP)/\(e 6<bP/\e 7<bP)/\(e 8<bP/\e 9<bP))/\((e 10<bP/\e 11<bP)/\(e 12<bP/\e 13<bP)/\(e 14<bP/\e 15<bP)):=hp
 obtain ⟨_,_,_,_,h4,h5,h6,h7,h8,h9,h10,h11,h12,h13,h14,h15,_⟩:=hk
 have k8:=h8
 have k9:=h9
 have k14:=h14
 have k15:=h15
 have hd:(dblJ R2 (ofJ2 (e 4) (e 5) (e 6) (e 7) (e 8) (e 9))).e2=(dblJ R2 ⟨(ofE (e 4),ofE (e 5)),(ofE (e 6),ofE (e 7)),(ofE (e 8),ofE (e 9))⟩).e2:=rfl
 have q5:=EQ_self h4.1 u4 h5.1 u5
 have q7:=EQ_self h6.1 u6 h7.1 u7
 have q9:=EQ_self h8.1 u8 h9.1 u9
 have q11:=EQ_self h10.1 u10 h11.1 u11
 have q13:=EQ_self h12.1 u12 h13.1 u13
 have q15:=EQ_self h14.1 u14 h15.1 u15
 clear h4 h5 h6 h7 h8 h9 h10 h11 h12 h13 h14 h15
 show t2Sum.says _ ⟨fun ys=>ys=(sumJ R2 ⟨(ofE (e 4),ofE (e 5)),(ofE (e 6),ofE (e 7)),(ofE (e 8),ofE (e 9))⟩ ⟨(ofE (e 10),ofE (e 11)),(ofE (e 12),ofE (e 13)),(ofE (e 14),ofE (e 15))⟩).e2,[]⟩ e
 generalize (ofE (e 4),ofE (e 5))=X at *
 generalize (ofE (e 6),ofE (e 7))=Y at *
 generalize (ofE (e 8),ofE (e 9))=Z at *
 generalize (ofE (e 10),ofE (e 11))=X' at *
 generalize (ofE (e 12),ofE (e 13))=Y' at *
 generalize (ofE (e 14),ofE (e 15))=Z' at *
 intro a16 k16
 have b16:=c_num00 a16 k8 k9
 clear a16 k16
 refine ⟨fun h=>?_,fun h=>?_⟩
 ·have c16:=h
  have z1:=Q_z q9 (b_yes b16 c16)
  show [e 10,e 11,e 12,e 13,e 14,e 15]=_
  rw [sumJ_z1 z1,e2_self q11 q13 q15]
 ·have c16:=h
  have z1:=Q_nz q9 (b_no b16 c16)
  intro a17 k17
  have b17:=c_num00 a17 k14 k15
  clear a17 k17
  refine ⟨fun h=>?_,fun h=>?_⟩
  ·have c17:=h
   have z2:=Q_z q15 (b_yes b17 c17)
   show [e 4,e 5,e 6,e 7,e 8,e 9]=_
   rw [sumJ_z2 z1 z2,e2_self q5 q7 q9]
  ·have c17:=h
   have z2:=Q_nz q15 (b_no b17 c17)
   refine ⟨⟨EQ.l1 q9,EQ.l2 q9,EQ.l1 q9,EQ.l2 q9⟩,?_⟩
   intro a306 k306
   have q306:=(show e 306=toE (ofE (e 8)*ofE (e 8)-ofE (e 9)*ofE (e 9)) from a306)
   clear a306 k306
   intro a307 k307
   have q307:=EQ_mul q306 (show e 307=toE (ofE (e 8)*ofE (e 9)+ofE (e 9)*ofE (e 8)) from a307) q9 q9
   clear a307 k307
   refine ⟨⟨EQ.l1 q15,EQ.l2 q15,EQ.l1 q15,EQ.l2 q15⟩,?_⟩
   intro a642 k642
   have q642:=(show e 642=toE (ofE (e 14)*ofE (e 14)-ofE (e 15)*ofE (e 15)) from a642)
   clear a642 k642
   intro a643 k643
   have q643:=EQ_mul q642 (show e 643=toE (ofE (e 14)*ofE (e 15)+ofE (e 15)*ofE (e 14)) from a643) q15 q15
   clear a643 k643
   refine ⟨⟨EQ.l1 q5,EQ.l2 q5,EQ.l1 q643,EQ.l2 q643⟩,?_⟩
   intro a1122 k1122
   have q1122:=(show e 1122=toE (ofE (e 4)*ofE (e 642)-ofE (e 5)*ofE (e 643)) from a1122)
   clear a1122 k1122
   intro a1123 k1123
   have q1123:=EQ_mul q1122 (show e 1123=toE (ofE (e 4)*ofE (e 643)+ofE (e 5)*ofE (e 642)) from a1123) q5 q643
   clear a1123 k1123
   refine ⟨⟨EQ.l1 q11,EQ.l2 q11,EQ.l1 q307,EQ.l2 q307⟩,?_⟩
   intro a1410 k1410
   have q1410:=(show e 1410=toE (ofE (e 10)*ofE (e 306)-ofE (e 11)*ofE (e 307)) from a1410)
   clear a1410 k1410
   intro a1411 k1411
   have q1411:=EQ_mul q1410 (show e 1411=toE (ofE (e 10)*ofE (e 307)+ofE (e 11)*ofE (e 306)) from a1411) q11 q307
   clear a1411 k1411
   refine ⟨⟨EQ.l1 q643,EQ.l2 q643,EQ.l1 q15,EQ.l2 q15⟩,?_⟩
   intro a2082 k2082
   have q2082:=(show e 2082=toE (ofE (e 642)*ofE (e 14)-ofE (e 643)*ofE (e 15)) from a2082)
   clear a2082 k2082
   intro a2083 k2083
   have q2083:=EQ_mul q2082 (show e 2083=toE (ofE (e 642)*ofE (e 15)+ofE (e 643)*ofE (e 14)) from a2083) q643 q15
   clear a2083 k2083
   refine ⟨⟨EQ.l1 q7,EQ.l2 q7,EQ.l1 q2083,EQ.l2 q2083⟩,?_⟩
   intro a2130 k2130
   have q2130:=(show e 2130=toE (ofE (e 6)*ofE (e 2082)-ofE (e 7)*ofE (e 2083)) from a2130)
   clear a2130 k2130
   intro a2131 k2131
   have q2131:=EQ_mul q2130 (show e 2131=toE (ofE (e 6)*ofE (e 2083)+ofE (e 7)*ofE (e 2082)) from a2131) q7 q2083
   clear a2131 k2131
   refine ⟨⟨EQ.l1 q307,EQ.l2 q307,EQ.l1 q9,EQ.l2 q9⟩,?_⟩
   intro a2610 k2610
   have q2610:=(show e 2610=toE (ofE (e 306)*ofE (e 8)-ofE (e 307)*ofE (e 9)) from a2610)
   clear a2610 k2610
   intro a2611 k2611
   have q2611:=EQ_mul q2610 (show e 2611=toE (ofE (e 306)*ofE (e 9)+ofE (e 307)*ofE (e 8)) from a2611) q307 q9
   clear a2611 k2611
   refine ⟨⟨EQ.l1 q13,EQ.l2 q13,EQ.l1 q2611,EQ.l2 q2611⟩,?_⟩
   intro a2658 k2658
   have q2658:=(show e 2658=toE (ofE (e 12)*ofE (e 2610)-ofE (e 13)*ofE (e 2611)) from a2658)
   clear a2658 k2658
   intro a2659 k2659
   have q2659:=EQ_mul q2658 (show e 2659=toE (ofE (e 12)*ofE (e 2611)+ofE (e 13)*ofE (e 2610)) from a2659) q13 q2611
   clear a2659 k2659
   refine ⟨⟨EQ.l1 q1411,EQ.l2 q1411,EQ.l1 q1123,EQ.l2 q1123⟩,?_⟩
   intro a3090 k3090
   have q3090:=(show e 3090=toE (ofE (e 1410)-ofE (e 1122)) from a3090)
   clear a3090
   intro a3091 k3091
   have q3091:=EQ_sub q3090 (show e 3091=toE (ofE (e 1411)-ofE (e 1123)) from a3091) q1411 q1123
   clear a3091
   refine ⟨⟨EQ.l1 q2659,EQ.l2 q2659,EQ.l1 q2131,EQ.l2 q2131⟩,?_⟩
   intro a3330 k3330
   have q3330:=(show e 3330=toE (ofE (e 2658)-ofE (e 2130)) from a3330)
   clear a3330
   intro a3331 k3331
   have q3331:=EQ_sub q3330 (show e 3331=toE (ofE (e 2659)-ofE (e 2131)) from a3331) q2659 q2131
   clear a3331
   intro a3570 k3570
   have b3570:=c_num00 a3570 k3090 k3091
   clear a3570 k3570
   refine ⟨fun h=>?_,fun h=>?_⟩
   ·have c3570:=h
    have z3:=Q_z q3091 (b_yes b3570 c3570)
    intro a3571 k3571
    have b3571:=c_num00 a3571 k3330 k3331
    clear a3571 k3571
    refine ⟨fun h=>?_,fun h=>?_⟩
    ·have c3571:=h
     have z4:=Q_z q3331 (b_yes b3571 c3571)
     refine ⟨⟨⟨u4,u5⟩,⟨u6,u7⟩,u8,u9⟩,?_⟩
     intro a3572 k3572
     have q3572:=(show e 3572=((dblJ R2 (ofJ2 (e 4) (e 5) (e 6) (e 7) (e 8) (e 9))).e2).getD 0 0 from a3572)
     clear a3572 k3572
     intro a3573 k3573
     have q3573:=(show e 3573=((dblJ R2 (ofJ2 (e 4) (e 5) (e 6) (e 7) (e 8) (e 9))).e2).getD 1 0 from a3573)
     clear a3573 k3573
     intro a3574 k3574
     have q3574:=(show e 3574=((dblJ R2 (ofJ2 (e 4) (e 5) (e 6) (e 7) (e 8) (e 9))).e2).getD 2 0 from a3574)
     clear a3574 k3574
     intro a3575 k3575
     have q3575:=(show e 3575=((dblJ R2 (ofJ2 (e 4) (e 5) (e 6) (e 7) (e 8) (e 9))).e2).getD 3 0 from a3575)
     clear a3575 k3575
     intro a3576 k3576
     have q3576:=(show e 3576=((dblJ R2 (ofJ2 (e 4) (e 5) (e 6) (e 7) (e 8) (e 9))).e2).getD 4 0 from a3576)
     clear a3576 k3576
     intro a3577 k3577
     have q3577:=(show e 3577=((dblJ R2 (ofJ2 (e 4) (e 5) (e 6) (e 7) (e 8) (e 9))).e2).getD 5 0 from a3577)
     clear a3577 k3577
     show [e 3572,e 3573,e 3574,e 3575,e 3576,e 3577]=_
     rw [sumJ_dbl z1 z2 z3 z4,<- hd,q3572,q3573,q3574,q3575,q3576,q3577];rfl
    ·have c3571:=h
     have z4:=Q_nz q3331 (b_no b3571 c3571)
     show [e 0,e 1,e 0,e 1,0,0]=_
     rw [sumJ_opp z1 z2 z3 z4,q0,q1]
     show _=[toE 1,toE 0,toE 1,toE 0,toE 0,toE 0]
     rw [toE_0]
   ·have c3570:=h
    have z3:=Q_nz q3091 (b_no b3570 c3570)
    refine ⟨⟨EQ.l1 q3091,EQ.l2 q3091,EQ.l1 q3091,EQ.l2 q3091⟩,?_⟩
    intro a3571 k3571
    have q3571:=(show e 3571=toE (ofE (e 3090)*ofE (e 3090)-ofE (e 3091)*ofE (e 3091)) from a3571)
    clear a3571 k3571
    intro a3572 k3572
    have q3572:=EQ_mul q3571 (show e 3572=toE (ofE (e 3090)*ofE (e 3091)+ofE (e 3091)*ofE (e 3090)) from a3572) q3091 q3091
    clear a3572 k3572
    refine ⟨⟨EQ.l1 q3572,EQ.l2 q3572,EQ.l1 q3091,EQ.l2 q3091⟩,?_⟩
    intro a3573 k3573
    have q3573:=(show e 3573=toE (ofE (e 3571)*ofE (e 3090)-ofE (e 3572)*ofE (e 3091)) from a3573)
    clear a3573 k3573
    intro a3574 k3574
    have q3574:=EQ_mul q3573 (show e 3574=toE (ofE (e 3571)*ofE (e 3091)+ofE (e 3572)*ofE (e 3090)) from a3574) q3572 q3091
    clear a3574 k3574
    refine ⟨⟨EQ.l1 q1123,EQ.l2 q1123,EQ.l1 q3572,EQ.l2 q3572⟩,?_⟩
    intro a3575 k3575
    have q3575:=(show e 3575=toE (ofE (e 1122)*ofE (e 3571)-ofE (e 1123)*ofE (e 3572)) from a3575)
    clear a3575 k3575
    intro a3576 k3576
    have q3576:=EQ_mul q3575 (show e 3576=toE (ofE (e 1122)*ofE (e 3572)+ofE (e 1123)*ofE (e 3571)) from a3576) q1123 q3572
    clear a3576 k3576
    refine ⟨⟨EQ.l1 q3331,EQ.l2 q3331,EQ.l1 q3331,EQ.l2 q3331⟩,?_⟩
    intro a3961 k3961
    have q3961:=(show e 3961=toE (ofE (e 3330)*ofE (e 3330)-ofE (e 3331)*ofE (e 3331)) from a3961)
    clear a3961 k3961
    intro a3962 k3962
    have q3962:=EQ_mul q3961 (show e 3962=toE (ofE (e 3330)*ofE (e 3331)+ofE (e 3331)*ofE (e 3330)) from a3962) q3331 q3331
    clear a3962 k3962
    refine ⟨⟨EQ.l1 q3962,EQ.l2 q3962,EQ.l1 q3574,EQ.l2 q3574⟩,?_⟩
    intro a4057 k4057
    have q4057:=(show e 4057=toE (ofE (e 3961)-ofE (e 3573)) from a4057)
    clear a4057 k4057
    intro a4058 k4058
    have q4058:=EQ_sub q4057 (show e 4058=toE (ofE (e 3962)-ofE (e 3574)) from a4058) q3962 q3574
    clear a4058 k4058
    refine ⟨⟨EQ.l1 q3576,EQ.l2 q3576,EQ.l1 q3576,EQ.l2 q3576⟩,?_⟩
    intro a4297 k4297
    have q4297:=(show e 4297=toE (ofE (e 3575)+ofE (e 3575)) from a4297)
    clear a4297 k4297
    intro a4298 k4298
    have q4298:=EQ_add q4297 (show e 4298=toE (ofE (e 3576)+ofE (e 3576)) from a4298) q3576 q3576
    clear a4298 k4298
    refine ⟨⟨EQ.l1 q4058,EQ.l2 q4058,EQ.l1 q4298,EQ.l2 q4298⟩,?_⟩
    intro a4345 k4345
    have q4345:=(show e 4345=toE (ofE (e 4057)-ofE (e 4297)) from a4345)
    clear a4345 k4345
    intro a4346 k4346
    have q4346:=EQ_sub q4345 (show e 4346=toE (ofE (e 4058)-ofE (e 4298)) from a4346) q4058 q4298
    clear a4346 k4346
    refine ⟨⟨EQ.l1 q3576,EQ.l2 q3576,EQ.l1 q4346,EQ.l2 q4346⟩,?_⟩
    intro a4969 k4969
    have q4969:=(show e 4969=toE (ofE (e 3575)-ofE (e 4345)) from a4969)
    clear a4969 k4969
    intro a4970 k4970
    have q4970:=EQ_sub q4969 (show e 4970=toE (ofE (e 3576)-ofE (e 4346)) from a4970) q3576 q4346
    clear a4970 k4970
    refine ⟨⟨EQ.l1 q3331,EQ.l2 q3331,EQ.l1 q4970,EQ.l2 q4970⟩,?_⟩
    intro a5017 k5017
    have q5017:=(show e 5017=toE (ofE (e 3330)*ofE (e 4969)-ofE (e 3331)*ofE (e 4970)) from a5017)
    clear a5017 k5017
    intro a5018 k5018
    have q5018:=EQ_mul q5017 (show e 5018=toE (ofE (e 3330)*ofE (e 4970)+ofE (e 3331)*ofE (e 4969)) from a5018) q3331 q4970
    clear a5018 k5018
    refine ⟨⟨EQ.l1 q2131,EQ.l2 q2131,EQ.l1 q3574,EQ.l2 q3574⟩,?_⟩
    intro a5257 k5257
    have q5257:=(show e 5257=toE (ofE (e 2130)*ofE (e 3573)-ofE (e 2131)*ofE (e 3574)) from a5257)
    clear a5257 k5257
    intro a5258 k5258
    have q5258:=EQ_mul q5257 (show e 5258=toE (ofE (e 2130)*ofE (e 3574)+ofE (e 2131)*ofE (e 3573)) from a5258) q2131 q3574
    clear a5258 k5258
    refine ⟨⟨EQ.l1 q5018,EQ.l2 q5018,EQ.l1 q5258,EQ.l2 q5258⟩,?_⟩
    intro a5305 k5305
    have q5305:=(show e 5305=toE (ofE (e 5017)-ofE (e 5257)) from a5305)
    clear a5305 k5305
    intro a5306 k5306
    have q5306:=EQ_sub q5305 (show e 5306=toE (ofE (e 5018)-ofE (e 5258)) from a5306) q5018 q5258
    clear a5306 k5306
    refine ⟨⟨EQ.l1 q9,EQ.l2 q9,EQ.l1 q15,EQ.l2 q15⟩,?_⟩
    intro a5785 k5785
    have q5785:=(show e 5785=toE (ofE (e 8)*ofE (e 14)-ofE (e 9)*ofE (e 15)) from a5785)
    clear a5785 k5785
    intro a5786 k5786
    have q5786:=EQ_mul q5785 (show e 5786=toE (ofE (e 8)*ofE (e 15)+ofE (e 9)*ofE (e 14)) from a5786) q9 q15
    clear a5786 k5786
    refine ⟨⟨EQ.l1 q3091,EQ.l2 q3091,EQ.l1 q5786,EQ.l2 q5786⟩,?_⟩
    intro a5833 k5833
    have q5833:=(show e 5833=toE (ofE (e 3090)*ofE (e 5785)-ofE (e 3091)*ofE (e 5786)) from a5833)
    clear a5833 k5833
    intro a5834 k5834
    have q5834:=EQ_mul q5833 (show e 5834=toE (ofE (e 3090)*ofE (e 5786)+ofE (e 3091)*ofE (e 5785)) from a5834) q3091 q5786
    clear a5834 k5834
    show [e 4345,e 4346,e 5305,e 5306,e 5833,e 5834]=_
    rw [sumJ_gen z1 z2 z3,q4346.1,q4346.2,q5306.1,q5306.2,q5834.1,q5834.2];rfl
def kE2Conj (f:FuncId):K:={fn:=f,ext:=false,ins:=[iE2],outs:=[oE2],pre:=fun | [_,b]=>b<bP | _=>False,sem:=fun | [a,b]=>[a,toE (-ofE b)] | _=>[] }
def kE2Inv (f:FuncId):K:={fn:=f,ext:=false,ins:=[iE2],outs:=[oE2],pre:=fun | [a,b]=>a<bP/\b<bP | _=>False,sem:=fun | [a,b]=>[toE (inv2 (ofE a,ofE b)).1,toE (inv2 (ofE a,ofE b)).2] | _=>[] }
theorem Eneg {v a A:Int} (h:v=toE (-ofE a)) (ha:a=toE A):v=toE (-A):=h.trans (toE_md (mdE_neg (E_ofm ha)))
def tE2Conj:Tree:=(.req 0 [.var 1]
(.lett 194 .num (.app 0 0 [.var 1])
(.ret [.var 0,.var 194])))
theorem law_e2Conj (f1 f:FuncId) (e:Nat->Int) (hk:kkHas [.num,.num] [e 0,e 1]) (hp:(kE2Conj f).pre [e 0,e 1]):tE2Conj.says [kENeg f1] ⟨fun ys=>ys=(kE2Conj f).sem [e 0,e 1],[]⟩ e:=by
 have u1:e 1<bP:=hp
 show tE2Conj.says _ ⟨fun ys=>ys=[e 0,toE (-ofE (e 1))],[]⟩ e
 refine ⟨u1,?_⟩
 intro a194 k194
 have q194:=(show e 194=toE (-ofE (e 1)) from a194)
 clear a194 k194
 show [e 0,e 194]=_
 rw [q194]
def tE2Inv:Tree:=(.req 1 [.var 0,.var 1]
(.lett 50 .num (.app 1 0 [.var 0,.var 1])
(.lett 51 .num (.app 1 1 [.var 0,.var 1])
(.req 3 [.var 0,.var 1]
(.lett 146 .num (.app 3 0 [.var 0,.var 1])
(.req 2 [.var 146]
(.lett 194 .num (.app 2 0 [.var 146])
(.req 0 [.var 50,.var 51,.var 194]
(.lett 242 .num (.app 0 0 [.var 50,.var 51,.var 194])
(.lett 243 .num (.app 0 1 [.var 50,.var 51,.var 194])
(.ret [.var 242,.var 243])))))))))))
theorem law_e2Inv (f1 f2 f3 f4 f:FuncId) (e:Nat->Int) (hk:kkHas [.num,.num] [e 0,e 1]) (hp:(kE2Inv f).pre [e 0,e 1]):tE2Inv.says [kE2Scale f1,kE2Conj f2,kEInv f3,kE2Norm f4] ⟨fun ys=>ys=(kE2Inv f).sem [e 0,e 1],[]⟩ e:=by
 obtain ⟨u0,u1⟩:e 0<bP/\e 1<bP:=hp
 obtain ⟨h0,h1,_⟩:=hk
 have q0:=E_of h0.1 u0
 have q1:=E_of h1.1 u1
 have hnm:∀ x y n:Int,-y*n=-(y*n):=fun x y n=>Int.neg_mul y n
 show tE2Inv.says _ ⟨fun ys=>ys=[toE (inv2 (ofE (e 0),ofE (e 1))).1,toE (inv2 (ofE (e 0),ofE (e 1))).2],[]⟩ e
 refine ⟨u1,?_⟩
 intro a50 k50
 have q50:=(show e 50=toE (ofE (e 0)) from (show e 50=e 0 from a50).trans q0)
 clear a50 k50
 intro a51 k51
 have q51:=Eneg (show e 51=toE (-ofE (e 1)) from a51) q1
 clear a51 k51
 refine ⟨⟨u0,u1⟩,?_⟩
 intro a146 k146
 have q146:=(show e 146=toE (ofE (e 0)*ofE (e 0)+ofE (e 1)*ofE (e 1)) from a146)
 clear a146 k146
 refine ⟨E_lt q146,?_⟩
 intro a194 k194
 have q194:=Epow (show e 194=toE (ofE (e 146)^(bP-2).toNat) from a194) q146
 clear a194 k194
 refine ⟨⟨E_lt q50,E_lt q51,E_lt q194⟩,?_⟩
 intro a242 k242
 have q242:=Emul (show e 242=toE (ofE (e 50)*ofE (e 194)) from a242) q50 q194
 clear a242 k242
 intro a243 k243
 have q243:=Emul (show e 243=toE (ofE (e 51)*ofE (e 194)) from a243) q51 q194
 clear a243 k243
 show [e 242,e 243]=_
 rw [q242,q243,Int.neg_mul];rfl
theorem EQ_inv {x y a b:Int} {A:E2} (h:x=toE (inv2 (ofE a,ofE b)).1) (k:y=toE (inv2 (ofE a,ofE b)).2) (ha:EQ a b A):EQ x y (inv2 A):=by
 have hn:nrm (ofE a) (ofE b)%bP=nrm A.1 A.2%bP:=mdE_pow (mdE_add (mdE_mul (E_ofm ha.1) (E_ofm ha.1)) (mdE_mul (E_ofm ha.2) (E_ofm ha.2))) _
 exact ⟨h.trans (toE_md (mdE_mul (E_ofm ha.1) hn)),k.trans (toE_md (mdE_neg (mdE_mul (E_ofm ha.2) hn)))⟩
def lowE2 (P:J E2):List Int:=if P.z.1%bP=0/\P.z.2%bP=0 then [0,0,0,0,1] else
 let i:=inv2 P.z
 let s:=R2.mul i i
 let x:=R2.mul P.x s
 let y:=R2.mul P.y (R2.mul s i)
 [toE x.1,toE x.2,toE y.1,toE y.2,0]
theorem lowE2_z {P:J E2} (h:R2.isz P.z=true):lowE2 P=[0,0,0,0,1]:=if_pos (isz3.1 h)
theorem lowE2_n {P:J E2} (h:¬ R2.isz P.z=true):lowE2 P=[toE (R2.mul P.x (R2.mul (inv2 P.z) (inv2 P.z))).1,toE (R2.mul P.x (R2.mul (inv2 P.z) (inv2 P.z))).2,toE (R2.mul P.y (R2.mul (R2.mul (inv2 P.z) (inv2 P.z)) (inv2 P.z))).1,toE (R2.mul P.y (R2.mul (R2.mul (inv2 P.z) (inv2 P.z)) (inv2 P.z))).2,0]:=if_neg (fun hc=>h (isz3.2 hc))
def kLower2 (o:Fo) (f:FuncId):K:={fn:=f,ext:=false,ins:=[.agg o.ls2,.agg ls6],outs:=[.agg lsQ2],pre:=fun | [_,_,_,_,a,b,c,d,x,y]=>(a<bP/\b<bP)/\(c<bP/\d<bP)/\(x<bP/\y<bP) | _=>False,sem:=fun | [_,_,_,_,a,b,c,d,x,y]=>lowE2 (ofJ2 a b c d x y) | _=>[] }
def t2Lower:Tree:=(.lett 10 .bit (.eqs [((.limb 8 0),(.lit 0)),((.limb 8 1),(.lit 0)),((.limb 8 2),(.lit 0)),((.limb 8 3),(.lit 0)),((.limb 8 4),(.lit 0)),((.limb 8 5),(.lit 0)),((.limb 9 0),(.lit 0)),((.limb 9 1),(.lit 0)),((.limb 9 2),(.lit 0)),((.limb 9 3),(.lit 0)),((.limb 9 4),(.lit 0)),((.limb 9 5),(.lit 0))])
(.split 10
(.ret [.lit 0,.lit 0,.lit 0,.lit 0,.lit 1])
(.req 1 [.var 8,.var 9]
(.lett 11 .num (.app 1 0 [.var 8,.var 9])
(.lett 12 .num (.app 1 1 [.var 8,.var 9])
(.req 0 [.var 11,.var 12,.var 11,.var 12]
(.lett 13 .num (.app 0 0 [.var 11,.var 12,.var 11,.var 12])
(.lett 14 .num (.app 0 1 [.var 11,.var 12,.var 11,.var 12])
(.req 0 [.var 4,.var 5,.var 13,.var 14]
(.lett 255 .num (.app 0 0 [.var 4,.var 5,.var 13,.var 14])
(.lett 256 .num (.app 0 1 [.var 4,.var 5,.var 13,.var 14])
(.req 0 [.var 13,.var 14,.var 11,.var 12]
(.lett 687 .num (.app 0 0 [.var 13,.var 14,.var 11,.var 12])
(.lett 688 .num (.app 0 1 [.var 13,.var 14,.var 11,.var 12])
(.req 0 [.var 6,.var 7,.var 687,.var 688]
(.lett 735 .num (.app 0 0 [.var 6,.var 7,.var 687,.var 688])
(.lett 736 .num (.app 0 1 [.var 6,.var 7,.var 687,.var 688])
(.ret [.var 255,.var 256,.var 735,.var 736,.lit 0]))))))))))))))))))
theorem law_lower2 (o:Fo) (f1 f2 f:FuncId) (e:Nat->Int) (hk:kkHas [.num,.num,.num,.num,.num,.num,.num,.num,.num,.num] [e 0,e 1,e 2,e 3,e 4,e 5,e 6,e 7,e 8,e 9]) (hp:(kLower2 o f).pre [e 0,e 1,e 2,e 3,e 4,e 5,e 6,e 7,e 8,e 9]):t2Lower.says [kE2Mul f1,kE2Inv f2] ⟨fun ys=>ys=(kLower2 o f).sem [e 0,e 1,e 2,e 3,e 4,e 5,e 6,e 7,e 8,e 9],[]⟩ e:=by
 obtain ⟨⟨u4,u5⟩,⟨u6,u7⟩,u8,u9⟩:(e 4<bP/\e 5<bP)/\(e 6<bP/\e 7<bP)/\(e 8<bP/\e 9<bP):=hp
 obtain ⟨_,_,_,_,h4,h5,h6,h7,h8,h9,_⟩:=hk
 have k8:=h8
 have k9:=h9
 have q5:=EQ_self h4.1 u4 h5.1 u5
 have q7:=EQ_self h6.1 u6 h7.1 u7
 have q9:=EQ_self h8.1 u8 h9.1 u9
 clear u4 u5 u6 u7 u8 u9 h4 h5 h6 h7 h8 h9
 show t2Lower.says _ ⟨fun ys=>ys=lowE2 (ofJ2 (e 4) (e 5) (e 6) (e 7) (e 8) (e 9)),[]⟩ e
 intro a10 k10
 have b10:=c_num00 a10 k8 k9
 clear a10 k10
 refine ⟨fun h=>?_,fun h=>?_⟩
 ·have c10:=h
  have z1:=Q_z q9 (b_yes b10 c10)
  show [0,0,0,0,1]=_
  rw [lowE2_z z1]
 ·have c10:=h
  have z1:=Q_nz q9 (b_no b10 c10)
  refine ⟨⟨EQ.l1 q9,EQ.l2 q9⟩,?_⟩
  intro a11 k11
  have q11:=(show e 11=toE (inv2 (ofE (e 8),ofE (e 9))).1 from a11)
  clear a11 k11
  intro a12 k12
  have q12:=EQ_inv q11 (show e 12=toE (inv2 (ofE (e 8),ofE (e 9))).2 from a12) q9
  clear a12 k12
  refine ⟨⟨EQ.l1 q12,EQ.l2 q12,EQ.l1 q12,EQ.l2 q12⟩,?_⟩
  intro a13 k13
  have q13:=(show e 13=toE (ofE (e 11)*ofE (e 11)-ofE (e 12)*ofE (e 12)) from a13)
  clear a13 k13
  intro a14 k14
  have q14:=EQ_mul q13 (show e 14=toE (ofE (e 11)*ofE (e 12)+ofE (e 12)*ofE (e 11)) from a14) q12 q12
  clear a14 k14
  refine ⟨⟨EQ.l1 q5,EQ.l2 q5,EQ.l1 q14,EQ.l2 q14⟩,?_⟩
  intro a255 k255
  have q255:=(show e 255=toE (ofE (e 4)*ofE (e 13)-ofE (e 5)*ofE (e 14)) from a255)
  clear a255 k255
  intro a256 k256
  have q256:=EQ_mul q255 (show e 256=toE (ofE (e 4)*ofE (e 14)+ofE (e 5)*ofE (e 13)) from a256) q5 q14
  clear a256 k256
  refine ⟨⟨EQ.l1 q14,EQ.l2 q14,EQ.l1 q12,EQ.l2 q12⟩,?_⟩
  intro a687 k687
  have q687:=(show e 687=toE (ofE (e 13)*ofE (e 11)-ofE (e 14)*ofE (e 12)) from a687)
  clear a687 k687
  intro a688 k688
  have q688:=EQ_mul q687 (show e 688=toE (ofE (e 13)*ofE (e 12)+ofE (e 14)*ofE (e 11)) from a688) q14 q12
  clear a688 k688
  refine ⟨⟨EQ.l1 q7,EQ.l2 q7,EQ.l1 q688,EQ.l2 q688⟩,?_⟩
  intro a735 k735
  have q735:=(show e 735=toE (ofE (e 6)*ofE (e 687)-ofE (e 7)*ofE (e 688)) from a735)
  clear a735 k735
  intro a736 k736
  have q736:=EQ_mul q735 (show e 736=toE (ofE (e 6)*ofE (e 688)+ofE (e 7)*ofE (e 687)) from a736) q7 q688
  clear a736 k736
  show [e 255,e 256,e 735,e 736,0]=_
  rw [lowE2_n z1,q256.1,q256.2,q736.1,q736.2];rfl
theorem S2R_mul {a b c d:E2} (h:S2 a b) (k:S2 c d):S2 (R2.mul a c) (R2.mul b d):=⟨mdE_sub (mdE_mul h.1 k.1) (mdE_mul h.2 k.2),mdE_add (mdE_mul h.1 k.2) (mdE_mul h.2 k.1)⟩
theorem S2R_add {a b c d:E2} (h:S2 a b) (k:S2 c d):S2 (R2.add a c) (R2.add b d):=⟨mdE_add h.1 k.1,mdE_add h.2 k.2⟩
theorem S2R_sub {a b c d:E2} (h:S2 a b) (k:S2 c d):S2 (R2.sub a c) (R2.sub b d):=⟨mdE_sub h.1 k.1,mdE_sub h.2 k.2⟩
theorem S2_refl (a:E2):S2 a a:=⟨rfl,rfl⟩
theorem S2_isz {a b:E2} (h:S2 a b):R2.isz a=R2.isz b:=by
 rw [Bool.eq_iff_iff]
 exact isz3.trans ((by rw [h.1,h.2]:(a.1%bP=0/\a.2%bP=0)↔(b.1%bP=0/\b.2%bP=0)).trans isz3.symm)
def JS (P Q:J E2):Prop:=S2 P.x Q.x/\S2 P.y Q.y/\S2 P.z Q.z
theorem JS.refl (P:J E2):JS P P:=⟨S2_refl _,S2_refl _,S2_refl _⟩
theorem JS.symm {P Q:J E2} (h:JS P Q):JS Q P:=⟨⟨h.1.1.symm,h.1.2.symm⟩,⟨h.2.1.1.symm,h.2.1.2.symm⟩,h.2.2.1.symm,h.2.2.2.symm⟩
theorem JS.trans {P Q S:J E2} (h:JS P Q) (k:JS Q S):JS P S:=⟨⟨h.1.1.trans k.1.1,h.1.2.trans k.1.2⟩,⟨h.2.1.1.trans k.2.1.1,h.2.1.2.trans k.2.1.2⟩,h.2.2.1.trans k.2.2.1,h.2.2.2.trans k.2.2.2⟩
theorem JS.e2 {P Q:J E2} (h:JS P Q):P.e2=Q.e2:=by
 unfold J.e2
 rw [toE_md h.1.1,toE_md h.1.2,toE_md h.2.1.1,toE_md h.2.1.2,toE_md h.2.2.1,toE_md h.2.2.2]
theorem JS_md (P:J E2):JS (J.md R2 P) P:=⟨⟨md_self _,md_self _⟩,⟨md_self _,md_self _⟩,md_self _,md_self _⟩
theorem JS_dbl {P Q:J E2} (h:JS P Q):JS (dblJ R2 P) (dblJ R2 Q):=by
 obtain ⟨hx,hy,hz⟩:=h
 have yy:=S2R_mul hy hy
 have s:=S2R_mul hx yy
 have s:=S2R_add s s
 have s:=S2R_add s s
 have m:=S2R_mul hx hx
 have m:=S2R_add (S2R_add m m) m
 have x:=S2R_sub (S2R_mul m m) (S2R_add s s)
 have e:=S2R_mul yy yy
 have e:=S2R_add e e
 have e:=S2R_add e e
 have e:=S2R_add e e
 have z:=S2R_mul hy hz
 exact ⟨x,S2R_sub (S2R_mul m (S2R_sub s x)) e,S2R_add z z⟩
theorem JS_hJ {P Q U V:J E2} (h:JS P Q) (k:JS U V):S2 (hJ R2 P U) (hJ R2 Q V):=S2R_sub (S2R_mul k.1 (S2R_mul h.2.2 h.2.2)) (S2R_mul h.1 (S2R_mul k.2.2 k.2.2))
theorem JS_rJ {P Q U V:J E2} (h:JS P Q) (k:JS U V):S2 (rJ R2 P U) (rJ R2 Q V):=S2R_sub (S2R_mul k.2.1 (S2R_mul (S2R_mul h.2.2 h.2.2) h.2.2)) (S2R_mul h.2.1 (S2R_mul (S2R_mul k.2.2 k.2.2) k.2.2))
theorem JS_add {P Q U V:J E2} (h:JS P Q) (k:JS U V):JS (addJ R2 P U) (addJ R2 Q V):=by
 have hh:=JS_hJ h k
 have hr:=JS_rJ h k
 have h2:=S2R_mul hh hh
 have h3:=S2R_mul h2 hh
 have u:=S2R_mul h.1 (S2R_mul k.2.2 k.2.2)
 have w:=S2R_mul u h2
 have s:=S2R_mul h.2.1 (S2R_mul (S2R_mul k.2.2 k.2.2) k.2.2)
 have x:=S2R_sub (S2R_sub (S2R_mul hr hr) h3) (S2R_add w w)
 exact ⟨x,S2R_sub (S2R_mul hr (S2R_sub w x)) (S2R_mul s h3),S2R_mul hh (S2R_mul h.2.2 k.2.2)⟩
theorem JS_sum {P Q U V:J E2} (h:JS P Q) (k:JS U V):JS (sumJ R2 P U) (sumJ R2 Q V):=by
 rw [sumJ_eq,sumJ_eq,S2_isz h.2.2,S2_isz k.2.2,S2_isz (JS_hJ h k),S2_isz (JS_rJ h k)]
 split
 ·exact k
 ·split
  ·exact h
  ·split
   ·split
    ·exact JS_dbl h
    ·exact JS.refl _
   ·exact JS_add h k
theorem JS_of {a b c d x y:Int} {S:J E2} (h:[a,b,c,d,x,y]=S.e2):JS (ofJ2 a b c d x y) S:=by
 unfold J.e2 at h
 injection h with h1 h
 injection h with h2 h
 injection h with h3 h
 injection h with h4 h
 injection h with h5 h
 injection h with h6 h
 exact ⟨⟨E_ofm h1,E_ofm h2⟩,⟨E_ofm h3,E_ofm h4⟩,E_ofm h5,E_ofm h6⟩
def kTimes2 (o:Fo) (f:FuncId):K:={fn:=f,ext:=false,ins:=[.agg o.ls2,.agg ls6,iN],outs:=[.agg ls6],pre:=fun | [u,v,_,_,a,b,c,d,x,y,_]=>(u=toE 1/\v=0)/\((a<bP/\b<bP)/\(c<bP/\d<bP)/\(x<bP/\y<bP)) | _=>False,sem:=fun | [_,_,_,_,a,b,c,d,x,y,n]=>(tmJ R2 (ofJ2 a b c d x y) 384 n.toNat).e2 | _=>[] }
def TimesE2 (P:J E2) (n:Int):List Int->Prop
 | [i,a,b,c,d,x,y]=>-1<=i/\i<blen n/\[a,b,c,d,x,y]=(tmJ R2 P 384 (n/2^(i+1).toNat).toNat).e2
 | _=>False
theorem e2_lt {a b c d x y:Int} {P:J E2} (h:[a,b,c,d,x,y]=P.e2):(a<bP/\b<bP)/\(c<bP/\d<bP)/\(x<bP/\y<bP):=by
 unfold J.e2 at h
 injection h with h1 h
 injection h with h2 h
 injection h with h3 h
 injection h with h4 h
 injection h with h5 h
 injection h with h6 h
 exact ⟨⟨E_lt h1,E_lt h2⟩,⟨E_lt h3,E_lt h4⟩,E_lt h5,E_lt h6⟩
theorem oJ_e2:(oJ R2).e2=[toE 1,0,toE 1,0,0,0]:=by
 show [toE 1,toE 0,toE 1,toE 0,toE 0,toE 0]=_
 rw [toE_0]
def t2Times:Tree:=(.req 0 [.var 10]
(.lett 11 (.int .i64) (.app 0 0 [.var 10])
(.lett 12 (.int .i64) (.bin .sub .i64 (.var 11) (.lit 1))
(.loop [.var 12,.var 0,.var 1,.var 0,.var 1,.lit 0,.lit 0] [(.int .i64),.num,.num,.num,.num,.num,.num] 13
(.lett 20 .bit (.cmp .geq (.var 13) (.lit 0))
(.split 20
(.req 2 [.var 0,.var 1,.var 2,.var 3,.var 14,.var 15,.var 16,.var 17,.var 18,.var 19]
(.lett 21 .num (.app 2 0 [.var 0,.var 1,.var 2,.var 3,.var 14,.var 15,.var 16,.var 17,.var 18,.var 19])
(.lett 22 .num (.app 2 1 [.var 0,.var 1,.var 2,.var 3,.var 14,.var 15,.var 16,.var 17,.var 18,.var 19])
(.lett 23 .num (.app 2 2 [.var 0,.var 1,.var 2,.var 3,.var 14,.var 15,.var 16,.var 17,.var 18,.var 19])
(.lett 24 .num (.app 2 3 [.var 0,.var 1,.var 2,.var 3,.var 14,.var 15,.var 16,.var 17,.var 18,.var 19])
(.lett 25 .num (.app 2 4 [.var 0,.var 1,.var 2,.var 3,.var 14,.var 15,.var 16,.var 17,.var 18,.var 19])
(.lett 26 .num (.app 2 5 [.var 0,.var 1,.var 2,.var 3,.var 14,.var 15,.var 16,.var 17,.var 18,.var 19])
(.req 1 [.var 10,.var 13]
(.lett 27 (.int .i64) (.app 1 0 [.var 10,.var 13])
(.lett 28 .bit (.cmp .eql (.var 27) (.lit 1))
(.split 28
 (.req 3 [.var 0,.var 1,.var 2,.var 3,.var 21,.var 22,.var 23,.var 24,.var 25,.var 26,.var 4,.var 5,.var 6,.var 7,.var 8,.var 9]
 (.lett 29 .num (.app 3 0 [.var 0,.var 1,.var 2,.var 3,.var 21,.var 22,.var 23,.var 24,.var 25,.var 26,.var 4,.var 5,.var 6,.var 7,.var 8,.var 9])
 (.lett 30 .num (.app 3 1 [.var 0,.var 1,.var 2,.var 3,.var 21,.var 22,.var 23,.var 24,.var 25,.var 26,.var 4,.var 5,.var 6,.var 7,.var 8,.var 9])
 (.lett 31 .num (.app 3 2 [.var 0,.var 1,.var 2,.var 3,.var 21,.var 22,.var 23,.var 24,.var 25,.var 26,.var 4,.var 5,.var 6,.var 7,.var 8,.var 9])
 (.lett 32 .num (.app 3 3 [.var 0,.var 1,.var 2,.var 3,.var 21,.var 22,.var 23,.var 24,.var 25,.var 26,.var 4,.var 5,.var 6,.var 7,.var 8,.var 9])
 (.lett 33 .num (.app 3 4 [.var 0,.var 1,.var 2,.var 3,.var 21,.var 22,.var 23,.var 24,.var 25,.var 26,.var 4,.var 5,.var 6,.var 7,.var 8,.var 9])
 (.lett 34 .num (.app 3 5 [.var 0,.var 1,.var 2,.var 3,.var 21,.var 22,.var 23,.var 24,.var 25,.var 26,.var 4,.var 5,.var 6,.var 7,.var 8,.var 9])
 (.lett 35 (.int .i64) (.bin .sub .i64 (.var 13) (.lit 1))
 (.back 0 [.var 35,.var 29,.var 30,.var 31,.var 32,.var 33,.var 34])))))))))
 (.lett 29 (.int .i64) (.bin .sub .i64 (.var 13) (.lit 1))
 (.back 0 [.var 29,.var 21,.var 22,.var 23,.var 24,.var 25,.var 26])))))))))))))
(.ret [.var 14,.var 15,.var 16,.var 17,.var 18,.var 19])))))))
theorem law_times2 (o:Fo) (f1 f2 f3 f4 f:FuncId) (e:Nat->Int) (hk:kkHas [.num,.num,.num,.num,.num,.num,.num,.num,.num,.num,.num] [e 0,e 1,e 2,e 3,e 4,e 5,e 6,e 7,e 8,e 9,e 10]) (hp:(kTimes2 o f).pre [e 0,e 1,e 2,e 3,e 4,e 5,e 6,e 7,e 8,e 9,e 10]):t2Times.says [kWLen f1,kBit f2,kTwice2 o f3,kSum2J o f4] ⟨fun ys=>ys=(kTimes2 o f).sem [e 0,e 1,e 2,e 3,e 4,e 5,e 6,e 7,e 8,e 9,e 10],[]⟩ e:=by
 obtain ⟨q0,uP⟩:(e 0=toE 1/\e 1=0)/\((e 4<bP/\e 5<bP)/\(e 6<bP/\e 7<bP)/\(e 8<bP/\e 9<bP)):=hp
 obtain ⟨_,_,_,_,_,_,_,_,_,_,h5,_⟩:=hk
 have hn:0<=e 10/\e 10<N384:=h5
 obtain ⟨P,hP⟩:∃ P,P=ofJ2 (e 4) (e 5) (e 6) (e 7) (e 8) (e 9):=⟨_,rfl⟩
 refine ⟨trivial,fun a6 _ a7 _=>?_⟩
 have v6:e 11=blen (e 10):=a6
 have b0:=blen_nn (e 10)
 have b1:=blen_le 384 (e 10) hn.1 (by rw [p384];exact hn.2)
 have v7:e 12=blen (e 10)-1:=by
  have:e 12=binE .sub .i64 (e 11) 1:=a7
  rw [this,v6];simp only [binE,wr];omega
 refine ⟨TimesE2 P (e 10),fun | [i,_,_,_,_,_,_]=>(i+1).toNat | _=>0,?_,fun e' he hkk hI=>?_⟩
 ·show -1<=e 12/\e 12<blen (e 10)/\[e 0,e 1,e 0,e 1,0,0]=(tmJ R2 P 384 (e 10/2^(e 12+1).toNat).toNat).e2
  rw [v7]
  refine ⟨by omega,by omega,?_⟩
  rw [Int.sub_add_cancel]
  have h1:e 10/2^(blen (e 10)).toNat=0:=by
   rcases Int.lt_or_le (e 10) (2^(blen (e 10)).toNat) with hc | hc
   ·exact Int.ediv_eq_zero_of_lt hn.1 hc
   ·have:=blen_gt (blen (e 10)).toNat (e 10) hc;omega
  rw [h1,q0.1,q0.2]
  exact oJ_e2.symm
 ·obtain ⟨i1,i2,i3⟩:TimesE2 P (e 10) [e' 13,e' 14,e' 15,e' 16,e' 17,e' 18,e' 19]:=hI
  rw [<- he 0 (by decide),<- he 1 (by decide)] at q0
  rw [<- he 4 (by decide),<- he 5 (by decide),<- he 6 (by decide),<- he 7 (by decide),<- he 8 (by decide),<- he 9 (by decide)] at uP hP
  rw [<- he 10 (by decide)] at hn i2 i3 b1 ⊢
  rw [<- he 0 (by decide),<- he 1 (by decide),<- he 2 (by decide),<- he 3 (by decide),<- he 4 (by decide),<- he 5 (by decide),<- he 6 (by decide),<- he 7 (by decide),<- he 8 (by decide),<- he 9 (by decide)]
  clear he a6 a7 v6 v7 b0 hkk
  intro a12 _
  have b12:=c_ge a12
  refine ⟨fun hs=>?_,fun hs=>?_⟩
  ·have c5:0<=e' 13:=b_yes b12 hs
   obtain ⟨n,hi⟩:=Int.eq_ofNat_of_zero_le c5
   rw [hi,show ((n:Int)+1).toNat=n+1 by omega] at i3
   rw [hi] at i2
   obtain ⟨S,hS⟩:∃ S,S=tmJ R2 P 384 (e' 10/2^(n+1)).toNat:=⟨_,rfl⟩
   rw [<- hS] at i3
   refine ⟨e2_lt i3,fun a21 _ a22 _ a23 _ a24 _ a25 _ a26 _=>?_⟩
   have d1:[e' 21,e' 22,e' 23,e' 24,e' 25,e' 26]=(dblJ R2 (ofJ2 (e' 14) (e' 15) (e' 16) (e' 17) (e' 18) (e' 19))).e2:=by
    rw [show e' 21=_ from a21,show e' 22=_ from a22,show e' 23=_ from a23,show e' 24=_ from a24,show e' 25=_ from a25,show e' 26=_ from a26];rfl
   have d2:[e' 21,e' 22,e' 23,e' 24,e' 25,e' 26]=(J.md R2 (dblJ R2 S)).e2:=d1.trans ((JS_dbl (JS_of i3)).trans (JS_md _).symm).e2
   clear a21 a22 a23 a24 a25 a26 d1
   refine ⟨trivial,fun a16 _ a17 _=>?_⟩
   have hlen:blen (e' 10)<=384:=b1
   have h16:e' 27=e' 10/2^n%2:=by
    have h:e' 27=if 0<=e' 13/\e' 13<384 then e' 10/2^(e' 13).toNat%2 else 0:=a16
    rw [h,if_pos ⟨c5,by omega⟩,hi,Int.toNat_natCast]
   have hh:=halves (i:=n) hn.1
   obtain ⟨t1,t2⟩:=top_bit hn i2
   have hst:=tmJ_step (R:=R2) (P:=P) (n:=(e' 10/2^n).toNat) (by omega) t2
   rw [show (e' 10/2^n).toNat/2=(e' 10/2^(n+1)).toNat by omega,<- hS] at hst
   have b17:=c_eq a17
   refine ⟨fun hs2=>?_,fun hs2=>?_⟩
   ·have c17:e' 27=1:=b_yes b17 hs2
    refine ⟨⟨q0,e2_lt d2,uP⟩,fun a29 _ a30 _ a31 _ a32 _ a33 _ a34 _ a35 _=>?_⟩
    have g1:[e' 29,e' 30,e' 31,e' 32,e' 33,e' 34]=(sumJ R2 (ofJ2 (e' 21) (e' 22) (e' 23) (e' 24) (e' 25) (e' 26)) (ofJ2 (e' 4) (e' 5) (e' 6) (e' 7) (e' 8) (e' 9))).e2:=by
     rw [show e' 29=_ from a29,show e' 30=_ from a30,show e' 31=_ from a31,show e' 32=_ from a32,show e' 33=_ from a33,show e' 34=_ from a34];rfl
    rw [<- hP] at g1
    have g2:=g1.trans ((JS_sum (JS_of d2) (JS.refl P)).trans (JS_md _).symm).e2
    have h21:e' 35=n-1:=by
     have:e' 35=binE .sub .i64 (e' 13) 1:=a35
     rw [this,hi];simp only [binE,wr];omega
    show TimesE2 P (e' 10) [e' 35,e' 29,e' 30,e' 31,e' 32,e' 33,e' 34]/\(e' 35+1).toNat<(e' 13+1).toNat
    rw [h21,hi]
    refine ⟨⟨by omega,by omega,?_⟩,by omega⟩
    rw [show ((n:Int)-1+1).toNat=n by omega,hst,if_pos (by omega)]
    exact g2
   ·have c17:¬ e' 27=1:=b_no b17 hs2
    intro a18 _
    have h18:e' 29=n-1:=by
     have:e' 29=binE .sub .i64 (e' 13) 1:=a18
     rw [this,hi];simp only [binE,wr];omega
    show TimesE2 P (e' 10) [e' 29,e' 21,e' 22,e' 23,e' 24,e' 25,e' 26]/\(e' 29+1).toNat<(e' 13+1).toNat
    rw [h18,hi]
    refine ⟨⟨by omega,by omega,?_⟩,by omega⟩
    rw [show ((n:Int)-1+1).toNat=n by omega,hst,if_neg (by omega)]
    exact d2
  ·have c5:e' 13=-1:=by have:¬ e' 13≥0:=b_no b12 hs;omega
   rw [c5] at i3
   show [e' 14,e' 15,e' 16,e' 17,e' 18,e' 19]=(tmJ R2 (ofJ2 (e' 4) (e' 5) (e' 6) (e' 7) (e' 8) (e' 9)) 384 (e' 10).toNat).e2
   rw [i3,<- hP]
   show (tmJ R2 P 384 (e' 10/1).toNat).e2=_
   rw [Int.ediv_one]
def kE2One (f:FuncId):K:={fn:=f,ext:=false,ins:=[],outs:=[oE2],pre:=fun _=>True,sem:=fun _=>[toE 1,0] }
def kE2To (f:FuncId):K:={fn:=f,ext:=false,ins:=[iE2],outs:=[oE2],pre:=fun _=>True,sem:=fun | [a,b]=>[toE a,toE b] | _=>[] }
def kE2From (f:FuncId):K:={fn:=f,ext:=false,ins:=[iE2],outs:=[oE2],pre:=fun | [a,b]=>a<bP/\b<bP | _=>False,sem:=fun | [a,b]=>[ofE a,ofE b] | _=>[] }
def kSecond (o:Fo) (f:FuncId):K:={fn:=f,ext:=false,ins:=[],outs:=[.agg o.ls2],pre:=fun _=>True,sem:=fun _=>[toE 1,0,toE 4,toE 4] }
def tE2To:Tree:=(.req 0 [.var 0]
(.lett 98 .num (.app 0 0 [.var 0])
(.req 0 [.var 1]
(.lett 242 .num (.app 0 0 [.var 1])
(.ret [.var 98,.var 242])))))
theorem law_e2To (f1 f:FuncId) (e:Nat->Int):tE2To.says [kETo f1] ⟨fun ys=>ys=(kE2To f).sem [e 0,e 1],[]⟩ e:=by
 show tE2To.says _ ⟨fun ys=>ys=[toE (e 0),toE (e 1)],[]⟩ e
 refine ⟨trivial,?_⟩
 intro a98 k98
 have q98:=(show e 98=toE (e 0) from a98)
 clear a98 k98
 refine ⟨trivial,?_⟩
 intro a242 k242
 have q242:=(show e 242=toE (e 1) from a242)
 clear a242 k242
 show [e 98,e 242]=_
 rw [q98,q242]
 all_goals rfl
def tE2From:Tree:=(.req 0 [.var 0]
(.lett 98 .num (.app 0 0 [.var 0])
(.req 0 [.var 1]
(.lett 242 .num (.app 0 0 [.var 1])
(.ret [.var 98,.var 242])))))
theorem law_e2From (f1 f:FuncId) (e:Nat->Int) (hp:(kE2From f).pre [e 0,e 1]):tE2From.says [kEFrom f1] ⟨fun ys=>ys=(kE2From f).sem [e 0,e 1],[]⟩ e:=by
 obtain ⟨u0,u1⟩:e 0<bP/\e 1<bP:=hp
 have q0:=u0
 have q1:=u1
 show tE2From.says _ ⟨fun ys=>ys=[ofE (e 0),ofE (e 1)],[]⟩ e
 refine ⟨q0,?_⟩
 intro a98 k98
 have q98:=(show e 98=ofE (e 0) from a98)
 clear a98 k98
 refine ⟨q1,?_⟩
 intro a242 k242
 have q242:=(show e 242=ofE (e 1) from a242)
 clear a242 k242
 show [e 98,e 242]=_
 rw [q98,q242]
 all_goals rfl
def tSecond:Tree:=(.req 2 [.lit 4]
(.lett 0 .num (.app 2 0 [.lit 4])
(.req 0 [.var 0]
(.lett 1 .num (.app 0 0 [.var 0])
(.req 1 []
(.lett 2 .num (.app 1 0 [])
(.lett 3 .num (.app 1 1 [])
(.ret [.var 2,.var 3,.var 1,.var 1]))))))))
theorem law_second (o:Fo) (f1 f2 f3 f:FuncId) (e:Nat->Int):tSecond.says [kETo f1,kE2One f2,kOf f3] ⟨fun ys=>ys=(kSecond o f).sem [],[]⟩ e:=by
 refine ⟨trivial,fun a0 _=>⟨trivial,fun a1 _=>⟨trivial,fun a2 _ a3 _=>?_⟩⟩⟩
 show [e 2,e 3,e 1,e 1]=[toE 1,0,toE 4,toE 4]
 rw [show e 2=toE 1 from a2,show e 3=0 from a3,show e 1=toE (e 0) from a1,show e 0=4 from a0]
abbrev lsP2:List L:=[.num,.num,.num,.num,.bool]
def side2 (X:E2):E2:=R2.add (R2.mul (R2.mul X X) X) (4,4)
def onV2 (a b c d z:Int):Prop:=((a<bP/\b<bP)/\(c<bP/\d<bP))/\if z=0 then R2.md (R2.mul (c,d) (c,d))=R2.md (side2 (a,b)) else (a=0/\b=0)/\(c=0/\d=0)
theorem onV2_0 {a b c d z:Int} (h:z=0):onV2 a b c d z↔((a<bP/\b<bP)/\(c<bP/\d<bP))/\R2.md (R2.mul (c,d) (c,d))=R2.md (side2 (a,b)):=by unfold onV2;rw [if_pos h]
theorem onV2_1 {a b c d z:Int} (h:¬ z=0):onV2 a b c d z↔((a<bP/\b<bP)/\(c<bP/\d<bP))/\((a=0/\b=0)/\(c=0/\d=0)):=by unfold onV2;rw [if_neg h]
noncomputable def kCheck2 (f:FuncId):K:={fn:=f,ext:=false,ins:=[.agg lsP2],outs:=[oB],pre:=fun _=>True,sem:=fun | [a,b,c,d,z]=>[bj (onV2 a b c d z)] | _=>[] }
theorem c_num2 {e:Nat->Int} {v:Int} {i j i' j':Nat} (h:v=(D.eqs [(.limb i 0,.limb j 0),(.limb i 1,.limb j 1),(.limb i 2,.limb j 2),(.limb i 3,.limb j 3),(.limb i 4,.limb j 4),(.limb i 5,.limb j 5),(.limb i' 0,.limb j' 0),(.limb i' 1,.limb j' 1),(.limb i' 2,.limb j' 2),(.limb i' 3,.limb j' 3),(.limb i' 4,.limb j' 4),(.limb i' 5,.limb j' 5)]).ev [] e) (hi:0<=e i/\e i<N384) (hj:0<=e j/\e j<N384) (hi':0<=e i'/\e i'<N384) (hj':0<=e j'/\e j'<N384):(v=1/\(e i=e j/\e i'=e j'))∨(v=0/\¬ (e i=e j/\e i'=e j')):=by
 simp only [D.ev,List.all_cons,List.all_nil,ev_limb,Bool.and_true,b2i_bi,Bool.and_eq_true,beq_iff_eq] at h
 by_cases hc:e i=e j/\e i'=e j'
 ·left;rw [hc.1,hc.2] at h;simp at h;exact ⟨h,hc⟩
 ·right
  rw [if_neg (fun hh=>hc ⟨lim_inj hi hj ⟨hh.1,hh.2.1,hh.2.2.1,hh.2.2.2.1,hh.2.2.2.2.1,hh.2.2.2.2.2.1⟩,lim_inj hi' hj' ⟨hh.2.2.2.2.2.2.1,hh.2.2.2.2.2.2.2.1,hh.2.2.2.2.2.2.2.2.1,hh.2.2.2.2.2.2.2.2.2.1,hh.2.2.2.2.2.2.2.2.2.2.1,hh.2.2.2.2.2.2.2.2.2.2.2⟩⟩)] at h
  exact ⟨h,hc⟩
def onE2 (a b c d z:Int):Prop:=if z=0 then R2.md (R2.mul (ofE c,ofE d) (ofE c,ofE d))=R2.md (side2 (ofE a,ofE b)) else (a=0/\b=0)/\(c=0/\d=0)
theorem onE2_0 {a b c d z:Int} (h:z=0):onE2 a b c d z↔R2.md (R2.mul (ofE c,ofE d) (ofE c,ofE d))=R2.md (side2 (ofE a,ofE b)):=by unfold onE2;rw [if_pos h]
theorem onE2_1 {a b c d z:Int} (h:¬ z=0):onE2 a b c d z↔((a=0/\b=0)/\(c=0/\d=0)):=by unfold onE2;rw [if_neg h]
noncomputable def kOn2 (o:Fo) (f:FuncId):K:={fn:=f,ext:=false,ins:=[.agg o.ls2,.agg lsQ2],outs:=[oB],pre:=fun | [_,_,s,t,a,b,c,d,_]=>(s=toE 4/\t=toE 4)/\(a<bP/\b<bP)/\(c<bP/\d<bP) | _=>False,sem:=fun | [_,_,_,_,a,b,c,d,z]=>[bj (onE2 a b c d z)] | _=>[] }
theorem law_e2One (f1 f:FuncId) (e:Nat->Int):(Tree.req 0 [] (.lett 0 .num (.app 0 0 []) (.ret [.var 0,.lit 0]))).says [kEOne f1] ⟨fun ys=>ys=(kE2One f).sem [],[]⟩ e:=by
 refine ⟨trivial,fun a0 _=>?_⟩
 show [e 0,0]=[toE 1,0]
 rw [show e 0=toE 1 from a0]
def t2On:Tree:=(.split 8
(.lett 9 .bit (.eqs [((.limb 4 0),(.lit 0)),((.limb 4 1),(.lit 0)),((.limb 4 2),(.lit 0)),((.limb 4 3),(.lit 0)),((.limb 4 4),(.lit 0)),((.limb 4 5),(.lit 0)),((.limb 5 0),(.lit 0)),((.limb 5 1),(.lit 0)),((.limb 5 2),(.lit 0)),((.limb 5 3),(.lit 0)),((.limb 5 4),(.lit 0)),((.limb 5 5),(.lit 0))])
(.split 9
 (.lett 10 .bit (.eqs [((.limb 6 0),(.lit 0)),((.limb 6 1),(.lit 0)),((.limb 6 2),(.lit 0)),((.limb 6 3),(.lit 0)),((.limb 6 4),(.lit 0)),((.limb 6 5),(.lit 0)),((.limb 7 0),(.lit 0)),((.limb 7 1),(.lit 0)),((.limb 7 2),(.lit 0)),((.limb 7 3),(.lit 0)),((.limb 7 4),(.lit 0)),((.limb 7 5),(.lit 0))])
 (.ret [.var 10]))
 (.ret [.lit 0])))
(.req 1 [.var 6,.var 7,.var 6,.var 7]
(.lett 297 .num (.app 1 0 [.var 6,.var 7,.var 6,.var 7])
(.lett 298 .num (.app 1 1 [.var 6,.var 7,.var 6,.var 7])
(.req 1 [.var 4,.var 5,.var 4,.var 5]
(.lett 825 .num (.app 1 0 [.var 4,.var 5,.var 4,.var 5])
(.lett 826 .num (.app 1 1 [.var 4,.var 5,.var 4,.var 5])
(.req 1 [.var 825,.var 826,.var 4,.var 5]
(.lett 969 .num (.app 1 0 [.var 825,.var 826,.var 4,.var 5])
(.lett 970 .num (.app 1 1 [.var 825,.var 826,.var 4,.var 5])
(.req 0 [.var 969,.var 970,.var 2,.var 3]
(.lett 1113 .num (.app 0 0 [.var 969,.var 970,.var 2,.var 3])
(.lett 1114 .num (.app 0 1 [.var 969,.var 970,.var 2,.var 3])
(.lett 1161 .bit (.eqs [((.limb 297 0),(.limb 1113 0)),((.limb 297 1),(.limb 1113 1)),((.limb 297 2),(.limb 1113 2)),((.limb 297 3),(.limb 1113 3)),((.limb 297 4),(.limb 1113 4)),((.limb 297 5),(.limb 1113 5)),((.limb 298 0),(.limb 1114 0)),((.limb 298 1),(.limb 1114 1)),((.limb 298 2),(.limb 1114 2)),((.limb 298 3),(.limb 1114 3)),((.limb 298 4),(.limb 1114 4)),((.limb 298 5),(.limb 1114 5))])
(.ret [.var 1161])))))))))))))))
theorem law_on2 (o:Fo) (f1 f2 f:FuncId) (e:Nat->Int) (hk:kkHas [.num,.num,.num,.num,.num,.num,.num,.num,.bit] [e 0,e 1,e 2,e 3,e 4,e 5,e 6,e 7,e 8]) (hp:(kOn2 o f).pre [e 0,e 1,e 2,e 3,e 4,e 5,e 6,e 7,e 8]):t2On.says [kE2Add f1,kE2Mul f2] ⟨fun ys=>ys=(kOn2 o f).sem [e 0,e 1,e 2,e 3,e 4,e 5,e 6,e 7,e 8],[]⟩ e:=by
 obtain ⟨⟨s0,s1⟩,⟨u4,u5⟩,u6,u7⟩:(e 2=toE 4/\e 3=toE 4)/\(e 4<bP/\e 5<bP)/\(e 6<bP/\e 7<bP):=hp
 obtain ⟨_,_,_,_,h4,h5,h6,h7,_⟩:=hk
 have k4:=h4
 have k5:=h5
 have k6:=h6
 have k7:=h7
 have q3:EQ (e 2) (e 3) (4,4):=⟨s0,s1⟩
 have q5:=EQ_self h4.1 u4 h5.1 u5
 have q7:=EQ_self h6.1 u6 h7.1 u7
 clear u4 u5 u6 u7 h4 h5 h6 h7 s0 s1
 show t2On.says _ ⟨fun ys=>ys=[bj (onE2 (e 4) (e 5) (e 6) (e 7) (e 8))],[]⟩ e
 refine ⟨fun h=>?_,fun h=>?_⟩
 ·have c8:=h
  intro a9 k9
  have b9:=c_num00 a9 k4 k5
  clear a9 k9
  refine ⟨fun h=>?_,fun h=>?_⟩
  ·have c9:=h
   have z1:e 4=0/\e 5=0:=b_yes b9 c9
   intro a10 k10
   have b10:=c_num00 a10 k6 k7
   clear a10 k10
   show [e 10]=_
   refine congrArg (fun x=>[x]) ((bj_of b10).trans (bj_iff ((onE2_1 c8).trans ?_).symm))
   exact ⟨fun h=>h.2,fun h=>⟨z1,h⟩⟩
  ·have c9:=h
   have z1:¬ (e 4=0/\e 5=0):=b_no b9 c9
   show [(0:Int)]=_
   rw [bj_f (fun h=>z1 ((onE2_1 c8).1 h).1)]
 ·have c8:=h
  refine ⟨⟨EQ.l1 q7,EQ.l2 q7,EQ.l1 q7,EQ.l2 q7⟩,?_⟩
  intro a297 k297
  have q297:=(show e 297=toE (ofE (e 6)*ofE (e 6)-ofE (e 7)*ofE (e 7)) from a297)
  clear a297
  intro a298 k298
  have q298:=EQ_mul q297 (show e 298=toE (ofE (e 6)*ofE (e 7)+ofE (e 7)*ofE (e 6)) from a298) q7 q7
  clear a298
  refine ⟨⟨EQ.l1 q5,EQ.l2 q5,EQ.l1 q5,EQ.l2 q5⟩,?_⟩
  intro a825 k825
  have q825:=(show e 825=toE (ofE (e 4)*ofE (e 4)-ofE (e 5)*ofE (e 5)) from a825)
  clear a825 k825
  intro a826 k826
  have q826:=EQ_mul q825 (show e 826=toE (ofE (e 4)*ofE (e 5)+ofE (e 5)*ofE (e 4)) from a826) q5 q5
  clear a826 k826
  refine ⟨⟨EQ.l1 q826,EQ.l2 q826,EQ.l1 q5,EQ.l2 q5⟩,?_⟩
  intro a969 k969
  have q969:=(show e 969=toE (ofE (e 825)*ofE (e 4)-ofE (e 826)*ofE (e 5)) from a969)
  clear a969 k969
  intro a970 k970
  have q970:=EQ_mul q969 (show e 970=toE (ofE (e 825)*ofE (e 5)+ofE (e 826)*ofE (e 4)) from a970) q826 q5
  clear a970 k970
  refine ⟨⟨EQ.l1 q970,EQ.l2 q970,EQ.l1 q3,EQ.l2 q3⟩,?_⟩
  intro a1113 k1113
  have q1113:=(show e 1113=toE (ofE (e 969)+ofE (e 2)) from a1113)
  clear a1113
  intro a1114 k1114
  have q1114:=EQ_add q1113 (show e 1114=toE (ofE (e 970)+ofE (e 3)) from a1114) q970 q3
  clear a1114
  intro a1161 k1161
  clear k1161
  have b1161:=c_num2 a1161 k297 k1113 k298 k1114
  clear a1161
  show [e 1161]=_
  refine congrArg (fun x=>[x]) ((bj_of b1161).trans (bj_iff ((onE2_0 c8).trans ?_).symm))
  rw [q298.1,q298.2,q1114.1,q1114.2]
  exact ⟨fun h=>⟨toE_md (congrArg Prod.fst h),toE_md (congrArg Prod.snd h)⟩,fun h=>Prod.ext (toE_inj h.1) (toE_inj h.2)⟩
def rsV2 (a b c d z:Int):J E2:=if z=0 then ⟨(a,b),(c,d),(1,0)⟩ else oJ R2
def inG2 (a b c d z:Int):Prop:=onV2 a b c d z/\R2.isz (tmJ R2 (rsV2 a b c d z) 384 rGreat.toNat).z=true
noncomputable def kInG2 (f:FuncId):K:={fn:=f,ext:=false,ins:=[.agg lsP2],outs:=[oB],pre:=fun _=>True,sem:=fun | [a,b,c,d,z]=>[bj (inG2 a b c d z)] | _=>[] }
theorem JS_mdmd {P Q:J E2} (h:JS P Q):JS (J.md R2 P) (J.md R2 Q):=(JS_md P).trans (h.trans (JS_md Q).symm)
theorem JS_tm {P Q:J E2} (h:JS P Q):∀ k n,JS (tmJ R2 P k n) (tmJ R2 Q k n)
 | 0,n=>JS.refl _
 | k+1,n=>by
  have ih:=JS_tm h k (n/2)
  have e1:∀ W:J E2,tmJ R2 W (k+1) n=if n=0 then oJ R2 else (if n%2=1 then J.md R2 (sumJ R2 (J.md R2 (dblJ R2 (tmJ R2 W k (n/2)))) W) else J.md R2 (dblJ R2 (tmJ R2 W k (n/2)))):=fun _=>rfl
  have d:=JS_mdmd (JS_dbl ih)
  rw [e1,e1]
  by_cases h0:n=0
  ·rw [if_pos h0,if_pos h0];exact JS.refl _
  ·rw [if_neg h0,if_neg h0]
   by_cases h1:n%2=1
   ·rw [if_pos h1,if_pos h1];exact JS_mdmd (JS_sum d h)
   ·rw [if_neg h1,if_neg h1];exact d
def rsE2 (a b c d z:Int):J E2:=if z=0 then ⟨(ofE a,ofE b),(ofE c,ofE d),(1,0)⟩ else oJ R2
theorem raise_e2 {a b c d z:Int} (ha:(0<=a/\a<bP)/\(0<=b/\b<bP)) (hc:(0<=c/\c<bP)/\(0<=d/\d<bP)):(if z=0 then [a,b,c,d,toE 1,0] else [toE 1,0,toE 1,0,0,0])=(rsE2 a b c d z).e2:=by
 unfold rsE2
 by_cases h:z=0
 ·rw [if_pos h,if_pos h]
  show _=[toE (ofE a),toE (ofE b),toE (ofE c),toE (ofE d),toE 1,toE 0]
  rw [toE_ofE ha.1.1 ha.1.2,toE_ofE ha.2.1 ha.2.2,toE_ofE hc.1.1 hc.1.2,toE_ofE hc.2.1 hc.2.2,toE_0]
 ·rw [if_neg h,if_neg h];exact oJ_e2.symm
noncomputable def kPIn2 (o:Fo) (f:FuncId):K:={fn:=f,ext:=false,ins:=[.agg o.ls2,.agg lsQ2],outs:=[oB],pre:=fun | [u,v,s,t,a,b,c,d,_]=>(u=toE 1/\v=0)/\(s=toE 4/\t=toE 4)/\(a<bP/\b<bP)/\(c<bP/\d<bP) | _=>False,sem:=fun | [_,_,_,_,a,b,c,d,z]=>[bj (onE2 a b c d z/\R2.isz (tmJ R2 (rsE2 a b c d z) 384 rGreat.toNat).z=true)] | _=>[] }
theorem lowE2_4 (P:J E2):(lowE2 P).getD 4 0=if P.z.1%bP=0/\P.z.2%bP=0 then 1 else 0:=by
 unfold lowE2
 split <;> rfl
def t2PIn:Tree:=(.req 0 [.var 0,.var 1,.var 2,.var 3,.var 4,.var 5,.var 6,.var 7,.var 8]
(.lett 105 .bit (.app 0 0 [.var 0,.var 1,.var 2,.var 3,.var 4,.var 5,.var 6,.var 7,.var 8])
(.split 105
(.req 1 [.var 0,.var 1,.var 2,.var 3,.var 4,.var 5,.var 6,.var 7,.var 8]
(.lett 393 .num (.app 1 0 [.var 0,.var 1,.var 2,.var 3,.var 4,.var 5,.var 6,.var 7,.var 8])
(.lett 394 .num (.app 1 1 [.var 0,.var 1,.var 2,.var 3,.var 4,.var 5,.var 6,.var 7,.var 8])
(.lett 395 .num (.app 1 2 [.var 0,.var 1,.var 2,.var 3,.var 4,.var 5,.var 6,.var 7,.var 8])
(.lett 396 .num (.app 1 3 [.var 0,.var 1,.var 2,.var 3,.var 4,.var 5,.var 6,.var 7,.var 8])
(.lett 397 .num (.app 1 4 [.var 0,.var 1,.var 2,.var 3,.var 4,.var 5,.var 6,.var 7,.var 8])
(.lett 398 .num (.app 1 5 [.var 0,.var 1,.var 2,.var 3,.var 4,.var 5,.var 6,.var 7,.var 8])
(.req 2 []
(.lett 441 .num (.app 2 0 [])
(.req 3 [.var 0,.var 1,.var 2,.var 3,.var 393,.var 394,.var 395,.var 396,.var 397,.var 398,.var 441]
(.lett 489 .num (.app 3 0 [.var 0,.var 1,.var 2,.var 3,.var 393,.var 394,.var 395,.var 396,.var 397,.var 398,.var 441])
(.lett 490 .num (.app 3 1 [.var 0,.var 1,.var 2,.var 3,.var 393,.var 394,.var 395,.var 396,.var 397,.var 398,.var 441])
(.lett 491 .num (.app 3 2 [.var 0,.var 1,.var 2,.var 3,.var 393,.var 394,.var 395,.var 396,.var 397,.var 398,.var 441])
(.lett 492 .num (.app 3 3 [.var 0,.var 1,.var 2,.var 3,.var 393,.var 394,.var 395,.var 396,.var 397,.var 398,.var 441])
(.lett 493 .num (.app 3 4 [.var 0,.var 1,.var 2,.var 3,.var 393,.var 394,.var 395,.var 396,.var 397,.var 398,.var 441])
(.lett 494 .num (.app 3 5 [.var 0,.var 1,.var 2,.var 3,.var 393,.var 394,.var 395,.var 396,.var 397,.var 398,.var 441])
(.req 4 [.var 0,.var 1,.var 2,.var 3,.var 489,.var 490,.var 491,.var 492,.var 493,.var 494]
(.lett 537 .num (.app 4 0 [.var 0,.var 1,.var 2,.var 3,.var 489,.var 490,.var 491,.var 492,.var 493,.var 494])
(.lett 538 .num (.app 4 1 [.var 0,.var 1,.var 2,.var 3,.var 489,.var 490,.var 491,.var 492,.var 493,.var 494])
(.lett 539 .num (.app 4 2 [.var 0,.var 1,.var 2,.var 3,.var 489,.var 490,.var 491,.var 492,.var 493,.var 494])
(.lett 540 .num (.app 4 3 [.var 0,.var 1,.var 2,.var 3,.var 489,.var 490,.var 491,.var 492,.var 493,.var 494])
(.lett 541 .bit (.app 4 4 [.var 0,.var 1,.var 2,.var 3,.var 489,.var 490,.var 491,.var 492,.var 493,.var 494])
(.ret [.var 541])))))))))))))))))))))))
(.ret [.lit 0]))))
theorem law_pIn2 (o:Fo) (f1 f2 f3 f4 f5 f:FuncId) (e:Nat->Int) (hk:kkHas [.num,.num,.num,.num,.num,.num,.num,.num,.bit] [e 0,e 1,e 2,e 3,e 4,e 5,e 6,e 7,e 8]) (hp:(kPIn2 o f).pre [e 0,e 1,e 2,e 3,e 4,e 5,e 6,e 7,e 8]):t2PIn.says [kOn2 o f1,kRaise2 o f2,kMOrder f3,kTimes2 o f4,kLower2 o f5] ⟨fun ys=>ys=(kPIn2 o f).sem [e 0,e 1,e 2,e 3,e 4,e 5,e 6,e 7,e 8],[]⟩ e:=by
 obtain ⟨⟨w0,w1⟩,s,u4,u6⟩:(e 0=toE 1/\e 1=0)/\(e 2=toE 4/\e 3=toE 4)/\(e 4<bP/\e 5<bP)/\(e 6<bP/\e 7<bP):=hp
 obtain ⟨_,_,_,_,h4,h5,h6,h7,_⟩:=hk
 have hra:=raise_e2 (z:=e 8) ⟨⟨h4.1,u4.1⟩,⟨h5.1,u4.2⟩⟩ ⟨⟨h6.1,u6.1⟩,⟨h7.1,u6.2⟩⟩
 show t2PIn.says _ ⟨fun ys=>ys=[bj (onE2 (e 4) (e 5) (e 6) (e 7) (e 8)/\R2.isz (tmJ R2 (rsE2 (e 4) (e 5) (e 6) (e 7) (e 8)) 384 rGreat.toNat).z=true)],[]⟩ e
 refine ⟨⟨s,u4,u6⟩,?_⟩
 intro a105 k105
 have q105:=(show e 105=bj (onE2 (e 4) (e 5) (e 6) (e 7) (e 8)) from a105)
 clear a105 k105
 refine ⟨fun h=>?_,fun h=>?_⟩
 ·have c105:=h
  have z1:onE2 (e 4) (e 5) (e 6) (e 7) (e 8):=bj_nz q105 c105
  refine ⟨trivial,?_⟩
  intro a393 k393
  have q393:=(show e 393=(if (e 8)=0 then [(e 4),(e 5),(e 6),(e 7),(e 0),(e 1)] else [(e 0),(e 1),(e 0),(e 1),0,0]).getD 0 0 from a393)
  clear a393 k393
  intro a394 k394
  have q394:=(show e 394=(if (e 8)=0 then [(e 4),(e 5),(e 6),(e 7),(e 0),(e 1)] else [(e 0),(e 1),(e 0),(e 1),0,0]).getD 1 0 from a394)
  clear a394 k394
  intro a395 k395
  have q395:=(show e 395=(if (e 8)=0 then [(e 4),(e 5),(e 6),(e 7),(e 0),(e 1)] else [(e 0),(e 1),(e 0),(e 1),0,0]).getD 2 0 from a395)
  clear a395 k395
  intro a396 k396
  have q396:=(show e 396=(if (e 8)=0 then [(e 4),(e 5),(e 6),(e 7),(e 0),(e 1)] else [(e 0),(e 1),(e 0),(e 1),0,0]).getD 3 0 from a396)
  clear a396 k396
  intro a397 k397
  have q397:=(show e 397=(if (e 8)=0 then [(e 4),(e 5),(e 6),(e 7),(e 0),(e 1)] else [(e 0),(e 1),(e 0),(e 1),0,0]).getD 4 0 from a397)
  clear a397 k397
  intro a398 k398
  have q398:=(show e 398=(if (e 8)=0 then [(e 4),(e 5),(e 6),(e 7),(e 0),(e 1)] else [(e 0),(e 1),(e 0),(e 1),0,0]).getD 5 0 from a398)
  clear a398 k398
  have hR:[e 393,e 394,e 395,e 396,e 397,e 398]=(rsE2 (e 4) (e 5) (e 6) (e 7) (e 8)).e2:=by
   rw [<- hra,q393,q394,q395,q396,q397,q398,w0,w1]
   by_cases hz:e 8=0
   ·simp only [if_pos hz];rfl
   ·simp only [if_neg hz];rfl
  clear q393 q394 q395 q396 q397 q398
  refine ⟨trivial,?_⟩
  intro a441 k441
  have q441:=(show e 441=rGreat from a441)
  clear a441 k441
  refine ⟨⟨⟨w0,w1⟩,e2_lt hR⟩,?_⟩
  intro a489 k489
  have q489:=(show e 489=((tmJ R2 (ofJ2 (e 393) (e 394) (e 395) (e 396) (e 397) (e 398)) 384 (e 441).toNat).e2).getD 0 0 from a489)
  clear a489 k489
  intro a490 k490
  have q490:=(show e 490=((tmJ R2 (ofJ2 (e 393) (e 394) (e 395) (e 396) (e 397) (e 398)) 384 (e 441).toNat).e2).getD 1 0 from a490)
  clear a490 k490
  intro a491 k491
  have q491:=(show e 491=((tmJ R2 (ofJ2 (e 393) (e 394) (e 395) (e 396) (e 397) (e 398)) 384 (e 441).toNat).e2).getD 2 0 from a491)
  clear a491 k491
  intro a492 k492
  have q492:=(show e 492=((tmJ R2 (ofJ2 (e 393) (e 394) (e 395) (e 396) (e 397) (e 398)) 384 (e 441).toNat).e2).getD 3 0 from a492)
  clear a492 k492
  intro a493 k493
  have q493:=(show e 493=((tmJ R2 (ofJ2 (e 393) (e 394) (e 395) (e 396) (e 397) (e 398)) 384 (e 441).toNat).e2).getD 4 0 from a493)
  clear a493 k493
  intro a494 k494
  have q494:=(show e 494=((tmJ R2 (ofJ2 (e 393) (e 394) (e 395) (e 396) (e 397) (e 398)) 384 (e 441).toNat).e2).getD 5 0 from a494)
  clear a494 k494
  have hT:[e 489,e 490,e 491,e 492,e 493,e 494]=(tmJ R2 (rsE2 (e 4) (e 5) (e 6) (e 7) (e 8)) 384 rGreat.toNat).e2:=by
   rw [q489,q490,q491,q492,q493,q494,q441]
   exact (show _=(tmJ R2 (ofJ2 (e 393) (e 394) (e 395) (e 396) (e 397) (e 398)) 384 rGreat.toNat).e2 from rfl).trans (JS_tm (JS_of hR) _ _).e2
  generalize hW:tmJ R2 (rsE2 (e 4) (e 5) (e 6) (e 7) (e 8)) 384 rGreat.toNat=W at hT
  clear q489 q490 q491 q492 q493 q494
  refine ⟨e2_lt hT,?_⟩
  intro a537 k537
  have q537:=(show e 537=(lowE2 (ofJ2 (e 489) (e 490) (e 491) (e 492) (e 493) (e 494))).getD 0 0 from a537)
  clear a537 k537
  intro a538 k538
  have q538:=(show e 538=(lowE2 (ofJ2 (e 489) (e 490) (e 491) (e 492) (e 493) (e 494))).getD 1 0 from a538)
  clear a538 k538
  intro a539 k539
  have q539:=(show e 539=(lowE2 (ofJ2 (e 489) (e 490) (e 491) (e 492) (e 493) (e 494))).getD 2 0 from a539)
  clear a539 k539
  intro a540 k540
  have q540:=(show e 540=(lowE2 (ofJ2 (e 489) (e 490) (e 491) (e 492) (e 493) (e 494))).getD 3 0 from a540)
  clear a540 k540
  intro a541 k541
  have q541:=(show e 541=(lowE2 (ofJ2 (e 489) (e 490) (e 491) (e 492) (e 493) (e 494))).getD 4 0 from a541)
  clear a541 k541
  show [e 541]=_
  rw [lowE2_4] at q541
  have hj:=S2_isz (JS_of hT).2.2
  refine congrArg (fun x=>[x]) (bj_of ?_)
  by_cases ht:R2.isz W.z=true
  ·exact Or.inl ⟨q541.trans (if_pos (isz3.1 (hj.trans ht))),z1,ht⟩
  ·exact Or.inr ⟨q541.trans (if_neg (fun h=>ht (hj.symm.trans (isz3.2 h)))),fun h=>ht h.2⟩
 ·have c105:=h
  have z1:¬ onE2 (e 4) (e 5) (e 6) (e 7) (e 8):=bj_z q105 c105
  show [(0:Int)]=_
  rw [bj_f (fun h=>z1 h.1)]
noncomputable def kBelow2 (f:FuncId):K:={fn:=f,ext:=false,ins:=[.agg lsQ2],outs:=[oB],pre:=fun _=>True,sem:=fun | [a,b,c,d,_]=>[bj ((a<bP/\b<bP)/\(c<bP/\d<bP))] | _=>[] }
def kIn2 (f:FuncId):K:={fn:=f,ext:=false,ins:=[.agg lsQ2],outs:=[.agg lsQ2],pre:=fun _=>True,sem:=fun | [a,b,c,d,z]=>[toE a,toE b,toE c,toE d,z] | _=>[] }
def tBelowN:Tree:=(.req 1 []
(.lett 49 .num (.app 1 0 [])
(.req 0 [.var 0,.var 49]
(.lett 97 (.int .i64) (.app 0 0 [.var 0,.var 49])
(.lett 145 .bit (.cmp .lss (.var 97) (.lit 0))
(.ret [.var 145]))))))
theorem law_belowN (f1 f2 f:FuncId) (e:Nat->Int) (hk:kkHas [.num] [e 0]):tBelowN.says [kWCmp f1,kMBase f2] ⟨fun ys=>ys=(kRBelow f).sem [e 0],[]⟩ e:=by
 clear hk
 show tBelowN.says _ ⟨fun ys=>ys=[bj (e 0<bP)],[]⟩ e
 refine ⟨trivial,?_⟩
 intro a49 k49
 have q49:=(show e 49=bP from a49)
 clear a49 k49
 refine ⟨trivial,?_⟩
 intro a97 k97
 have q97:=(show e 97=if (e 0)<(e 49) then -1 else if (e 0)=(e 49) then 0 else 1 from a97)
 clear a97 k97
 intro a145 k145
 have b145:=c_lt a145
 simp only [ev_var,ev_lit,ev_limb] at b145
 clear a145 k145
 show [e 145]=_
 rw [q49] at q97
 exact congrArg (fun x=>[x]) (bj_of (p:=e 0<bP) (by
  rcases b145 with ⟨h1,h2⟩ | ⟨h1,h2⟩
  ·left;refine ⟨h1,?_⟩;rw [q97] at h2;split at h2
   ·assumption
   ·split at h2 <;> exact absurd h2 (by decide)
  ·right;refine ⟨h1,fun hc=>h2 ?_⟩;rw [q97,if_pos hc];decide))
def t2Below:Tree:=(.req 0 [.var 0]
(.lett 5 .bit (.app 0 0 [.var 0])
(.split 5
(.req 0 [.var 1]
(.lett 6 .bit (.app 0 0 [.var 1])
(.split 6
 (.req 0 [.var 2]
 (.lett 7 .bit (.app 0 0 [.var 2])
 (.split 7
 (.req 0 [.var 3]
 (.lett 8 .bit (.app 0 0 [.var 3])
 (.ret [.var 8])))
 (.ret [.lit 0]))))
 (.ret [.lit 0]))))
(.ret [.lit 0]))))
theorem law_below2 (f1 f:FuncId) (e:Nat->Int):t2Below.says [kRBelow f1] ⟨fun ys=>ys=(kBelow2 f).sem [e 0,e 1,e 2,e 3,e 4],[]⟩ e:=by
 show t2Below.says _ ⟨fun ys=>ys=[bj ((e 0<bP/\e 1<bP)/\(e 2<bP/\e 3<bP))],[]⟩ e
 refine ⟨trivial,?_⟩
 intro a5 k5
 have q5:=(show e 5=bj ((e 0)<bP) from a5)
 clear a5 k5
 refine ⟨fun h=>?_,fun h=>?_⟩
 ·have c5:=h
  have u0:e 0<bP:=bj_nz q5 c5
  refine ⟨trivial,?_⟩
  intro a6 k6
  have q6:=(show e 6=bj ((e 1)<bP) from a6)
  clear a6 k6
  refine ⟨fun h=>?_,fun h=>?_⟩
  ·have c6:=h
   have u1:e 1<bP:=bj_nz q6 c6
   refine ⟨trivial,?_⟩
   intro a7 k7
   have q7:=(show e 7=bj ((e 2)<bP) from a7)
   clear a7 k7
   refine ⟨fun h=>?_,fun h=>?_⟩
   ·have c7:=h
    have u2:e 2<bP:=bj_nz q7 c7
    refine ⟨trivial,?_⟩
    intro a8 k8
    have q8:=(show e 8=bj ((e 3)<bP) from a8)
    clear a8 k8
    show [e 8]=_
    rw [q8];exact congrArg (fun x=>[x]) (bj_iff ⟨fun h=>⟨⟨u0,u1⟩,u2,h⟩,fun h=>h.2.2⟩)
   ·have c7:=h
    have u2:¬ e 2<bP:=bj_z q7 c7
    show [(0:Int)]=_
    rw [bj_f (fun h=>u2 h.2.1)]
  ·have c6:=h
   have u1:¬ e 1<bP:=bj_z q6 c6
   show [(0:Int)]=_
   rw [bj_f (fun h=>u1 h.1.2)]
 ·have c5:=h
  have u0:¬ e 0<bP:=bj_z q5 c5
  show [(0:Int)]=_
  rw [bj_f (fun h=>u0 h.1.1)]
def t2In:Tree:=(.req 0 [.var 0,.var 1]
(.lett 101 .num (.app 0 0 [.var 0,.var 1])
(.lett 102 .num (.app 0 1 [.var 0,.var 1])
(.req 0 [.var 2,.var 3]
(.lett 245 .num (.app 0 0 [.var 2,.var 3])
(.lett 246 .num (.app 0 1 [.var 2,.var 3])
(.ret [.var 101,.var 102,.var 245,.var 246,.var 4])))))))
theorem law_in2 (f1 f:FuncId) (e:Nat->Int):t2In.says [kE2To f1] ⟨fun ys=>ys=(kIn2 f).sem [e 0,e 1,e 2,e 3,e 4],[]⟩ e:=by
 show t2In.says _ ⟨fun ys=>ys=[toE (e 0),toE (e 1),toE (e 2),toE (e 3),e 4],[]⟩ e
 refine ⟨trivial,?_⟩
 intro a101 k101
 have q101:=(show e 101=toE (e 0) from a101)
 clear a101 k101
 intro a102 k102
 have q102:=(show e 102=toE (e 1) from a102)
 clear a102 k102
 refine ⟨trivial,?_⟩
 intro a245 k245
 have q245:=(show e 245=toE (e 2) from a245)
 clear a245 k245
 intro a246 k246
 have q246:=(show e 246=toE (e 3) from a246)
 clear a246 k246
 show [e 101,e 102,e 245,e 246,e 4]=_
 rw [q101,q102,q245,q246]
theorem toE_z0 {a:Int} (h0:0<=a) (h1:a<bP):toE a=0↔a=0:=toE_zero.trans (by rw [Int.emod_eq_of_lt h0 h1])
theorem ofto {a:Int} (h0:0<=a) (h1:a<bP):ofE (toE a)=a:=by rw [ofE_toE];exact Int.emod_eq_of_lt h0 h1
theorem onE2_to {a b c d z:Int} (ha:0<=a) (hb:0<=b) (hc:0<=c) (hd:0<=d) (h:(a<bP/\b<bP)/\(c<bP/\d<bP)):onE2 (toE a) (toE b) (toE c) (toE d) z↔onV2 a b c d z:=by
 by_cases hz:z=0
 ·rw [onE2_0 hz,onV2_0 hz,ofto ha h.1.1,ofto hb h.1.2,ofto hc h.2.1,ofto hd h.2.2]
  exact ⟨fun x=>⟨h,x⟩,fun x=>x.2⟩
 ·rw [onE2_1 hz,onV2_1 hz,toE_z0 ha h.1.1,toE_z0 hb h.1.2,toE_z0 hc h.2.1,toE_z0 hd h.2.2]
  exact ⟨fun x=>⟨h,x⟩,fun x=>x.2⟩
theorem rsE2_to {a b c d z:Int} (ha:0<=a) (hb:0<=b) (hc:0<=c) (hd:0<=d) (h:(a<bP/\b<bP)/\(c<bP/\d<bP)):rsE2 (toE a) (toE b) (toE c) (toE d) z=rsV2 a b c d z:=by
 unfold rsE2 rsV2
 rw [ofto ha h.1.1,ofto hb h.1.2,ofto hc h.2.1,ofto hd h.2.2]
def t2Check:Tree:=(.req 0 [.var 0,.var 1,.var 2,.var 3,.var 4]
(.lett 53 .bit (.app 0 0 [.var 0,.var 1,.var 2,.var 3,.var 4])
(.split 53
(.req 1 []
(.lett 149 .num (.app 1 0 [])
(.lett 150 .num (.app 1 1 [])
(.lett 151 .num (.app 1 2 [])
(.lett 152 .num (.app 1 3 [])
(.req 2 [.var 0,.var 1,.var 2,.var 3,.var 4]
(.lett 245 .num (.app 2 0 [.var 0,.var 1,.var 2,.var 3,.var 4])
(.lett 246 .num (.app 2 1 [.var 0,.var 1,.var 2,.var 3,.var 4])
(.lett 247 .num (.app 2 2 [.var 0,.var 1,.var 2,.var 3,.var 4])
(.lett 248 .num (.app 2 3 [.var 0,.var 1,.var 2,.var 3,.var 4])
(.lett 249 .bit (.app 2 4 [.var 0,.var 1,.var 2,.var 3,.var 4])
(.req 3 [.var 149,.var 150,.var 151,.var 152,.var 245,.var 246,.var 247,.var 248,.var 249]
(.lett 293 .bit (.app 3 0 [.var 149,.var 150,.var 151,.var 152,.var 245,.var 246,.var 247,.var 248,.var 249])
(.ret [.var 293]))))))))))))))
(.ret [.lit 0]))))
theorem law_check2 (o:Fo) (f1 f2 f3 f4 f:FuncId) (e:Nat->Int) (hk:kkHas [.num,.num,.num,.num,.bit] [e 0,e 1,e 2,e 3,e 4]):t2Check.says [kBelow2 f1,kSecond o f2,kIn2 f3,kOn2 o f4] ⟨fun ys=>ys=(kCheck2 f).sem [e 0,e 1,e 2,e 3,e 4],[]⟩ e:=by
 obtain ⟨h0,h1,h2,h3,_⟩:=hk
 show t2Check.says _ ⟨fun ys=>ys=[bj (onV2 (e 0) (e 1) (e 2) (e 3) (e 4))],[]⟩ e
 refine ⟨trivial,?_⟩
 intro a53 k53
 have q53:=(show e 53=bj (((e 0)<bP/\(e 1)<bP)/\((e 2)<bP/\(e 3)<bP)) from a53)
 clear a53 k53
 refine ⟨fun h=>?_,fun h=>?_⟩
 ·have c53:=h
  have u:(e 0<bP/\e 1<bP)/\(e 2<bP/\e 3<bP):=bj_nz q53 c53
  refine ⟨trivial,?_⟩
  intro a149 k149
  have q149:=(show e 149=toE 1 from a149)
  clear a149 k149
  intro a150 k150
  have q150:=(show e 150=(0:Int) from a150)
  clear a150 k150
  intro a151 k151
  have q151:=(show e 151=toE 4 from a151)
  clear a151 k151
  intro a152 k152
  have q152:=(show e 152=toE 4 from a152)
  clear a152 k152
  refine ⟨trivial,?_⟩
  intro a245 k245
  have q245:=(show e 245=toE (e 0) from a245)
  clear a245 k245
  intro a246 k246
  have q246:=(show e 246=toE (e 1) from a246)
  clear a246 k246
  intro a247 k247
  have q247:=(show e 247=toE (e 2) from a247)
  clear a247 k247
  intro a248 k248
  have q248:=(show e 248=toE (e 3) from a248)
  clear a248 k248
  intro a249 k249
  have q249:=(show e 249=(e 4) from a249)
  clear a249 k249
  refine ⟨⟨⟨q151,q152⟩,⟨E_lt q245,E_lt q246⟩,E_lt q247,E_lt q248⟩,?_⟩
  intro a293 k293
  have q293:=(show e 293=bj (onE2 (e 245) (e 246) (e 247) (e 248) (e 249)) from a293)
  clear a293 k293
  show [e 293]=_
  rw [q245,q246,q247,q248,q249] at q293
  rw [q293];exact congrArg (fun x=>[x]) (bj_iff (onE2_to h0.1 h1.1 h2.1 h3.1 u))
 ·have c53:=h
  have u:¬ ((e 0<bP/\e 1<bP)/\(e 2<bP/\e 3<bP)):=bj_z q53 c53
  show [(0:Int)]=_
  rw [bj_f (fun h=>u h.1)]
end Go.Sx
