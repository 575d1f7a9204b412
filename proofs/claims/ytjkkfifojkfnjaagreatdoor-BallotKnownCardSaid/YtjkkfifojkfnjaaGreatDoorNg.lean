/- Part Ng of the proof. -/
import Derived.Test.YtjkkfifojkfnjaaGreatDoorNf
import Derived.Laws.OwnMore
set_option linter.unusedVariables false
set_option linter.unusedSimpArgs false
namespace Go.Sx
open Go Go.RowKit
section
variable {P:Program} {T:List K} {ops:Array Oper} {nv0 len0:Nat} {E:Nat->Int} {w0:World}
theorem step_exec (hT:∀ (g:Nat) X,T[g]?=some X->X.okAt P w0) {m:M} {Y Y':St} {a:Act} {w:World} {i:Nat} {o:Oper} (hi:ops[i]?=some o) (h:Rep w0 m Y a w) (hE:m.env=E) (hnv:nv0+ops.size*stride<=Y.nv)
  (hs:AStep P T ops nv0 len0 E i Y Y') {K:Act->World->Prop} {Q:Exit->Act->World->Prop}
  (hK:∀ m' a' w',m'.env=E->MExt m Y.nv Y.al m' Y'.nv Y'.al->Rep w0 m' Y' a' w'->Y'.nv=Y.nv->K a' w'):if Region.wanted o (yielded ops a.tmps) then o.wp P a w K Q else K (a.put o.dst undef) w:=by
 have hlt:=(Array.getElem?_eq_some_iff.1 hi).1
 have hmul:i*stride+stride<=ops.size*stride:=by
  have:=Nat.mul_le_mul_right stride (show i+1<=ops.size from hlt)
  rwa [Nat.add_mul,Nat.one_mul] at this
 obtain ⟨g1,g2⟩:=guard_ok h (all:=ops) (o:=o)
 unfold AStep at hs
 rw [hi] at hs
 rcases hs with ⟨k1,rfl⟩ | ⟨k1,p,k2,k3,k4,k5,rfl⟩
 ·rw [if_neg (by rw [g2 k1];simp)]
  have hp:=h.put (s:=undefS) (v:=undef) ⟨[],rfl,trivial⟩ o.dst
  have hal:(Y.put o.dst undefS).al=Y.al:=by funext id;unfold St.al;rw [(put_same _ _ _).2.1]
  have hn:(Y.put o.dst undefS).nv=Y.nv:=(put_same _ _ _).1
  exact hK m _ _ hE (by rw [hal,hn];exact MExt.refl ..) hp hn
 ·rw [if_pos (g1 k1)]
  refine (op_exec hT h k2 k5 (by rw [hE];exact k4.defs) (by rw [hE];exact k4.post) (by omega) (by rw [hE];exact k4.nz) (by rw [hE];exact k4.req) fun m' a' w' e1 e2 e3=>?_)
  have hn:(applyP Y p (len0+i) o.dst).nv=Y.nv:=(applyP_len _ _ _ _).2.1
  exact hK m' a' w' (e1.trans hE) (by rw [hn];exact e2) e3 hn
def Has (w0:World) (nv1:Nat) (E:Nat->Int) (Y:St):Prop:=∃ (m:M) (a:Act) (w:World),m.env=E/\Rep w0 m Y a w/\Y.nv=nv1
theorem has_step (hT:∀ (g:Nat) X,T[g]?=some X->X.okAt P w0) {i:Nat} {nv1:Nat} (hnv:nv0+ops.size*stride<=nv1) {o:Oper} (hi:ops[i]?=some o) {Y Y':St} (h:Has w0 nv1 E Y) (hs:AStep P T ops nv0 len0 E i Y Y'):Has w0 nv1 E Y':=by
 obtain ⟨m,a,w,e1,e2,e3⟩:=h
 have:=step_exec hT hi e2 e1 (by omega) hs (K:=fun _ _=>Has w0 nv1 E Y') (Q:=fun _ _ _=>False) fun m' a' w' h1 _ h3 h4=>⟨m',a',w',h1,h3,h4.trans e3⟩
 split at this
 ·obtain ⟨_,_,h⟩:=wp_exists this;exact h
 ·exact this
def anyS (P:Program) (T:List K) (ops:Array Oper) (nv0 len0:Nat) (E:Nat->Int) (Q:St->Prop):Nat->Array Bool->St->Prop
 | 0,listed,Y=>Region.ready .any ops listed=[]/\Q Y
 | fuel+1,listed,Y =>
  (Region.ready .any ops listed=[]->Q Y) /\
  ∀ i∈Region.ready .any ops listed,∃ Y',AStep P T ops nv0 len0 E i Y Y'/\anyS P T ops nv0 len0 E Q fuel (listed.setIfInBounds i true) Y'
theorem ready_some {md:Region.Mode} {i:Nat} {listed:Array Bool} (h:i∈Region.ready md ops listed):∃ o,ops[i]?=some o:=by
 obtain ⟨_,o,ho,_⟩:=mem_ready.1 h;exact ⟨o,ho⟩
theorem calmAll_spec {i j:Nat} {oi oj:Oper} (h:calmAll ops.toList=true) (hij:j≠i) (hi:ops[i]?=some oi) (hj:ops[j]?=some oj)
  (h1:∀ e∈oj.after,Region.binds .any e=true->e.on≠i) (h2:∀ e∈oi.after,Region.binds .any e=true->e.on≠j):calm oi oj=true:=by
 unfold calmAll at h
 simp only [List.all_eq_true] at h
 have hm:∀ {k:Nat} {o:Oper},ops[k]?=some o->(o,k)∈ops.toList.zipIdx:=fun {k o} hk=>by
  rw [List.mem_zipIdx_iff_getElem?];simpa using hk
 have:=h _ (hm hi) _ (hm hj)
 have no:∀ {x:Nat} {y:Oper},(∀ e∈y.after,Region.binds .any e=true->e.on≠x)->ordered x y=false:=fun {x y} hh=>by
  unfold ordered
  rw [Bool.eq_false_iff]
  intro hany
  obtain ⟨e,he,hb⟩:=Array.any_eq_true'.1 hany
  simp only [Bool.and_eq_true,beq_iff_eq] at hb
  exact hh e he hb.1 hb.2
 rw [no h1,no h2] at this
 simp only [Bool.or_false,Bool.or_eq_true,beq_iff_eq] at this
 rcases this with this | this
 ·exact absurd this.symm hij
 ·exact this
theorem act1_tmps {Y:St} {q:Option Plan} {nid:Nat} {d:Option Nat} {t:Nat} (h:d≠some t):(act1 Y q nid d).tmps[t]?=Y.tmps[t]?:=by rw [act1_eq,put_get h]
theorem act1_gl (Y:St) (q:Option Plan) (nid:Nat) (d:Option Nat):(act1 Y q nid d).gl=Y.gl:=by rw [act1_eq];exact (put_same _ _ _).2.2.2.1
theorem step_tmps {i:Nat} {o:Oper} (hi:ops[i]?=some o) {Y Y':St} (h:AStep P T ops nv0 len0 E i Y Y') {t:Nat} (ht:o.dst≠some t):Y'.tmps[t]?=Y.tmps[t]?/\Y'.gl=Y.gl:=by
 obtain ⟨q,rfl,_⟩:=astep_cases hi h
 exact ⟨act1_tmps ht,act1_gl ..⟩
theorem slots {Y':St} {t:Nat}:∀ (fuel:Nat) (listed:Array Bool) (Y:St),anyS P T ops nv0 len0 E (fun s=>s=Y') fuel listed Y->(∀ (k:Nat) o,ops[k]?=some o->listed.getD k true=false->o.dst≠some t)->Y.tmps[t]?=Y'.tmps[t]?
 | 0,_,Y,h,_=>by rw [h.2]
 | fuel+1,listed,Y,h,ht=>by
  cases hr:Region.ready .any ops listed with
  | nil=>rw [h.1 hr]
  | cons i r =>
   have hi:i∈Region.ready .any ops listed:=by rw [hr];exact List.mem_cons_self ..
   obtain ⟨σ2,k1,k2⟩:=h.2 i hi
   obtain ⟨hun,o,ho,_⟩:=mem_ready.1 hi
   have h1:=(step_tmps ho k1 (ht i o ho hun)).1
   rw [<- h1]
   refine slots fuel _ σ2 k2 fun k ok hk hku=>ht k ok hk ?_
   by_cases hik:i=k
   ·subst hik;exact hun
   ·rw [getD_set_ne true hik] at hku;exact hku
theorem gl_same {Y':St}:∀ (fuel:Nat) (listed:Array Bool) (Y:St),anyS P T ops nv0 len0 E (fun s=>s=Y') fuel listed Y->Y.gl=Y'.gl
 | 0,_,Y,h=>by rw [h.2]
 | fuel+1,listed,Y,h=>by
  cases hr:Region.ready .any ops listed with
  | nil=>rw [h.1 hr]
  | cons i r =>
   have hi:i∈Region.ready .any ops listed:=by rw [hr];exact List.mem_cons_self ..
   obtain ⟨σ2,k1,k2⟩:=h.2 i hi
   obtain ⟨_,o,ho,_⟩:=mem_ready.1 hi
   obtain ⟨q,rfl,_⟩:=astep_cases ho k1
   have:=gl_same fuel _ _ k2
   rw [act1_gl] at this
   exact this
theorem val_same {Y Y':St} (hg:Y.gl=Y'.gl) {z:Operand} (hz:∀ t,z=.tmp t->Y.tmps[t]?=Y'.tmps[t]?):Y.val z=Y'.val z:=by
 cases z with
 | tmp t=>simp only [St.val,St.get_def,List.getD_eq_getElem?_getD,hz t rfl]
 | global g=>simp only [St.val,hg]
 | _=>rfl
theorem tidy_spec (h:tidy ops.toList=true) {k j t:Nat} {ok oj:Oper} (hk:ops[k]?=some ok) (hj:ops[j]?=some oj) (hd:ok.dst=some t) (hz:.tmp t∈oj.op.operands):ordered k oj=true:=by
 unfold tidy at h
 simp only [List.all_eq_true] at h
 have hm:∀ {k:Nat} {o:Oper},ops[k]?=some o->(o,k)∈ops.toList.zipIdx:=fun {k o} hk=>by
  rw [List.mem_zipIdx_iff_getElem?];simpa using hk
 have h1:=h _ (hm hk)
 simp only [hd,List.all_eq_true] at h1
 have h2:=h1 _ (hm hj)
 have h3:oj.op.operands.any (isTmp t)=true:=Array.any_eq_true'.2 ⟨_,hz,by simp [isTmp]⟩
 simp only [h3,Bool.not_true,Bool.false_or] at h2
 exact h2
def Closed (ops:Array Oper) (listed:Array Bool):Prop:=∀ (i:Nat) oi,listed.getD i false=true->ops[i]?=some oi->∀ e∈oi.after,Region.binds .any e=true->listed.getD e.on false=true
theorem getD_set_true {listed:Array Bool} {i j:Nat} (h:listed.getD j false=true):(listed.setIfInBounds i true).getD j false=true:=by
 by_cases hij:i=j
 ·subst hij
  have hlt:i<listed.size:=by
   by_cases hc:i<listed.size
   ·exact hc
   ·rw [Array.getD_eq_getD_getElem?,Array.getElem?_eq_none (by omega)] at h;cases h
  simp [Array.getD_eq_getD_getElem?,hlt]
 ·simp only [Array.getD_eq_getD_getElem?,Array.getElem?_setIfInBounds] at h ⊢
  rw [if_neg hij];exact h
theorem Closed.set {listed:Array Bool} (h:Closed ops listed) {i:Nat} (hi:i∈Region.ready .any ops listed):Closed ops (listed.setIfInBounds i true):=by
 intro j oj hj hoj e he hb
 by_cases hij:j=i
 ·subst hij
  obtain ⟨_,o',ho',hall⟩:=mem_ready.1 hi
  rw [hoj] at ho';cases ho'
  exact getD_set_true (hall e he hb)
 ·refine getD_set_true (h j oj ?_ hoj e he hb)
  simp only [Array.getD_eq_getD_getElem?,Array.getElem?_setIfInBounds] at hj ⊢
  rw [if_neg (by omega)] at hj;exact hj
theorem before_listed {listed:Array Bool} (hc:Closed ops listed) {x:Nat}:∀ (n:Nat) (y:Oper),(∀ e∈y.after,Region.binds .any e=true->listed.getD e.on false=true)->before ops.toList n x y=true->listed.getD x false=true
 | 0,y,h,hb=>by
  unfold before ordered at hb
  obtain ⟨e,he,hbe⟩:=Array.any_eq_true'.1 hb
  simp only [Bool.and_eq_true,beq_iff_eq] at hbe
  rw [<- hbe.2];exact h e he hbe.1
 | n+1,y,h,hb=>by
  unfold before at hb
  rcases Bool.or_eq_true_iff.1 hb with hb | hb
  ·unfold ordered at hb
   obtain ⟨e,he,hbe⟩:=Array.any_eq_true'.1 hb
   simp only [Bool.and_eq_true,beq_iff_eq] at hbe
   rw [<- hbe.2];exact h e he hbe.1
  ·obtain ⟨e,he,hbe⟩:=Array.any_eq_true'.1 hb
   rw [Bool.and_eq_true] at hbe
   obtain ⟨h1,h2⟩:=hbe
   have hl:=h e he h1
   cases ho:ops.toList[e.on]? with
   | none=>rw [ho] at h2;cases h2
   | some o =>
    rw [ho] at h2
    exact before_listed hc n o (hc e.on o hl (by simpa using ho)) h2
theorem pairsOk_spec {Y':St} {i j:Nat} {oi oj:Oper} (h:pairsOk T Y' ops.toList=true) (hij:j≠i) (hi:ops[i]?=some oi) (hj:ops[j]?=some oj)
  (h1:∀ e∈oj.after,Region.binds .any e=true->e.on≠i) (h2:∀ e∈oi.after,Region.binds .any e=true->e.on≠j) (h3:before ops.toList 7 i oj=false) (h4:before ops.toList 7 j oi=false):calm oi oj=true∨(sepB Y' oi oj=true/\(llCall T oi.op || llCall T oj.op)=false):=by
 unfold pairsOk at h
 simp only [List.all_eq_true] at h
 have hm:∀ {k:Nat} {o:Oper},ops[k]?=some o->(o,k)∈ops.toList.zipIdx:=fun {k o} hk=>by
  rw [List.mem_zipIdx_iff_getElem?];simpa using hk
 have:=h _ (hm hi) _ (hm hj)
 have no:∀ {x:Nat} {y:Oper},(∀ e∈y.after,Region.binds .any e=true->e.on≠x)->ordered x y=false:=fun {x y} hh=>by
  unfold ordered
  rw [Bool.eq_false_iff]
  intro hany
  obtain ⟨e,he,hb⟩:=Array.any_eq_true'.1 hany
  simp only [Bool.and_eq_true,beq_iff_eq] at hb
  exact hh e he hb.1 hb.2
 rw [no h1,no h2] at this
 rw [h3,h4,Bool.or_false,Bool.or_false,Bool.or_false,Bool.or_false] at this
 rcases Bool.or_eq_true_iff.1 this with this | this
 ·rcases Bool.or_eq_true_iff.1 this with this | this
  ·exact absurd (beq_iff_eq.1 this).symm hij
  ·exact .inl this
 ·rw [Bool.and_eq_true,Bool.not_eq_true'] at this
  exact .inr this
theorem sepB_spec {Y Y':St} {x y:Oper} (h:sepB Y' x y=true) (hx:∀ z∈x.op.operands,Y.val z=Y'.val z) (hy:∀ z∈y.op.operands,Y.val z=Y'.val z):Sep Y x y:=by
 intro zx hzx s hs id hid zy hzy s' hs' hid'
 rw [hx zx hzx] at hs
 rw [hy zy hzy] at hs'
 unfold sepB at h
 have h1:=Array.all_eq_true'.1 h zx hzx
 simp only [List.all_eq_true,idsOf,hs] at h1
 have h2:=Array.all_eq_true'.1 (h1 id hid) zy hzy
 simp only [hs',Bool.not_eq_true',List.contains_eq_mem,decide_eq_false_iff_not] at h2
 exact h2 hid'
theorem anyS_first (hT:∀ (g:Nat) X,T[g]?=some X->X.okAt P w0) {nv1:Nat} (hnv:nv0+ops.size*stride<=nv1) {Y':St} (hcalm:allOk T Y' ops=true) {i:Nat} {oi:Oper} (hi:ops[i]?=some oi) :
  ∀ (fuel:Nat) (listed:Array Bool) (Y σi:St),
   (∀ j oj,ops[j]?=some oj->j≠i->listed.getD j true=false->(∀ e∈oj.after,Region.binds .any e=true->e.on≠i)->oi.apart ops oj=true) ->
   i∈Region.ready .any ops listed->Closed ops listed->Has w0 nv1 E Y->AStep P T ops nv0 len0 E i Y σi ->
   anyS P T ops nv0 len0 E (fun s=>s=Y') fuel (listed.setIfInBounds i true) σi->anyS P T ops nv0 len0 E (fun s=>s=Y') (fuel+1) listed Y:=by
 intro fuel
 induction fuel with
 | zero =>
  intro listed Y σi _ hr _ _ hy H
  refine ⟨fun h=>(by rw [h] at hr;cases hr),fun j hj=>?_⟩
  by_cases hji:j=i
  ·subst hji;exact ⟨_,hy,H⟩
  ·have:=ready_mono hj hji
   rw [H.1] at this
   cases this
 | succ fuel ih =>
  intro listed Y σi hfree hr hC hR hy H
  refine ⟨fun h=>(by rw [h] at hr;cases hr),fun j hj=>?_⟩
  by_cases hji:j=i
  ·subst hji;exact ⟨_,hy,H⟩
  ·obtain ⟨σij,h1,h2⟩:=H.2 j (ready_mono hj hji)
   obtain ⟨hjun,oj,hoj,hall⟩:=mem_ready.1 hj
   have hnot:∀ {x y:Nat} {oy:Oper},listed.getD x true=false->(∀ e∈oy.after,Region.binds .any e=true->listed.getD e.on false=true)->∀ e∈oy.after,Region.binds .any e=true->e.on≠x:=fun {x y oy} h0 hall e he hb heq=>by
    have h1:=hall e he hb
    rw [heq] at h1
    rcases Nat.lt_or_ge x listed.size with h' | h'
    ·simp [h'] at h0 h1;rw [h0] at h1;cases h1
    ·simp [Array.getElem?_eq_none h'] at h1
   have hnl:∀ {x:Nat},listed.getD x true=false->¬ listed.getD x false=true:=fun {x} h0 h1=>by
    rcases Nat.lt_or_ge x listed.size with h' | h'
    ·simp [h'] at h0 h1;rw [h0] at h1;cases h1
    ·simp [Array.getElem?_eq_none h'] at h1
   obtain ⟨hiun,oi',hoi',halli⟩:=mem_ready.1 hr
   rw [hi] at hoi';cases hoi'
   have same:∀ (y:Oper) (yi:Nat),ops[yi]?=some y->(∀ e∈y.after,Region.binds .any e=true->listed.getD e.on false=true)->(htidy:tidy ops.toList=true:=by assumption)->∀ z∈y.op.operands,Y.val z=Y'.val z:=by
    intro y yi hy' hally htidy z hz
    have hgl:Y.gl=Y'.gl:=by
     obtain ⟨q,hq,_⟩:=astep_cases hi hy
     have:=gl_same _ _ _ H
     rw [hq,act1_gl] at this
     exact this
    refine val_same hgl fun t ht=>?_
    subst ht
    have hno:∀ (k:Nat) o,ops[k]?=some o->listed.getD k true=false->o.dst≠some t:=fun k o hk hku hd=>by
     have:=tidy_spec htidy hk hy' hd hz
     unfold ordered at this
     obtain ⟨e,he,hbe⟩:=Array.any_eq_true'.1 this
     simp only [Bool.and_eq_true,beq_iff_eq] at hbe
     exact hnot (y:=yi) hku hally e he hbe.1 hbe.2
    rw [<- (step_tmps hi hy (hno i oi hi hiun)).1]
    refine slots _ _ _ H fun k o hk hku=>hno k o hk ?_
    by_cases hik:i=k
    ·subst hik;exact hiun
    ·rw [getD_set_ne true hik] at hku;exact hku
   have n1:=hnot (y:=j) hiun hall
   have n2:=hnot (y:=i) hjun halli
   have hap:=hfree j oj hoj hji hjun n1
   have hpair:calm oi oj=true∨Sep Y oi oj:=by
    unfold allOk at hcalm
    rw [Bool.or_eq_true,Bool.and_eq_true] at hcalm
    rcases hcalm with hcalm | ⟨htidy,hpairs⟩
    ·exact .inl (calmAll_spec hcalm hji hi hoj n1 n2)
    ·rcases pairsOk_spec hpairs hji hi hoj n1 n2 (Bool.eq_false_iff.2 fun h=>hnl hiun (before_listed hC 7 oj hall h)) (Bool.eq_false_iff.2 fun h=>hnl hjun (before_listed hC 7 oi halli h)) with h | h
     ·exact .inl h
     ·refine .inr (sepB_spec h.1 ?_ ?_)
      ·exact same oi i hi halli
      ·exact same oj j hoj hall
   have hll:(llCall T oi.op || llCall T oj.op)=true->calm oi oj=true:=fun hor=>by
    unfold allOk at hcalm
    rw [Bool.or_eq_true,Bool.and_eq_true] at hcalm
    rcases hcalm with hcalm | ⟨_,hpairs⟩
    ·exact calmAll_spec hcalm hji hi hoj n1 n2
    ·rcases pairsOk_spec hpairs hji hi hoj n1 n2 (Bool.eq_false_iff.2 fun h=>hnl hiun (before_listed hC 7 oj hall h)) (Bool.eq_false_iff.2 fun h=>hnl hjun (before_listed hC 7 oi halli h)) with h | h
     ·exact h
     ·rw [h.2] at hor;cases hor
   obtain ⟨σj,k1,k2⟩:=exchange (Ne.symm hji) hi hoj hap hpair hll (by obtain ⟨_,_,_,_,hr,_⟩:=hR;exact hr.live) hy h1
   have hfree':∀ k ok,ops[k]?=some ok->k≠i->(listed.setIfInBounds j true).getD k true=false ->
     (∀ e∈ok.after,Region.binds .any e=true->e.on≠i)->oi.apart ops ok=true:=fun k ok hk hki hun hno=>by
    refine hfree k ok hk hki ?_ hno
    by_cases hjk:j=k
    ·subst hjk;exact hjun
    ·rw [getD_set_ne true hjk] at hun;exact hun
   refine ⟨σj,k1,ih (listed.setIfInBounds j true) σj σij hfree' (ready_mono hr (Ne.symm hji)) (hC.set hj) (has_step hT hnv hoj hR k1) k2 ?_⟩
   rw [Array.setIfInBounds_comm _ _ hji]
   exact h2
theorem anyS_lex (hT:∀ (g:Nat) X,T[g]?=some X->X.okAt P w0) {nv1:Nat} (hnv:nv0+ops.size*stride<=nv1) {Y':St} (hcalm:allOk T Y' ops=true):∀ (l:List Oper) (k:Nat) (listed:Array Bool) (Y:St),(∀ j,l[j]?=ops[k+j]?) ->
  Region.lexFrom .any ops l.length k listed=true->Closed ops listed->Has w0 nv1 E Y->Lex P T ops nv0 len0 E l k Y Y'->anyS P T ops nv0 len0 E (fun s=>s=Y') l.length listed Y
 | [],_,_,_,_,hB,_,_,h=>by cases h;exact ⟨by simpa [Region.lexFrom] using hB,rfl⟩
 | o::l,k,listed,Y,hl,hB,hC,hR,h=>by
  have h0:ops[k]?=some o:=by simpa using (hl 0).symm
  simp only [List.length_cons,Region.lexFrom,Bool.and_eq_true] at hB
  obtain ⟨⟨hr,hf⟩,hB'⟩:=hB
  cases h with
  | cons hs ht =>
   exact anyS_first hT hnv hcalm h0 l.length listed Y _ (Region.free_spec h0 hf) (by simpa using hr) hC hR hs
    (anyS_lex hT hnv hcalm l (k+1) _ _ (fun j=>by have:=hl (j+1);simpa [Nat.add_assoc,Nat.add_comm 1 j] using this) hB' (hC.set (by simpa using hr)) (has_step hT hnv h0 hR hs) ht)
theorem closed_none (ops:Array Oper) (n:Nat):Closed ops (Array.replicate n false):=fun i oi hi=>by
 simp [Array.getD_eq_getD_getElem?,Array.getElem?_replicate] at hi
 split at hi <;> simp at hi
theorem any_of_anyS (hT:∀ (g:Nat) X,T[g]?=some X->X.okAt P w0) {nv1:Nat} (hnv:nv0+ops.size*stride<=nv1) {Q:St->Prop} {Q':Exit->Act->World->Prop} {m0:M} {nv:Nat} {al:Nat->Bool}
  (hQ:∀ Y' m' a' w',m'.env=E->MExt m0 nv al m' Y'.nv Y'.al->Rep w0 m' Y' a' w'->Q Y'->Q' .normal a' w'):∀ (fuel:Nat) (listed:Array Bool) (Y:St) (m:M) (a:Act) (w:World),m.env=E->MExt m0 nv al m Y.nv Y.al->Rep w0 m Y a w->Y.nv=nv1 ->
  anyS P T ops nv0 len0 E Q fuel listed Y->wpAny P .any ops Q' fuel listed a w
 | 0,_,Y,m,a,w,h1,h2,h3,_,h=>⟨h.1,hQ Y m a w h1 h2 h3 h.2⟩
 | fuel+1,listed,Y,m,a,w,h1,h2,h3,h4,h=>⟨fun h0=>hQ Y m a w h1 h2 h3 (h.1 h0),fun i hi=>by
   obtain ⟨o,ho⟩:=ready_some hi
   obtain ⟨Y',k1,k2⟩:=h.2 i hi
   have:=step_exec hT ho h3 h1 (by omega) k1 (K:=wpAny P .any ops Q' fuel (listed.setIfInBounds i true)) (Q:=Q') fun m' a' w' e1 e2 e3 e4 =>
    any_of_anyS hT hnv hQ fuel _ Y' m' a' w' e1 (h2.trans e2) e3 (e4.trans h4) k2
   unfold wpOp
   rw [ho]
   simp only
   split
   ·rename_i hw;rw [if_pos hw] at this;exact .inl this
   ·rename_i hw;rw [if_neg hw] at this;exact this⟩
theorem Rep.knows_ {w1:World} {m:M} {τ:St} {a:Act} {w:World} {kn':List (Nat×Bool)} (h:Rep w1 m τ a w) (hk:∀ p∈kn',p∈τ.kn∨(p.1<τ.nv/\decide (m.env p.1≠0)=p.2)):Rep w1 m {τ with kn:=kn' } a w :=
 ⟨h.defers,h.size,h.tmp,h.below,h.own,h.ro,h.inj,fun p hp=>(hk p hp).elim (fun hp=>h.kn p hp) id,h.gl,h.rows,h.rbox,h.rsep,h.base⟩
theorem draw_pre (hT:∀ (g:Nat) X,T[g]?=some X->X.okAt P w0) {m:M} {Y:St} {a:Act} {w:World} {fuel:Nat} {kk:St->Tree} {goal:Gl} (hR:Rep w0 m Y a w)
  (hh:(lexK P T ops Y.nv Y.boxes.length fuel ops.toList 0 {Y with nv:=Y.nv+ops.size*stride,boxes:=Y.boxes++List.replicate ops.size none } kk).holds T goal m.env) :
  ∃ E Y',(kk Y').holds T goal E/\Y'.lvl=Y.lvl/\Y'.nv=Y.nv+ops.size*stride /\
   Lex P T ops Y.nv Y.boxes.length E ops.toList 0 {Y with nv:=Y.nv+ops.size*stride,boxes:=Y.boxes++List.replicate ops.size none,kn:=Y'.kn } Y' /\
   Rep w0 {m with env:=E } {Y with nv:=Y.nv+ops.size*stride,boxes:=Y.boxes++List.replicate ops.size none,kn:=Y'.kn } a {w with drawn:=w.drawn+1 } /\
   MExt m Y.nv Y.al {m with env:=E } (Y.nv+ops.size*stride) ({Y with boxes:=Y.boxes++List.replicate ops.size none }:St).al:=by
 have hr1:=hR.room ops.size
 have hal:({Y with boxes:=Y.boxes++List.replicate ops.size none }:St).al=Y.al:=by
  funext id
  unfold St.al
  by_cases hl:id<Y.boxes.length
  ·simp [List.getElem?_append_left hl]
  ·rw [List.getElem?_append_right (by omega),List.getElem?_eq_none (show Y.boxes.length<=id by omega)]
   by_cases h2:id-Y.boxes.length<ops.size
   ·simp [h2]
   ·rw [List.getElem?_eq_none (by simp;omega)]
 obtain ⟨E,Y',e1,e2,e3,e4,e5,e6,e7⟩:=lex_ok (nv0:=Y.nv) (len0:=Y.boxes.length) hT (nv1:=Y.nv+ops.size*stride) (goal:=goal) fuel ops.toList 0 {Y with nv:=Y.nv+ops.size*stride,boxes:=Y.boxes++List.replicate ops.size none } (by simp) rfl (by simp)
  (fun k _ hk=>by
   simp only [Nat.zero_add,Array.length_toList] at hk
   show (Y.boxes++List.replicate ops.size none)[Y.boxes.length+k]?=_
   rw [List.getElem?_append_right (by omega)]
   simp [hk]) m a w (by simpa using hr1.nv_irrel (Y.nv+0*stride) (by show Y.nv<=_;omega)) hh
 have hr2:=(hr1.names E (fun j hj=>e1 j (by simp;exact hj)) (Y.nv+ops.size*stride) (by show Y.nv<=_;omega)).drew
 have hx:MExt m Y.nv Y.al {m with env:=E } (Y.nv+ops.size*stride) Y.al:=⟨fun j hj=>e1 j (by simpa using hj),fun _ _=>rfl,rfl,fun _ _=>rfl,by omega,fun _ h=>h⟩
 exact ⟨E,Y',e3,e5,e4,e2,hr2.knows_ e7,by rw [hal];exact hx⟩
theorem draw_ok (hm:P.follows .mixedOrders=true) (hT:∀ (g:Nat) X,T[g]?=some X->X.okAt P w0) {m:M} {Y:St} {a:Act} {w:World} {id fuel:Nat} {kk:St->Tree} {goal:Gl} {Q:Exit->Act->World->Prop}
  (hR:Rep w0 m Y a w) (hd:drawOk ops=true)
  (hh:(lexK P T ops Y.nv Y.boxes.length fuel ops.toList 0 {Y with nv:=Y.nv+ops.size*stride,boxes:=Y.boxes++List.replicate ops.size none } kk).holds T goal m.env)
  (hK:∀ m' a' w' Y',MExt m Y.nv Y.al m' Y'.nv Y'.al->Rep w0 m' Y' a' w'->Y'.lvl=Y.lvl->(kk Y').holds T goal m'.env->Q .normal a' w') (hall:∀ Y' E,(kk Y').holds T goal E->allOk T Y' ops=true):(Code.region id ops true).wp P Q a w:=by
 have hB:=hd
 unfold drawOk at hB
 simp only [Region.lexB,Bool.and_eq_true] at hB
 obtain ⟨E,Y',e3,e5,e4,e2,hr2,hx⟩:=draw_pre hT hR hh
 have hcalm:=hall Y' E e3
 refine wp_region_any hm (any_of_anyS (len0:=Y.boxes.length) hT (nv1:=Y.nv+ops.size*stride) (Nat.le_refl _) (Q:=fun s=>s=Y') (fun s m' a' w' h1 h2 h3 h4=>by
  subst h4;exact hK m' a' w' _ h2 h3 e5 (by rw [h1];exact e3)) _ _ _ _ _ _ rfl ?_ hr2 rfl ?_)
 ·exact hx
 ·have:=anyS_lex hT (nv1:=Y.nv+ops.size*stride) (Nat.le_refl _) hcalm ops.toList 0 (Array.replicate ops.size false) _ (by simp) (by simpa using hB.2) (closed_none _ _) ⟨_,_,_,rfl,hr2,rfl⟩ e2
  simpa using this
theorem ready_ne {k:Nat} (hk:ops.size=k+1) (hb:backOnly ops=true) {listed:Array Bool} (hs:listed.size=ops.size):∀ (N i:Nat),i<=N->i<=k->listed.getD i true=false->Region.ready .any ops listed≠[]:=by
 intro N
 induction N with
 | zero =>
  intro i hi hik hl hr
  have hio:∃ o,ops[i]?=some o:=⟨ops[i]'(by omega),Array.getElem?_eq_getElem _⟩
  obtain ⟨o,ho⟩:=hio
  have hm:i∈Region.ready .any ops listed:=mem_ready.2 ⟨hl,o,ho,fun e he hbe=>by
   unfold backOnly at hb
   simp only [List.all_eq_true] at hb
   have:=hb (o,i) (by rw [List.mem_zipIdx_iff_getElem?];simpa using ho)
   have:=Array.all_eq_true'.1 this e he
   simp only [hbe,Bool.not_true,Bool.false_or,decide_eq_true_eq] at this
   omega⟩
  rw [hr] at hm;cases hm
 | succ N ih =>
  intro i hi hik hl hr
  have hio:∃ o,ops[i]?=some o:=⟨ops[i]'(by omega),Array.getElem?_eq_getElem _⟩
  obtain ⟨o,ho⟩:=hio
  have hm:i∈Region.ready .any ops listed:=mem_ready.2 ⟨hl,o,ho,fun e he hbe=>by
   have hb':=hb
   unfold backOnly at hb'
   simp only [List.all_eq_true] at hb'
   have:=hb' (o,i) (by rw [List.mem_zipIdx_iff_getElem?];simpa using ho)
   have:=Array.all_eq_true'.1 this e he
   simp only [hbe,Bool.not_true,Bool.false_or,decide_eq_true_eq] at this
   cases hle:listed.getD e.on false with
   | true=>rfl
   | false =>
    exfalso
    have hlt:e.on<listed.size:=by omega
    have:listed.getD e.on true=false:=by
     simp only [Array.getD_eq_getD_getElem?,Array.getElem?_eq_getElem hlt,Option.getD_some] at hle ⊢
     exact hle
    exact ih e.on (by omega) (by omega) this hr⟩
  rw [hr] at hm;cases hm
theorem closed_all {k:Nat} {o:Oper} {listed:Array Bool} (ho:ops[k]?=some o) (hc:Closed ops listed) (hi:k∈Region.ready .any ops listed) (hord:∀ j,j<k->∃ i oi,j<i/\i<=k/\ops[i]?=some oi/\ordered j oi=true):∀ (N j:Nat),k<=j+N->j<k->listed.getD j false=true:=by
 intro N
 induction N with
 | zero=>intro j h1 h2;omega
 | succ N ih =>
  intro j h1 h2
  obtain ⟨i,oi,g1,g2,g3,g4⟩:=hord j h2
  unfold ordered at g4
  obtain ⟨e,he,hbe⟩:=Array.any_eq_true'.1 g4
  simp only [Bool.and_eq_true,beq_iff_eq] at hbe
  rw [<- hbe.2]
  by_cases hik:i=k
  ·subst hik
   obtain ⟨_,o',ho',hall⟩:=mem_ready.1 hi
   rw [g3] at ho';cases ho'
   exact hall e he hbe.1
  ·exact hc i oi (ih i (by omega) (by omega)) g3 e he hbe.1
theorem tailsL_get:∀ (l:List Oper) (s j:Nat),(tailsL l s)[j]?=if j<s then l[j]? else (l[j]?).map tailOp
 | [],s,j=>by simp [tailsL]
 | o::r,0,j=>by
  cases j with
  | zero=>simp [tailsL]
  | succ j =>
   have:=tailsL_get r 0 j
   simp only [Nat.not_lt_zero,if_false] at this ⊢
   simpa [tailsL] using this
 | o::r,s+1,j=>by
  cases j with
  | zero=>simp [tailsL]
  | succ j =>
   have:=tailsL_get r s j
   simp only [Nat.succ_lt_succ_iff]
   simpa [tailsL] using this
theorem tails_get (ops:Array Oper) (s j:Nat):(tails ops s)[j]?=if j<s then ops[j]? else (ops[j]?).map tailOp:=by
 unfold tails
 rw [List.getElem?_toArray,tailsL_get];simp
theorem tailsL_len:∀ (l:List Oper) (s:Nat),(tailsL l s).length=l.length
 | [],s=>by simp [tailsL]
 | o::r,0=>by simp [tailsL,tailsL_len r 0]
 | o::r,s+1=>by simp [tailsL,tailsL_len r s]
theorem tails_size (ops:Array Oper) (s:Nat):(tails ops s).size=ops.size:=by simp [tails,tailsL_len]
theorem tails_dst (s j:Nat):((tails ops s)[j]?).bind (·.dst)=(ops[j]?).bind (·.dst):=by
 rw [tails_get]
 split
 ·rfl
 ·cases ops[j]? <;> rfl
theorem tails_ready {s:Nat} {listed:Array Bool} {i:Nat}:i∈Region.ready .any (tails ops s) listed↔i∈Region.ready .any ops listed:=by
 rw [mem_ready,mem_ready,tails_get]
 split
 ·rfl
 ·cases ho:ops[i]? with
  | none=>simp
  | some o=>simp [tailOp]
theorem guardG_tails {s:Nat} (Y:St) (x:Oper):guardG (tails ops s) Y x=guardG ops Y x:=by
 rw [guardG_def,guardG_def]
 split
 ·rfl
 ·rw [tails_dst]
theorem firstBig_lt:∀ (l:List Oper) (i s:Nat),firstBig T l i=some s->s<i+l.length
 | [],i,s,h=>by cases h
 | o::r,i,s,h=>by
  simp only [firstBig] at h
  split at h
  ·cases h;simp
  ·have:=firstBig_lt r (i+1) s h
   simp only [List.length_cons];omega
structure TailOk (ops:Array Oper) (s:Nat):Prop where
 lt:s<ops.size
 guard:∀ i o,s<=i->ops[i]?=some o->o.guard=none
 ord:∀ i,s<=i->i<ops.size->∀ j,j<i->∃ x ox,j<x/\x<=i/\ops[x]?=some ox/\ordered j ox=true
 back:backOnly ops=true
theorem tailOk_spec {s:Nat} (hlt:s<ops.size) (hc:tailOk ops s=true):TailOk ops s:=by
 simp only [tailOk,Bool.and_eq_true,List.all_eq_true,List.mem_range,Bool.or_eq_true,decide_eq_true_eq] at hc
 refine ⟨hlt,fun i o hi ho=>?_,fun i hi hil j hj=>?_,hc.2⟩
 ·rcases hc.1 i (Array.getElem?_eq_some_iff.1 ho).1 with h | h
  ·omega
  ·have:=h.2;rw [ho] at this;simpa using this
 ·rcases hc.1 i hil with h | h
  ·omega
  ·have h1:=h.1
   simp only [behindAll,List.all_eq_true,List.mem_range] at h1
   obtain ⟨x,hx,hc2⟩:=List.any_eq_true.1 (h1 j hj)
   simp only [Bool.and_eq_true,decide_eq_true_eq] at hc2
   cases hox:ops[x]? with
   | none=>rw [hox] at hc2;simp at hc2
   | some ox=>rw [hox] at hc2;exact ⟨x,ox,hc2.1,by have:=List.mem_range.1 hx;omega,hox,by simpa using hc2.2⟩
theorem firstWalk_ok:∀ (l:List Oper) (i s:Nat),firstWalk T ops l i=some s->s<i+l.length/\tailOk ops s=true
 | [],i,s,h=>by cases h
 | o::r,i,s,h=>by
  simp only [firstWalk] at h
  split at h
  ·rename_i hc
   rw [Bool.and_eq_true] at hc
   cases h
   exact ⟨by simp,hc.2⟩
  ·have:=firstWalk_ok r (i+1) s h
   simp only [List.length_cons]
   exact ⟨by omega,this.2⟩
theorem tailOf_spec {q:List Oper×Array Oper} (h:tailOf T ops=some q):∃ s,q=(ops.toList.drop s,tails ops s)/\TailOk ops s:=by
 unfold tailOf at h
 split at h
 ·rename_i s hs
  split at h
  ·rename_i hc
   cases h
   have hlt:=firstBig_lt _ _ _ hs
   simp only [Nat.zero_add,Array.length_toList] at hlt
   exact ⟨s,rfl,tailOk_spec hlt hc⟩
  ·split at h
   ·rename_i s' hs'
    cases h
    have hw:=firstWalk_ok _ _ _ hs'
    simp only [Nat.zero_add,Array.length_toList] at hw
    exact ⟨s',rfl,tailOk_spec hw.1 hw.2⟩
   ·cases h
 ·cases h
noncomputable def puts (Y:St) (l:List Oper):St:=l.foldl (fun Y o=>Y.put o.dst (.vl (.one (.bool (.lit 0))))) Y
theorem ready_at {s i:Nat} (ht:TailOk ops s) {listed:Array Bool} (hi:s<=i) (hs:listed.size=ops.size) (h1:∀ j,j<i->listed.getD j false=true) (h2:∀ j,i<=j->j<ops.size->listed.getD j true=false) (hcl:Closed ops listed) (j:Nat) :
  j∈Region.ready .any ops listed↔(j=i/\i<ops.size):=by
 constructor
 ·intro hj
  obtain ⟨g1,oj,g2,g3⟩:=mem_ready.1 hj
  have hjs:=(Array.getElem?_eq_some_iff.1 g2).1
  have hij:i<=j:=by
   by_cases hc:j<i
   ·have:=h1 j hc
    have hjl:j<listed.size:=by omega
    simp only [Array.getD_eq_getD_getElem?,Array.getElem?_eq_getElem hjl,Option.getD_some] at g1 this
    rw [g1] at this;cases this
   ·omega
  by_cases hji:j=i
  ·exact ⟨hji,by omega⟩
  ·exfalso
   have hl:=closed_all g2 hcl hj (ht.ord j (by omega) hjs) j i (by omega) (by omega)
   have hl2:=h2 i (Nat.le_refl _) (by omega)
   have hil:i<listed.size:=by omega
   simp only [Array.getD_eq_getD_getElem?,Array.getElem?_eq_getElem hil,Option.getD_some] at hl hl2
   rw [hl2] at hl;cases hl
 ·rintro ⟨rfl,hlt⟩
  refine mem_ready.2 ⟨h2 j (Nat.le_refl _) hlt,ops[j],Array.getElem?_eq_getElem hlt,fun e he hbe=>h1 _ ?_⟩
  have hb:=ht.back
  unfold backOnly at hb
  simp only [List.all_eq_true] at hb
  have:=hb (ops[j],j) (by rw [List.mem_zipIdx_iff_getElem?];simp [hlt])
  have:=Array.all_eq_true'.1 this e he
  simpa only [hbe,Bool.not_true,Bool.false_or,decide_eq_true_eq] using this
theorem tails_rest {s:Nat} (ht:TailOk ops s) {Q:St->Prop} {Q':Exit->Act->World->Prop}:∀ (fuel i:Nat) (listed:Array Bool) (Y:St),s<=i->i<=ops.size->listed.size=ops.size->(∀ j,j<i->listed.getD j false=true)->(∀ j,i<=j->j<ops.size->listed.getD j true=false)->Closed ops listed ->
  anyS P T (tails ops s) nv0 len0 E Q fuel listed Y->Q (puts Y (ops.toList.drop i))/\∀ a w,wpList P ops Q' (ops.toList.drop i) a w->wpAny P .any ops Q' fuel listed a w:=by
 intro fuel
 induction fuel with
 | zero =>
  intro i listed Y hi his hs h1 h2 hcl h
  have hr:=ready_at ht hi hs h1 h2 hcl
  by_cases hlt:i<ops.size
  ·exfalso
   have:=tails_ready (s:=s).2 ((hr i).2 ⟨rfl,hlt⟩)
   rw [h.1] at this;cases this
  ·have hdrop:ops.toList.drop i=[]:=by rw [List.drop_eq_nil_iff];simp;omega
   rw [hdrop]
   refine ⟨h.2,fun a w hw=>⟨?_,hw⟩⟩
   apply List.eq_nil_iff_forall_not_mem.2
   intro j hj
   exact hlt ((hr j).1 hj).2
 | succ fuel ih =>
  intro i listed Y hi his hs h1 h2 hcl h
  have hr:=ready_at ht hi hs h1 h2 hcl
  by_cases hlt:i<ops.size
  ·have hmem:=(hr i).2 ⟨rfl,hlt⟩
   obtain ⟨Y',k1,k2⟩:=h.2 i (tails_ready.2 hmem)
   have ho:ops[i]?=some ops[i]:=Array.getElem?_eq_getElem hlt
   have hg:=ht.guard i _ hi ho
   have hdrop:ops.toList.drop i=ops[i]::ops.toList.drop (i+1):=by
    rw [List.drop_eq_getElem_cons (by simpa using hlt)];rfl
   have hσ':Y'=Y.put ops[i].dst (.vl (.one (.bool (.lit 0)))):=by
    unfold AStep at k1
    rw [tails_get,if_neg (by omega),ho] at k1
    simp only [Option.map_some] at k1
    have hgy:guardG (tails ops s) Y (tailOp ops[i])=.yes:=by rw [guardG_def];simp only [tailOp,hg]
    rcases k1 with ⟨k1,_⟩ | ⟨_,p,kp,_,_,_,hs'⟩
    ·rw [hgy] at k1;cases k1
    ·have:p={val:=.vl (.one (.bool (.lit 0))) }:=by
      simp only [tailOp,plan,St.val,vOf,cOf,Option.map_some] at kp
      cases kp;rfl
     rw [hs',this];rfl
   have hset:∀ j,(listed.setIfInBounds i true).getD j false=true↔(j=i∨listed.getD j false=true):=fun j=>by
    by_cases hij:i=j
    ·subst hij;simp [Array.getD_eq_getD_getElem?,hs,hlt]
    ·simp only [Array.getD_eq_getD_getElem?,Array.getElem?_setIfInBounds]
     rw [if_neg hij]
     exact ⟨.inr,fun h=>h.resolve_left (fun e=>hij e.symm)⟩
   obtain ⟨q1,q2⟩:=ih (i+1) _ Y' (by omega) (by omega) (by simpa using hs) (fun j hj=>(hset j).2 (by
    by_cases hji:j=i
    ·exact .inl hji
    ·exact .inr (h1 j (by omega)))) (fun j hj hjs=>by
    have:=h2 j (by omega) hjs
    simp only [Array.getD_eq_getD_getElem?,Array.getElem?_setIfInBounds] at this ⊢
    rw [if_neg (by omega)];exact this) (hcl.set hmem) k2
   rw [hdrop]
   refine ⟨?_,fun a w hw=>⟨fun h0=>?_,fun j hj=>?_⟩⟩
   ·show Q (puts (Y.put ops[i].dst _) (ops.toList.drop (i+1)))
    rw [hσ'] at q1
    exact q1
   ·rw [h0] at hmem;cases hmem
   ·obtain ⟨rfl,_⟩:=(hr j).1 hj
    unfold wpOp
    rw [ho]
    simp only
    have hw':(if Region.wanted ops[j] (yielded ops a.tmps) then ops[j].wp P a w (wpList P ops Q' (ops.toList.drop (j+1))) Q'∨(ops[j].asks P a w/\LetsOut Q') else wpList P ops Q' (ops.toList.drop (j+1)) (a.put ops[j].dst undef) w):=hw
    split
    ·rename_i hwa
     rw [if_pos hwa] at hw'
     rcases hw' with hw' | hw'
     ·exact .inl (Oper.wp_mono (fun a w=>q2 a w) hw')
     ·exact .inr hw'
    ·rename_i hwa
     rw [if_neg hwa] at hw'
     exact q2 _ _ hw'
  ·have hdrop:ops.toList.drop i=[]:=by rw [List.drop_eq_nil_iff];simp;omega
   have hempty:Region.ready .any ops listed=[]:=by
    apply List.eq_nil_iff_forall_not_mem.2
    intro j hj
    exact hlt ((hr j).1 hj).2
   rw [hdrop]
   refine ⟨h.1 ?_,fun a w hw=>⟨fun _=>hw,fun j hj=>by rw [hempty] at hj;cases hj⟩⟩
   apply List.eq_nil_iff_forall_not_mem.2
   intro j hj
   have:=tails_ready.1 hj
   rw [hempty] at this;cases this
theorem any_of_tails (hT:∀ (g:Nat) X,T[g]?=some X->X.okAt P w0) {nv1:Nat} (hnv:nv0+ops.size*stride<=nv1) {s:Nat} (ht:TailOk ops s)
  {Q:St->Prop} {Q':Exit->Act->World->Prop} {m0:M} {nv:Nat} {al:Nat->Bool}
  (hQ:∀ σ0 m' a' w',m'.env=E->MExt m0 nv al m' σ0.nv σ0.al->Rep w0 m' σ0 a' w'->σ0.nv=nv1->Q (puts σ0 (ops.toList.drop s))->wpList P ops Q' (ops.toList.drop s) a' w'):∀ (fuel:Nat) (listed:Array Bool) (Y:St) (m:M) (a:Act) (w:World),m.env=E->MExt m0 nv al m Y.nv Y.al->Rep w0 m Y a w->Y.nv=nv1 ->
  listed.size=ops.size->Closed ops listed->(∀ j,s<=j->j<ops.size->listed.getD j true=false)->anyS P T (tails ops s) nv0 len0 E Q fuel listed Y->wpAny P .any ops Q' fuel listed a w:=by
 intro fuel
 induction fuel with
 | zero =>
  intro listed Y m a w h1 h2 h3 h4 hs hcl hl h
  exfalso
  have hlt:=ht.lt
  have hk:ops.size=(ops.size-1)+1:=by omega
  refine ready_ne hk ht.back hs s s (Nat.le_refl _) (by omega) (hl s (Nat.le_refl _) hlt) ?_
  apply List.eq_nil_iff_forall_not_mem.2
  intro i hi
  have hi':=(tails_ready (s:=s)).2 hi
  rw [h.1] at hi';cases hi'
 | succ fuel ih =>
  intro listed Y m a w h1 h2 h3 h4 hs hcl hl h
  have hlt:=ht.lt
  by_cases hsr:s∈Region.ready .any ops listed
  ·have ho:ops[s]?=some ops[s]:=Array.getElem?_eq_getElem hlt
   have hall:∀ j,j<s->listed.getD j false=true:=fun j hj=>closed_all ho hcl hsr (ht.ord s (Nat.le_refl _) hlt) s j (by omega) hj
   obtain ⟨q1,q2⟩:=tails_rest ht (Q:=Q) (Q':=Q') (fuel+1) s listed Y (Nat.le_refl _) (by omega) hs hall hl hcl h
   exact q2 _ _ (hQ Y m a w h1 h2 h3 h4 q1)
  ·have hk:ops.size=(ops.size-1)+1:=by omega
   refine ⟨fun h0=>(ready_ne hk ht.back hs s s (Nat.le_refl _) (by omega) (hl s (Nat.le_refl _) hlt) h0).elim,fun i hi=>?_⟩
   obtain ⟨Y',k1,k2⟩:=h.2 i (tails_ready.2 hi)
   obtain ⟨oi,hoi⟩:=ready_some hi
   have his:i<s:=by
    by_cases hc:i<s
    ·exact hc
    ·exfalso
     have hil:=(Array.getElem?_eq_some_iff.1 hoi).1
     by_cases hei:i=s
     ·subst hei;exact hsr hi
     ·have hl1:=closed_all hoi hcl hi (ht.ord i (by omega) hil) i s (by omega) (by omega)
      have hl2:=hl s (Nat.le_refl _) hlt
      have hsl:s<listed.size:=by omega
      simp only [Array.getD_eq_getD_getElem?,Array.getElem?_eq_getElem hsl,Option.getD_some] at hl1 hl2
      rw [hl2] at hl1;cases hl1
   have hgi:(tails ops s)[i]?=some oi:=by rw [tails_get,if_pos his];exact hoi
   have k1':AStep P T ops nv0 len0 E i Y Y':=by
    unfold AStep at k1 ⊢
    rw [hgi] at k1
    rw [hoi]
    simp only [guardG_tails] at k1 ⊢
    exact k1
   have:=step_exec hT hoi h3 h1 (by omega) k1' (K:=wpAny P .any ops Q' fuel (listed.setIfInBounds i true)) (Q:=Q') fun m' a' w' e1 e2 e3 e4 =>
    ih _ Y' m' a' w' e1 (h2.trans e2) e3 (e4.trans h4) (by simpa using hs) (hcl.set hi) (fun j hj hjs=>by
     have:=hl j hj hjs
     simp only [Array.getD_eq_getD_getElem?,Array.getElem?_setIfInBounds] at this ⊢
     rw [if_neg (by omega)];exact this) k2
   unfold wpOp
   rw [hoi]
   simp only
   split
   ·rename_i hw;rw [if_pos hw] at this;exact .inl this
   ·rename_i hw;rw [if_neg hw] at this;exact this
theorem dropT_set (t:Nat) (s:SV):∀ (l:List Nat) (Y:St),t∈l->dropT {Y with tmps:=Y.tmps.set t s } l=dropT Y l
 | [],Y,h=>by cases h
 | u::r,Y,h=>by
  simp only [dropT]
  by_cases htu:t=u
  ·subst htu;simp
  ·have hr:t∈r:=by
    rcases List.mem_cons.1 h with h | h
    ·exact absurd h htu
    ·exact h
   have:=dropT_set t s r {Y with tmps:=Y.tmps.set u topS } hr
   rw [<- this]
   simp only
   rw [List.set_comm _ _ (fun e=>htu e)]
theorem dropT_put (Y:St) (s:SV) (l:List Nat):∀ (d:Option Nat),(∀ t,d=some t->t∈l)->dropT (Y.put d s) l=dropT Y l:=by
 intro d
 cases d with
 | none=>intro _;simp [St.put_def]
 | some t =>
  intro h
  simp only [St.put_def]
  exact dropT_set t s l Y (h t rfl)
theorem dropT_puts (L:List Nat):∀ (l:List Oper) (Y:St),(∀ o∈l,∀ t,o.dst=some t->t∈L)->dropT (puts Y l) L=dropT Y L
 | [],Y,_=>rfl
 | o::l,Y,h=>by
  show dropT (puts (Y.put o.dst _) l) L=_
  rw [dropT_puts L l _ fun o' ho'=>h o' (List.mem_cons_of_mem _ ho'),dropT_put _ _ _ _ (h o (List.mem_cons_self ..))]
theorem puts_same:∀ (l:List Oper) (Y:St),(puts Y l).nv=Y.nv/\(puts Y l).lvl=Y.lvl
 | [],Y=>⟨rfl,rfl⟩
 | o::l,Y=>by
  obtain ⟨h1,h2⟩:=puts_same l (Y.put o.dst (.vl (.one (.bool (.lit 0)))))
  refine ⟨h1.trans ?_,h2.trans ?_⟩ <;> cases o.dst <;> rfl
theorem draw_tail (hm:P.follows .mixedOrders=true) (hT:∀ (g:Nat) X,T[g]?=some X->X.okAt P w0) {m:M} {Y:St} {a:Act} {w:World} {id fuel:Nat} {kk:St->Tree} {goal:Gl} {Q:Exit->Act->World->Prop} {q:List Oper×Array Oper}
  (hR:Rep w0 m Y a w) (htl:tailOf T ops=some q) (hd:drawOk q.2=true)
  (hh:(lexK P T q.2 Y.nv Y.boxes.length fuel q.2.toList 0 {Y with nv:=Y.nv+q.2.size*stride,boxes:=Y.boxes++List.replicate q.2.size none } kk).holds T goal m.env)
  (hK:∀ m' a' w' σ0 Y',MExt m Y.nv Y.al m' σ0.nv σ0.al->Rep w0 m' σ0 a' w'->puts σ0 q.1=Y'->σ0.nv=Y'.nv->Y'.lvl=Y.lvl->(kk Y').holds T goal m'.env->wpList P ops Q q.1 a' w') (hall:∀ Y' E,(kk Y').holds T goal E->allOk T Y' q.2=true):(Code.region id ops true).wp P Q a w:=by
 obtain ⟨s,rfl,ht⟩:=tailOf_spec htl
 simp only at hd hK hh hall
 have hsz:(tails ops s).size=ops.size:=tails_size ops s
 have hB:=hd
 unfold drawOk at hB
 simp only [Region.lexB,Bool.and_eq_true] at hB
 obtain ⟨E,Y',e3,e5,hnv',e2,hr2,hx⟩:=draw_pre hT hR hh
 have hcalm:=hall Y' E e3
 refine wp_region_any hm (any_of_tails (len0:=Y.boxes.length) hT (nv0:=Y.nv) (nv1:=Y.nv+(tails ops s).size*stride) (by rw [hsz];exact Nat.le_refl _) ht (Q:=fun s=>s=Y') (m0:=m) (nv:=Y.nv) (al:=Y.al) (fun σ0 m' a' w' h1 h2 h3 h5 h4=>by
  exact hK m' a' w' σ0 Y' h2 h3 h4 (h5.trans hnv'.symm) e5 (by rw [h1];exact e3)) _ _ {Y with boxes:=Y.boxes++List.replicate (tails ops s).size none,nv:=Y.nv+(tails ops s).size*stride,kn:=Y'.kn } _ _ _ rfl ?_ hr2 rfl (by simp) (fun i oi hi=>by simp [Array.getD_eq_getD_getElem?,Array.getElem?_replicate] at hi;split at hi <;> simp at hi) (fun j _ hj=>by rw [Array.getD_eq_getD_getElem?,Array.getElem?_eq_getElem (by simp;omega)];simp) ?_)
 ·exact hx
 ·have:=anyS_lex hT (nv1:=Y.nv+(tails ops s).size*stride) (Nat.le_refl _) hcalm (tails ops s).toList 0 (Array.replicate (tails ops s).size false) _ (fun j=>by rw [Array.getElem?_toList,Nat.zero_add]) (by rw [Array.length_toList];exact hB.2) (closed_none _ _) ⟨_,_,_,rfl,hr2,rfl⟩ e2
  rw [Array.length_toList,hsz] at this
  rw [hsz]
  exact this
end
section
variable {P:Program} {T:List K} {w0:World} {m:M} {Y:St} {a:Act} {w:World}
theorem Rep.know (h:Rep w0 m Y a w) {v:Nat} {b:Bool} (hv:v<Y.nv) (hb:decide (m.env v≠0)=b):Rep w0 m (Y.know v b) a w :=
 ⟨h.defers,h.size,h.tmp,h.below,h.own,h.ro,h.inj,fun p hp=>by
  rcases List.mem_cons.1 hp with rfl | hp
  ·exact ⟨hv,hb⟩
  ·exact h.kn p hp,h.gl,h.rows,h.rbox,h.rsep,h.base⟩
theorem truth_need {x:A} {n:Nat} (h:truth Y x=.need n):x=.var n:=by
 cases x with
 | lit k=>simp only [truth] at h;split at h <;> cases h
 | var k=>simp only [truth] at h;split at h <;> cases h;rfl
 | limb a b=>cases h
 | elt k a b=>cases h
theorem resOne_ok (h:Rep w0 m Y a w) {r:ResultVar} {v:V} (hr:resOne P Y r=some v):∃ u,((match r with | .tmp t=>pure (a.tmps.getD t undef) | .cell ad t=>do loadVar t (<- asAddr (a.tmps.getD ad undef))):Sem Value).run P w=.ok u w/\v.rel m Y.nv Y.al u:=by
 cases r with
 | tmp t =>
  simp only [resOne] at hr
  have:=h.get t
  split at hr
  ·rename_i v' hv
   cases hr
   rw [hv] at this
   exact ⟨_,rfl,this⟩
  ·cases hr
 | cell t ty =>
  simp only [resOne] at hr
  have:=h.get t
  split at hr
  ·rename_i id off hv
   rw [hv] at this
   obtain ⟨h1,h2⟩:C.rel m Y.nv Y.al (.ptr id off) _:=this
   split at hr
   ·rename_i b d n hb hd hn
    split at hr
    ·rename_i ha
     split at hr
     ·cases hr
     ·rename_i hl
      cases hr
      obtain ⟨vs,hvl,hr,hv⟩:=h.reads hb off n (by omega)
      refine ⟨.agg vs.toArray,?_,vs,rfl,hr⟩
      simp only [h2]
      simp [asAddr,run_loadVar_agg hd ha (by rw [hn,hvl]) hv]
    ·rename_i ha
     split at hr
     ·rename_i c hc
      cases hr
      obtain ⟨v,hv,hr⟩:=h.read hb _ _ hc
      refine ⟨v,?_,hr⟩
      simp only [h2]
      simp [asAddr,run_loadVar_one hd (by simpa using ha) hv]
     ·cases hr
   ·cases hr
  ·cases hr
theorem res_list (h:Rep w0 m Y a w):∀ (l:List ResultVar) (vs:List V),mapO (resOne P Y) l=some vs->∃ us:List Value,
  ((l.mapM fun (r:ResultVar)=>((match r with | .tmp t=>pure (a.tmps.getD t undef) | .cell ad t=>do loadVar t (<- asAddr (a.tmps.getD ad undef))):Sem Value)):Sem (List Value)).run P w=.ok us w/\VRels m Y.nv Y.al vs us:=by
 intro l
 induction l with
 | nil=>intro vs hvs;simp [mapO] at hvs;subst hvs;exact ⟨[],rfl,trivial⟩
 | cons r l ih =>
  intro vs hvs
  unfold mapO at hvs
  split at hvs
  ·cases hvs
  ·rename_i y hy
   split at hvs
   ·cases hvs
   ·rename_i ys hys
    cases hvs
    obtain ⟨u,h1,h2⟩:=resOne_ok h hy
    obtain ⟨us,h3,h4⟩:=ih ys hys
    refine ⟨u::us,?_,h2,h4⟩
    rw [List.mapM_cons]
    simp only [Sem.run_bind,h1,Result.andThen_ok,h3,Sem.run_pure]
theorem res_ok (h:Rep w0 m Y a w) {fn:Func} {vs:List V} (hr:resS P Y fn=some vs):∃ us:List Value,(results fn a.tmps).run P w=.ok (retV us) w/\VRels m Y.nv Y.al vs us:=by
 obtain ⟨us,h1,h2⟩:=res_list h _ _ hr
 refine ⟨us,?_,h2⟩
 unfold results
 rw [Array.mapM_eq_mapM_toList]
 rw [bind_map_left,Sem.run_bind]
 refine (congrArg (fun r=>Result.andThen r _) h1).trans ?_
 rw [Result.andThen_ok,Sem.run_pure]
 cases us with
 | nil=>rfl
 | cons u us=>cases us with
  | nil=>rfl
  | cons u' us=>simp [retV]
theorem enter_rep (h:Rep w0 m Y a w) {args:List V} {us:List Value} (hr:VRels m Y.nv Y.al args us) (n:Nat) :
  Rep w0 m {Y with tmps:=args.map SV.vl++List.replicate (n-args.length) undefS } {tmps:=us.toArray++Array.replicate (n-us.toArray.size) undef,defers:=[] } w:=by
 have hl:=hr.length
 refine ⟨rfl,by simp [hl],fun i s hi=>?_,h.below,h.own,h.ro,h.inj,h.kn,h.gl,h.rows,h.rbox,h.rsep,h.base⟩
 have hi:(args.map SV.vl++List.replicate (n-args.length) undefS)[i]?=some s:=hi
 show ∃ v,(us.toArray++Array.replicate (n-us.toArray.size) undef)[i]?=some v/\s.rel m Y.nv Y.al v
 by_cases hlt:i<args.length
 ·rw [List.getElem?_append_left (by simpa using hlt),List.getElem?_map] at hi
  cases hai:args[i]? with
  | none=>rw [hai] at hi;cases hi
  | some v =>
   rw [hai] at hi
   cases hi
   obtain ⟨u,hu,hv⟩:=hr.get i v hai
   exact ⟨u,by rw [Array.getElem?_append_left (by simp;omega)];simpa using hu,hv⟩
 ·rw [List.getElem?_append_right (by simp;omega),List.getElem?_replicate] at hi
  split at hi
  ·rename_i hlt2
   cases hi
   refine ⟨undef,?_,[],rfl,trivial⟩
   rw [Array.getElem?_append_right (by simp;omega),Array.getElem?_replicate,if_pos]
   simp only [List.size_toArray]
   simp only [List.length_map] at hlt2
   rw [<- hl];exact hlt2
  ·cases hi
theorem Rep.back {Y':St} {m':M} {a':Act} {w':World} (h:Rep w0 m Y a w) (h':Rep w0 m' Y' a' w') (hx:MExt m Y.nv Y.al m' Y'.nv Y'.al):Rep w0 m' {Y' with tmps:=Y.tmps } a w' :=
 ⟨h.defers,h.size,fun i s hi=>by obtain ⟨v,hv,hs⟩:=h.tmp i s hi;exact ⟨v,hv,SV.rel_mono hx hs⟩,h'.below,h'.own,h'.ro,h'.inj,h'.kn,h'.gl,h'.rows,h'.rbox,h'.rsep,h'.base⟩
theorem plan_call {o:Oper} {nn nid f:Nat} {args:List V} (h:Rep w0 m Y a w) (hp:plan P T Y nn nid o.op=.call f args) :
  ∃ us:List Value,VRels m Y.nv Y.al args us/\(execOp a.eval o).run P w=(callFunc f us.toArray).run P w:=by
 cases ho:o.op with
 | call c =>
  rw [ho] at hp
  simp only [plan] at hp
  split at hp
  ·cases hp
  ·rename_i args' hargs
   have hvr:=args_ok h _ _ hargs
   split at hp
   ·repeat' split at hp
    all_goals (first | (cases hp;done) | (unfold okP at hp;cases hp;done))
   ·repeat' split at hp
    all_goals (first | (cases hp;done))
   ·repeat' split at hp
    all_goals (first | (cases hp;done))
   ·repeat' split at hp
    all_goals (first | (cases hp;done))
   ·split at hp
    ·cases hp
    ·cases hp
   ·cases hp
   ·cases hp
   ·rename_i x hcal
    split at hp
    ·rename_i f' caps hx
     have hfx:=h.cell hx
     split at hp
     ·repeat' split at hp
      all_goals (cases hp;done)
     ·simp only [Pl.call.injEq] at hp
      obtain ⟨rfl,rfl⟩:=hp
      refine ⟨c.args.toList.map a.eval++caps.map fun p=>Value.pointer (some (m.at p.1 p.2)),?_,?_⟩
      ·exact hvr.append (caps_rel hfx.1)
      ·rw [run_callValue ho hcal hfx.2]
       congr 2
       apply Array.ext'
       simp
    ·cases hp
 | binOp op t x y yt =>
  rw [ho] at hp
  simp only [plan] at hp
  split at hp
  ·split at hp
   ·cases hp
   rename_i hnone
   clear hnone
   unfold planBin at hp
   split at hp
   ·simp only [binInt,mkP] at hp
    repeat' split at hp
    all_goals (cases hp;done)
   all_goals
    try simp only [mkP,okP] at hp
    repeat' split at hp
    all_goals (cases hp;done)
  ·cases hp
 | _ =>
  rw [ho] at hp
  simp only [plan,okP,partC,mkP,loadRow] at hp
  repeat' split at hp
  all_goals (cases hp;done)
theorem run_callFunc {f:FuncId} {fn:Func} {args:Array Value} (hf:P.funcs[f]?=some fn) (hn:(fn.name == "runtime.NumGoroutine")=false) {c:Code} (hb:fn.body=some c):(callFunc f args).run P w=.ok (.enter f args) w:=by
 have hn':¬fn.name = "runtime.NumGoroutine":=by simpa using hn
 simp [callFunc,hf,hn',hb]
end
theorem aEq_ok {a b:A} (h:aEq a b=true):a=b:=by
 cases a <;> cases b <;> simp [aEq] at h
 ·rw [h]
 ·rw [h]
 ·rw [h.1,h.2]
 ·rw [h.1.1,h.1.2,h.2]
theorem cEqb_ok {a b:C} (h:cEqb a b=true):a=b:=by
 cases a <;> cases b <;> simp only [cEqb,Bool.and_eq_true,beq_iff_eq,Bool.false_eq_true] at h <;> first | rfl | skip
 ·obtain ⟨h1,h2⟩:=h
  first | rw [kind_ok h1,aEq_ok h2] | rw [h1,aEq_ok h2]
 ·rw [aEq_ok h]
 ·rw [h.1,h.2]
 ·rw [h.1.1.1,h.1.1.2,h.1.2,h.2]
 ·rw [h.1,h.2]
 ·rw [h]
 ·rw [h.1.1.1,h.1.1.2,aEq_ok h.1.2,h.2]
 ·rw [h]
 ·rw [h.1.1,aEq_ok h.1.2,LKeq_ok h.2]
 ·rw [h.1.1.1,aEq_ok h.1.1.2,aEq_ok h.1.2,LKeq_ok h.2]
 ·rw [aEq_ok h]
 ·rw [h.1.1.1,h.1.1.2,aEq_ok h.1.2,h.2]
 ·rw [aEq_ok h]
 ·rw [aEq_ok h]
theorem csEqb_ok:∀ {a b:List C},csEqb a b=true->a=b
 | [],[],_=>rfl
 | a::as,b::bs,h=>by
  simp only [csEqb,Bool.and_eq_true] at h
  rw [cEqb_ok h.1,csEqb_ok h.2]
theorem vEqb_ok {a b:V} (h:vEqb a b=true):a=b:=by
 cases a <;> cases b <;> simp only [vEqb,Bool.false_eq_true] at h
 ·rw [cEqb_ok h]
 ·rw [csEqb_ok h]
theorem vsEqb_ok:∀ {a b:List V},vsEqb a b=true->a=b
 | [],[],_=>rfl
 | a::as,b::bs,h=>by
  simp only [vsEqb,Bool.and_eq_true] at h
  rw [vEqb_ok h.1,vsEqb_ok h.2]
theorem sEqb_ok {a b:SV} (h:sEqb a b=true):a=b:=by
 cases a <;> cases b <;> simp only [sEqb,Bool.false_eq_true] at h
 ·rw [vEqb_ok h]
 ·rw [vsEqb_ok h]
theorem tmpsLe_ok:∀ {as bs:List SV},tmpsLe as bs=true->as.length=bs.length/\∀ (i:Nat) s,as[i]?=some s->s=topS∨bs[i]?=some s
 | [],[],_=>⟨rfl,by simp⟩
 | a::as,b::bs,h=>by
  simp only [tmpsLe,Bool.and_eq_true,Bool.or_eq_true] at h
  obtain ⟨h1,h2⟩:=tmpsLe_ok h.2
  refine ⟨by simp [h1],fun i s hi=>?_⟩
  cases i with
  | zero =>
   simp at hi
   subst hi
   rcases h.1 with h3 | h3
   ·left
    split at h3
    ·rfl
    ·cases h3
   ·right;rw [sEqb_ok h3];rfl
  | succ i=>simpa using h2 i s (by simpa using hi)
theorem rowLe_ok {a b:Option Row} (h:rowLe a b=true):a=b:=by
 cases a with
 | none=>cases b with
  | none=>rfl
  | some r=>cases h
 | some q=>cases b with
  | none=>cases h
  | some r =>
   simp only [rowLe,rowEqb,Bool.and_eq_true,beq_iff_eq] at h
   obtain ⟨⟨⟨⟨⟨h1,h2⟩,h3⟩,h4⟩,h5⟩,h6⟩:=h
   cases q;cases r
   simp only at h1 h2 h3 h4 h5 h6
   rw [eqA_ok h1,eqA_ok h2,LKeq_ok h3,h4,h5,h6]
theorem boxLe_ok {a b:Option Box} (h:boxLe a b=true) {x:Box} (hx:a=some x):b=some x:=by
 subst hx
 cases b with
 | none=>cases h
 | some y =>
  simp only [boxLe,Bool.and_eq_true,beq_iff_eq] at h
  obtain ⟨⟨⟨⟨h1,h5⟩,h2⟩,h3⟩,h4⟩:=h
  cases x;cases y
  simp only at h1 h2 h3 h4 h5
  rw [h1,h2,csEqb_ok h3,rowLe_ok h4,h5]
theorem boxesLe_ok:∀ {as bs:List (Option Box)},boxesLe as bs=true->∀ (i:Nat) b,as[i]?=some (some b)->bs[i]?=some (some b)
 | [],_,_=>by simp
 | a::as,b::bs,h=>by
  simp only [boxesLe,Bool.and_eq_true] at h
  intro i x hi
  cases i with
  | zero=>simp at hi;have:=boxLe_ok h.1 hi;simp [this]
  | succ i=>simpa using boxesLe_ok h.2 i x (by simpa using hi)
 | a::as,[],h=>by
  simp only [boxesLe,Bool.and_eq_true] at h
  intro i x hi
  cases i with
  | zero=>simp at hi;subst hi;cases h.1
  | succ i=>exact absurd (boxesLe_ok h.2 i x (by simpa using hi)) (by simp)
theorem setH_al (Y:St) (cs:List C) (h:Hp):(setH Y cs h).al=Y.al:=by
 cases h with
 | slot t=>simp only [setH];split <;> rfl
 | view t =>
  simp only [setH]
  repeat' split
  all_goals rfl
 | box t =>
  simp only [setH]
  split
  ·rename_i id _
   split
   ·rename_i b hb
    have:=al_setBox Y id {b with cells:=cs }
    funext i
    rw [show ({Y with boxes:=Y.boxes.set id (some {b with cells:=cs }) }:St)=Y.setBox id {b with cells:=cs } from rfl,this]
    split
    ·rename_i hi
     rw [hi.1]
     rw [St.box_def] at hb
     split at hb
     ·rename_i b' hb';exact (al_iff.2 ⟨b',hb'⟩).symm
     ·cases hb
    ·rfl
   ·rfl
  ·rfl
theorem putH_al:∀ (hav:List (Hp×List L)) (nn:Nat) (Y:St),(putH Y nn hav).al=Y.al
 | [],_,_=>rfl
 | (h,ls)::r,nn,Y=>by simp only [putH];rw [putH_al r,setH_al]
theorem putH_len:∀ (hav:List (Hp×List L)) (nn:Nat) (Y:St),(putH Y nn hav).tmps.length=Y.tmps.length
 | [],_,_=>rfl
 | (h,ls)::r,nn,Y=>by simp only [putH];rw [putH_len r,setH_len]
theorem setH_same (Y:St) (cs:List C) (h:Hp):(setH Y cs h).kn=Y.kn/\(setH Y cs h).gl=Y.gl:=by
 cases h <;> simp only [setH] <;> (repeat' split) <;> exact ⟨rfl,rfl⟩
theorem putH_same:∀ (hav:List (Hp×List L)) (nn:Nat) (Y:St),(putH Y nn hav).kn=Y.kn/\(putH Y nn hav).gl=Y.gl
 | [],_,_=>⟨rfl,rfl⟩
 | (h,ls)::r,nn,Y=>by simp only [putH];rw [(putH_same r _ _).1,(putH_same r _ _).2];exact setH_same ..
theorem havOk_slot {hav:List (Hp×List L)} (ha:havOk hav=true):∀ q∈hav,∀ t,q.1=.box t->∀ q'∈hav,q'.1≠.slot t/\q'.1≠.view t:=by
 simp only [havOk,List.all_eq_true,Bool.and_eq_true] at ha
 intro q hq t hqt q' hq'
 have:=(ha q hq).2
 rw [hqt] at this
 simp only [Bool.not_eq_true',List.any_eq_false] at this
 have:=this q' hq'
 refine ⟨fun hs=>?_,fun hs=>?_⟩ <;> (rw [hs] at this;simp [isSlot] at this)
structure HeadOk (σh:St) (N:Nat) (hav:List (Hp×List L)):Prop where
 tmp:∀ (i:Nat) s,σh.tmps[i]?=some s->s=topS∨(∃ q∈hav,q.1=.slot i)∨((∃ q∈hav,q.1=.view i)/\s.okV N σh.al)∨s.okN N σh.al
 box:∀ (id:Nat) b,σh.boxes[id]?=some (some b)->(∃ (j:Nat) (t:Nat) (ls:List L),hav[j]?=some (.box t,ls)/\σh.get t=.vl (.one (.ptr id 0)))∨∀ c∈b.cells,C.okN N σh.al c
 row:∀ (id:Nat) (b:Box) (r:Row),σh.boxes[id]?=some (some b)->b.row=some r->r.x.ok N/\r.x0.ok N
theorem C.okN_mono {N N':Nat} {al:Nat->Bool} {c:C} (h:c.okN N al) (hn:N<=N'):c.okN N' al:=by
 cases c <;> simp only [C.okN] at h ⊢ <;> first | exact A.ok_mono h hn | exact h | exact ⟨h.1,A.ok_mono h.2.1 hn,A.ok_mono h.2.2 hn⟩ | exact ⟨h.1,A.ok_mono h.2 hn⟩ | exact ⟨A.ok_mono h.1 hn,A.ok_mono h.2 hn⟩
theorem SV.okN_mono {N N':Nat} {al:Nat->Bool} {s:SV} (h:s.okN N al) (hn:N<=N'):s.okN N' al:=by
 cases s with
 | vl v=>exact fun c hc=>C.okN_mono (h c hc) hn
 | tup l=>exact fun v hv c hc=>C.okN_mono (h v hv c hc) hn
section
variable {P:Program} {T:List K} {w0:World} {m:M} {Y:St} {a:Act} {w:World}
theorem head_ok (h:Rep w0 m Y a w) {n0 nv' lv:Nat} {hav:List (Hp×List L)} (ha:havOk hav=true) (hn:Y.nv<=n0):HeadOk {putH Y n0 hav with nv:=nv',lvl:=lv } n0 hav:=by
 have hal:({putH Y n0 hav with nv:=nv',lvl:=lv }:St).al=Y.al:=putH_al hav n0 Y
 refine ⟨fun i s hi=>?_,fun id b hb=>?_,fun id b r hb hr=>?_⟩
 ·rcases putH_tmps hav n0 Y i s (havS_of ha) hi with ⟨h1,_⟩ | ⟨j,ls,h1,_⟩ | ⟨j,h1,id,lo,hi',k,h2,h3⟩
  ·obtain ⟨v,_,hr⟩:=h.tmp i s h1
   exact .inr (.inr (.inr (by rw [hal];exact SV.okN_mono (SV.rel_okN hr) hn)))
  ·exact .inr (.inl ⟨_,List.mem_of_getElem? h1,rfl⟩)
  ·obtain ⟨v,_,hr⟩:=h.tmp i _ h2
   obtain ⟨b1,b2,b3,_⟩:=(show C.rel m Y.nv Y.al (.slv id lo hi' k) v from hr)
   exact .inr (.inr (.inl ⟨⟨_,List.mem_of_getElem? h1,rfl⟩,id,_,hi',k,h3,by rw [hal];exact b1,A.ok_mono b3.1 hn⟩))
 ·have hsl:=havOk_slot ha
  obtain ⟨b0,h1,h2,h3,h4⟩:=putH_boxes hav n0 Y id b hsl hb
  rcases h4 with ⟨rfl,_⟩ | ⟨j,t,ls,h5,h6,_⟩
  ·right
   rw [hal]
   cases ho:b.own with
   | true=>obtain ⟨_,_,vs,_,hr⟩:=h.own id b h1 ho;exact fun c hc=>C.okN_mono (Rels.okN hr c hc) hn
   | false =>
    intro c hc
    rcases h.ro id b h1 ho with h0 | ⟨_,hr⟩
    ·rw [h0] at hc;cases hc
    obtain ⟨j,hj⟩:=List.mem_iff_getElem?.1 hc
    obtain ⟨v,_,hv⟩:=hr j c hj
    exact C.okN_mono (C.rel_okN hv) hn
  ·refine .inl ⟨j,t,ls,h5,?_⟩
   show (putH Y n0 hav).get t=_
   rw [putH_get_eq hav n0 Y t (hsl _ (List.mem_of_getElem? h5) t rfl)];exact h6
 ·obtain ⟨b0,g1,g2⟩:=putH_row hav n0 Y id b hb
  obtain ⟨r1,r2,_⟩:=h.rows id b0 r g1 (g2.symm.trans hr)
  exact ⟨A.ok_mono r1.1 hn,A.ok_mono r2.1 hn⟩
theorem dropT_rep:∀ (l:List Nat) {Y:St},Rep w0 m Y a w->Rep w0 m (dropT Y l) a w
 | [],_,h=>h
 | t::r,Y,h=>by
  refine dropT_rep r ?_
  refine ⟨h.defers,by simp [h.size],fun i s hi=>?_,h.below,h.own,h.ro,h.inj,h.kn,h.gl,h.rows,h.rbox,h.rsep,h.base⟩
  have hi:(Y.tmps.set t topS)[i]?=some s:=hi
  by_cases hti:t=i
  ·subst hti
   have hlt:t<Y.tmps.length:=by simpa using (List.getElem?_eq_some_iff.1 hi).1
   rw [List.getElem?_set_self hlt] at hi
   cases hi
   obtain ⟨v,hv,_⟩:=h.tmp t _ (List.getElem?_eq_getElem hlt)
   exact ⟨v,hv,trivial⟩
  ·rw [List.getElem?_set_ne hti] at hi
   exact h.tmp i s hi
theorem dropT_same:∀ (l:List Nat) (Y:St),(dropT Y l).nv=Y.nv/\(dropT Y l).boxes=Y.boxes/\(dropT Y l).kn=Y.kn/\(dropT Y l).gl=Y.gl/\(dropT Y l).lvl=Y.lvl/\(dropT Y l).tmps.length=Y.tmps.length
 | [],_=>⟨rfl,rfl,rfl,rfl,rfl,rfl⟩
 | t::r,Y=>by
  obtain ⟨h1,h2,h3,h4,h5,h6⟩:=dropT_same r {Y with tmps:=Y.tmps.set t topS }
  exact ⟨h1,h2,h3,h4,h5,h6.trans (by simp)⟩
theorem wp_loop_ex {c:Code} {Q:Exit->Act->World->Prop} (J:Nat->Act->World->Prop) {n0:Nat} (h₀:J n0 a w)
  (round:∀ n a w,J n a w->c.wp P (Exit.then (fun a' w'=>∃ n',n'<n/\J n' a' w') Q) a w):(Code.loop c).wp P Q a w:=by
 intro b k cs
 have key:∀ n a w,J n a w->∃ e a' w',Q e a' w'/\Arrives P (lone (b.at a (.code c :: .inLoop c::k)) cs w) b k cs e a' w':=by
  intro n
  induction n using Nat.strongRecOn with
  | _ n ih =>
   intro a w hI
   obtain ⟨e,a₁,w₁,hq,harr⟩:=round n a w hI b (.inLoop c::k) cs
   cases e with
   | normal =>
    obtain ⟨n',hlt,hI₁⟩:=hq
    obtain ⟨e₂,a₂,w₂,hq₂,harr₂⟩:=ih n' hlt a₁ w₁ hI₁
    exact ⟨e₂,a₂,w₂,hq₂,.of_steps (Steps.trans harr (.one step_inLoop)) harr₂⟩
   | exit id=>exact ⟨_,a₁,w₁,hq,.pass (x:=.inLoop c) rfl (fun _ _=>.inl (by simp)) harr⟩
   | goto l=>exact ⟨_,a₁,w₁,hq,.pass (x:=.inLoop c) rfl (fun _ _=>.inl (by simp)) harr⟩
   | ret=>exact ⟨_,a₁,w₁,hq,.pass (x:=.inLoop c) rfl (fun _ _=>.inl (by simp)) harr⟩
   | panic ch=>exact ⟨_,a₁,w₁,hq,.pass (x:=.inLoop c) rfl (fun _ _=>.inl (by simp)) harr⟩
   | outgrown=>exact ⟨_,a₁,w₁,hq,.pass (x:=.inLoop c) rfl (fun _ _=>.inl (by simp)) harr⟩
 obtain ⟨e,a',w',hq,harr⟩:=key _ a w h₀
 exact ⟨e,a',w',hq,.of_steps (.one step_loop) harr⟩
theorem updL_low:∀ (vs:List Int) (e:Nat->Int) (n i:Nat),i<n->updL e n vs i=e i
 | [],_,_,_,_=>rfl
 | v::vs,e,n,i,h=>by
  simp only [updL]
  rw [updL_low vs _ _ _ (by omega)]
  simp [upd];omega
theorem updL_get:∀ (vs:List Int) (e:Nat->Int) (n i:Nat) (x:Int),vs[i]?=some x->updL e n vs (n+i)=x
 | [],_,_,_,_,h=>by simp at h
 | v::vs,e,n,0,x,h=>by
  simp at h;subst h
  simp only [updL]
  rw [updL_low vs _ _ _ (by omega)]
  simp [upd]
 | v::vs,e,n,i+1,x,h=>by
  simp only [updL]
  have:=updL_get vs (upd e n v) (n+1) i x (by simpa using h)
  rwa [show n+1+i=n+(i+1) by omega] at this
def GExt (g g':Gl):Prop:=g'.goal=g.goal/\∃ r,g'.stk=g.stk++r
theorem GExt.refl (g:Gl):GExt g g:=⟨rfl,[],by simp⟩
theorem GExt.trans {g g' g'':Gl} (h:GExt g g') (k:GExt g' g''):GExt g g'':=by
 obtain ⟨h1,r,h2⟩:=h
 obtain ⟨k1,s,k2⟩:=k
 exact ⟨k1.trans h1,r++s,by rw [k2,h2,List.append_assoc]⟩
def exitOf:Ex->Exit | .normal=>.normal | .exit id=>.exit id | .ret=>.ret
end
section
variable {P:Program} {T:List K} {w0:World} {m:M} {Y:St} {a:Act} {w:World} {o:Oper}
theorem flat_snoc (k:LK) (l:List Int) (x:Int):flat k (l++[x])=flat k l++k.vals x:=by simp [flat]
structure GrowSpec (P:Program) (Y:St) (nn:Nat) (o:Oper) (g:Grow) (s x:Operand) (t:TypeId) (i:TypeInfo) (z:Value) (id off cap:Nat) (b:Box):Prop where
 op:o.op=.call {callee:=.builtin .append,args:=#[s,x],argTypes:=#[t,t] }
 und:P.underlying t=some (.slice g.elem)
 info:P.info? g.elem=some i
 zero:i.zero=some z
 zs:z.cells.size=i.size
 size:i.size=g.k.sz
 bytes:i.bytes<=16384
 cell:Y.cell x=some (.slice id off 1 cap)
 box:Y.box id=some b
 len:g.k.sz<=(b.cells.drop off).length
 take:takeK nn g.k ((b.cells.drop off).take g.k.sz)=some (g.defs,g.a)
 old:(g.old=none/\g.x0=.lit 0/\Y.cell s=some .nilslice)∨∃ id' r,g.old=some id'/\g.x0=r.x/\Y.cell s=some (.sl id')/\Y.row id'=some r/\r.own=true/\r.elem=g.elem/\r.k=g.k
theorem grow_spec {nn:Nat} {g:Grow} (h:growP P Y nn o.op=some g):∃ s x t i z id off cap b,GrowSpec P Y nn o g s x t i z id off cap b:=by
 unfold growP at h
 split at h
 ·rename_i c hop
  split at h
  ·rename_i t t' s x hc ht hx
   split at h
   ·rename_i htt
    split at h
    ·rename_i e hu
     split at h
     ·rename_i i k hi hk
      split at h
      ·rename_i z hz
       split at h
       ·rename_i hcond
        simp only [Bool.and_eq_true,beq_iff_eq,decide_eq_true_eq] at hcond
        split at h
        ·rename_i id off cap hcx
         split at h
         ·rename_i b hb
          split at h
          ·rename_i hlen
           split at h
           ·rename_i ds y htk
            have hop':o.op=.call {callee:=.builtin .append,args:=#[s,x],argTypes:=#[t,t] }:=by
             have htt':t=t':=by simpa using htt
             subst htt'
             rw [hop]
             obtain ⟨callee,args,tys⟩:=c
             simp only at hc ht hx
             subst hc
             have ea:args=#[s,x]:=Array.ext' (by simpa using hx)
             have et:tys=#[t,t]:=Array.ext' (by simpa using ht)
             rw [ea,et]
            split at h
            ·rename_i hs
             cases h
             exact ⟨s,x,t,i,z,id,off,cap,b,⟨hop',hu,hi,hz,hcond.1.1,hcond.1.2,hcond.2,hcx,hb,by simpa using hlen,htk,.inl ⟨rfl,rfl,hs⟩⟩⟩
            ·rename_i id' hs
             split at h
             ·rename_i r hr
              split at h
              ·rename_i hrc
               simp only [Bool.and_eq_true,beq_iff_eq] at hrc
               cases h
               exact ⟨s,x,t,i,z,id,off,cap,b,⟨hop',hu,hi,hz,hcond.1.1,hcond.1.2,hcond.2,hcx,hb,by simpa using hlen,htk,.inr ⟨id',r,rfl,rfl,hs,hr,hrc.1.1,hrc.1.2,LKeq_ok hrc.2⟩⟩⟩
              ·cases h
             ·cases h
            ·cases h
           ·cases h
          ·cases h
         ·cases h
        ·cases h
       ·cases h
      ·cases h
     ·cases h
    ·cases h
   ·cases h
  ·cases h
 ·cases h
theorem grow_ok (hR:Rep w0 m Y a w) {nid:Nat} (hn:Y.boxes[nid]?=some none) {g:Grow} (hg:growP P Y Y.nv o.op=some g) {goal:Gl} {t:Tree} {K:Act->World->Prop} {Q:Exit->Act->World->Prop}
  (hh:(letts Y.nv (g.defs++[(.int .i64,.llen g.x0),(.bit,.cmp .lss (.var (Y.nv+g.defs.length)) (.lit 4294967296))]) (.nz (.var (Y.nv+(g.defs.length+1))) (.lett (Y.nv+(g.defs.length+2)) (.lst g.k) (.lapp g.x0 [g.a]) t))).holds T goal m.env)
  (hK:∀ m' a' w',MExt m Y.nv Y.al m' (growS Y nid g o.dst).nv (growS Y nid g o.dst).al->Rep w0 m' (growS Y nid g o.dst) a' w'->t.holds T goal m'.env->K a' w'):o.wp P a w K Q:=by
 obtain ⟨s,x,ty,i,z,id,off,cap,b,G⟩:=grow_spec hg
 obtain ⟨vs,hvl,hr,hv⟩:=hR.reads G.box off g.k.sz G.len
 obtain ⟨k1,k3⟩:=takeK_ok (T:=T) G.take m Y.nv vs hr
 obtain ⟨k1,k4⟩:=k1 (Nat.le_refl _)
 have hx0:g.x0.wf Y.nv m.env/\g.k.hasL (dec (g.x0.ev m.env))/\w.ownsRow w0.heap.size g.elem g.k.sz (a.eval s) (dec (g.x0.ev m.env)).length (flat g.k (dec (g.x0.ev m.env))) /\
   (match g.old with | none=>(a.eval s).ownBlock=none | some id=>∃ b q,Y.boxes[id]?=some (some b)/\b.row=some q/\q.own=true/\m.sv id=a.eval s):=by
  rcases G.old with ⟨h1,h2,h3⟩ | ⟨id',r,h1,h2,h3,h4,h5,h6,h7⟩
  ·have hs:a.eval s=.slice none 0 0:=hR.cell h3
   rw [h1,h2,hs]
   simp only [A.ev,dec_zero]
   exact ⟨⟨trivial,trivial⟩,⟨by simp,by simp⟩,World.ownsRow_nil ..,rfl⟩
  ·have hs:Y.al id'=true/\a.eval s=m.sv id'/\(a.eval s).oneCell'=true:=hR.cell h3
   obtain ⟨q1,q2,_,_,q3⟩:=hR.row_ok h4
   obtain ⟨bx,hbx,hbr⟩:=row_box h4
   have q4:=q3.2.1
   rw [h5] at q4
   simp only [if_true] at q4
   rw [h1,h2,<- h6,<- h7,hs.2.1]
   exact ⟨q2,q3.1,q4,bx,r,hbx,hbr,h5,rfl⟩
 obtain ⟨x1,x2,x3,x4⟩:=hx0
 generalize hl:dec (g.x0.ev m.env)=l at x2 x3
 have gen:GenOk T m.env Y.nv (g.defs++[(.int .i64,.llen g.x0),(.bit,.cmp .lss (.var (Y.nv+g.defs.length)) (.lit 4294967296))]):=by
  refine gen_append _ _ _ _ k1 fun e' he _=>⟨A.ok_mono x1.1 (by omega),?_,⟨Nat.lt_succ_self _,trivial⟩,b2i_bit _,trivial⟩
  simp only [KK.has,D.ev]
  rw [A.ev_congr x1.1 he,hl]
  have:=x2.1
  simp only [has,lo,hi];omega
 obtain ⟨e1,b1,b2,b3,b4⟩:=letts_holds _ _ _ hh gen
 obtain ⟨c1,c2⟩:=(Told.append).1 b3
 have hx0e:g.x0.ev e1=g.x0.ev m.env:=A.ev_congr x1.1 b1
 have d0:e1 (Y.nv+g.defs.length)=(l.length:Int):=by
  have:=(c2 0 _ _ rfl).1
  simpa [D.ev,hx0e,hl] using this
 have d1:e1 (Y.nv+g.defs.length+1)=b2i (decide (e1 (Y.nv+g.defs.length)<4294967296)):=(c2 1 _ _ rfl).1
 obtain ⟨nzf,lt⟩:=b4
 have hlen:l.length<4294967296:=by
  have:e1 (Y.nv+g.defs.length+1)≠0:=nzf
  rw [d1,d0] at this
  by_cases hc:(l.length:Int)<4294967296
  ·omega
  ·simp [hc,b2i] at this
 obtain ⟨v1,v2⟩:=k3 e1 b1 c1
 generalize hy:g.a.ev e1=y at v1 v2
 have hd:D.ev T e1 (.lapp g.x0 [g.a])=enc (l++[y]):=by simp only [D.ev,hx0e,hl,List.map_cons,List.map_nil,hy]
 have hhas:g.k.hasL (l++[y]):=⟨by simp;omega,fun q hq=>by
  rcases List.mem_append.1 hq with hq | hq
  ·exact x2.2 q hq
  ·rw [List.mem_singleton.1 hq];exact v2⟩
 have t1:=lt (enc (l++[y])) hd.symm (by simp only [KK.has,dec_enc];exact hhas)
 have henv:∀ j,j<Y.nv->upd e1 (Y.nv+(g.defs.length+2)) (enc (l++[y])) j=m.env j:=fun j hj=>by
  simp only [upd];rw [if_neg (by omega)];exact b1 j hj
 have hnm:=hR.names _ henv (Y.nv+(g.defs.length+3)) (by omega)
 have hxc:=hR.cell G.cell
 refine wp_append_lies w s x ty G.op w0.heap.size g.elem i z g.k.sz i.bytes G.und G.info G.zero G.size rfl (G.zs.trans G.size) (sz_pos _) (a.eval s) l.length (flat g.k l) rfl x3 (m.at id off) 1 cap vs hxc.2 (by rw [hvl,Nat.one_mul]) hv
  (by rw [<- v1];exact vals_one _ _) (by omega) (by simp only [maxLen];omega) ?_ hR.below.size w.heap.size rfl fun gb cap' w' hown' hgrow hat hlt=>?_
 ·have:=G.bytes
  have h1:(l.length+1)*i.bytes<=4294967296*16384:=Nat.mul_le_mul (by omega) this
  omega
 ·have hn':({Y with nv:=Y.nv+(g.defs.length+3) }:St).boxes[nid]?=some none:=hn
  have hev:dec (A.ev (upd e1 (Y.nv+(g.defs.length+2)) (enc (l++[y]))) (.var (Y.nv+(g.defs.length+2))))=l++[y]:=by simp [A.ev,upd,dec_enc]
  obtain ⟨r1,r2⟩:=grow_rep hnm hn' (old:=g.old) (v0:=a.eval s) (v:=.slice (some ⟨gb,0,none⟩) (l.length+1) cap') (w':=w') (r:={x:=.var (Y.nv+(g.defs.length+2)),x0:=.var (Y.nv+(g.defs.length+2)),k:=g.k,elem:=g.elem,own:=true,full:=false }) hgrow
   (by rw [hev];exact ⟨hhas,by simp only [if_true];rw [flat_snoc,v1,List.length_append];exact hown',fun h=>by cases h⟩) ⟨by show Y.nv+(g.defs.length+2)<Y.nv+(g.defs.length+3);omega,trivial⟩ rfl x4 (fun g hg=>by cases hg;exact hat)
  have eq:growS Y nid g o.dst=(({Y with nv:=Y.nv+(g.defs.length+3),boxes:=Sx.noRows Y.boxes g.old.toList }:St).setBox nid (rowBox {x:=.var (Y.nv+(g.defs.length+2)),x0:=.var (Y.nv+(g.defs.length+2)),k:=g.k,elem:=g.elem,own:=true,full:=false })).put o.dst (.vl (.one (.sl nid))):=by
   unfold growS;rw [lset_eq];rfl
  have hnl:nid<(Sx.noRows Y.boxes g.old.toList).length:=by rw [noRows_len];exact (List.getElem?_eq_some_iff.1 hn).1
  have fin:=r1.put (s:=.vl (.one (.sl nid))) (v:=.slice (some ⟨gb,0,none⟩) (l.length+1) cap') ⟨by
   rw [al_setBox];simp [hnl],by simp [M.row],rfl⟩ o.dst
  have hal:∀ (τ:St) (d:Option Nat) (q:SV),(τ.put d q).al=τ.al/\(τ.put d q).nv=τ.nv:=fun τ d q=>by cases d <;> exact ⟨rfl,rfl⟩
  refine hK _ _ _ ?_ (by rw [eq];exact fin) t1
  rw [eq,(hal _ _ _).1,(hal _ _ _).2]
  refine MExt.trans (m':={m with env:=upd e1 (Y.nv+(g.defs.length+2)) (enc (l++[y])) }) (nv':=Y.nv+(g.defs.length+3)) (al':=Y.al) ⟨henv,fun _ _=>rfl,rfl,fun _ _=>rfl,by omega,fun _ h=>h⟩ r2
end
theorem mapO_get {α β:Type} {f:α->Option β}:∀ {l:List α} {q:List β},mapO f l=some q->q.length=l.length/\∀ (j:Nat) x,l[j]?=some x->∃ y,q[j]?=some y/\f x=some y
 | [],q,h=>by simp [mapO] at h;subst h;exact ⟨rfl,by simp⟩
 | x::l,q,h=>by
  unfold mapO at h
  split at h
  ·cases h
  ·rename_i y hy
   split at h
   ·cases h
   ·rename_i ys hys
    cases h
    obtain ⟨h1,h2⟩:=mapO_get hys
    refine ⟨by simp [h1],fun j z hz=>?_⟩
    cases j with
    | zero=>simp at hz;subst hz;exact ⟨y,rfl,hy⟩
    | succ j=>simpa using h2 j z (by simpa using hz)
theorem lIds_mem:∀ {q:List (A×Option Nat)} {j:Nat} {x:A} {id:Nat},q[j]?=some (x,some id)->id∈lIds q:=fun {q j x id} h =>
 List.mem_filterMap.2 ⟨(x,some id),List.mem_of_getElem? h,rfl⟩
theorem unlike_q:∀ (q:List (A×Option Nat)),unlike (lIds q)=true->∀ (j j':Nat) x x' id id',q[j]?=some (x,some id)->q[j']?=some (x',some id')->j≠j'->id≠id'
 | [],_,j,j',x,x',id,id',h,_,_=>by simp at h
 | (x0,none)::q,hu,j,j',x,x',id,id',h,h',hne=>by
  have hu:unlike (lIds q)=true:=hu
  cases j with
  | zero=>simp at h
  | succ j=>cases j' with
   | zero=>simp at h'
   | succ j'=>exact unlike_q q hu j j' x x' id id' (by simpa using h) (by simpa using h') (by omega)
 | (x0,some i)::q,hu,j,j',x,x',id,id',h,h',hne=>by
  have hu:unlike (i::lIds q)=true:=hu
  simp only [unlike,Bool.and_eq_true,Bool.not_eq_true',List.contains_eq_mem,decide_eq_false_iff_not] at hu
  cases j with
  | zero=>cases j' with
   | zero=>exact absurd rfl hne
   | succ j' =>
    simp at h
    have:=lIds_mem (show q[j']?=some (x',some id') by simpa using h')
    intro e
    exact hu.1 (by rw [h.2,e];exact this)
  | succ j=>cases j' with
   | zero =>
    simp at h'
    have:=lIds_mem (show q[j]?=some (x,some id) by simpa using h)
    intro e
    exact hu.1 (by rw [h'.2,<- e];exact this)
   | succ j'=>exact unlike_q q hu.2 j j' x x' id id' (by simpa using h) (by simpa using h') (by omega)
theorem al_room (Y:St) (n:Nat):({Y with boxes:=Y.boxes++List.replicate n none }:St).al=Y.al:=by
 funext id
 unfold St.al
 by_cases hl:id<Y.boxes.length
 ·simp [List.getElem?_append_left hl]
 ·rw [List.getElem?_append_right (by omega),List.getElem?_eq_none (show Y.boxes.length<=id by omega)]
  by_cases h2:id-Y.boxes.length<n
  ·simp [h2]
  ·rw [List.getElem?_eq_none (by simp;omega)]
theorem none_iff {Y:St} {i:Nat}:Y.boxes[i]?=some none↔i<Y.boxes.length/\Y.al i=false:=by
 unfold St.al
 constructor
 ·intro h;exact ⟨(List.getElem?_eq_some_iff.1 h).1,by rw [h]⟩
 ·rintro ⟨h1,h2⟩
  rw [List.getElem?_eq_getElem h1] at h2 ⊢
  cases hb:Y.boxes[i] with
  | none=>rfl
  | some b=>rw [hb] at h2;cases h2
theorem setH_blen (Y:St) (cs:List C) (h:Hp):(setH Y cs h).boxes.length=Y.boxes.length:=by
 cases h <;> simp only [setH] <;> (repeat' split) <;> simp
theorem putH_blen:∀ (hav:List (Hp×List L)) (nn:Nat) (Y:St),(putH Y nn hav).boxes.length=Y.boxes.length
 | [],_,_=>rfl
 | (h,ls)::r,nn,Y=>by simp only [putH];rw [putH_blen r,setH_blen]
theorem kk_lists:∀ (l:List LH) (xs:List Int),xs.length=l.length->(∀ (j:Nat) h x,l[j]?=some h->xs[j]?=some x->h.k.hasL (dec x))->kkHas (l.map fun h=>.lst h.k) xs
 | [],[],_,_=>trivial
 | h::l,x::xs,hl,hx=>⟨hx 0 h x rfl rfl,kk_lists l xs (by simpa using hl) fun j h' x' h1 h2=>hx (j+1) h' x' (by simpa using h1) (by simpa using h2)⟩
 | [],_::_,hl,_=>by simp at hl
 | _::_,[],hl,_=>by simp at hl
theorem addL_same:∀ (l:List LH) (Y:St) (id nn:Nat),(addL Y id nn l).nv=Y.nv/\(addL Y id nn l).kn=Y.kn/\(addL Y id nn l).gl=Y.gl/\(addL Y id nn l).lvl=Y.lvl
 | [],_,_,_=>⟨rfl,rfl,rfl,rfl⟩
 | h::l,Y,id,nn=>addL_same l _ _ _
section
variable {T:List K} {w0:World} {m:M} {Y:St} {a:Act} {w:World}
theorem Rep.setT (h:Rep w0 m Y a w) {t:Nat} {s:SV} {v:Value} (hv:a.tmps[t]?=some v) (hs:s.rel m Y.nv Y.al v):Rep w0 m {Y with tmps:=Y.tmps.set t s } a w:=by
 refine ⟨h.defers,by simp [h.size],fun i u hi=>?_,h.below,h.own,h.ro,h.inj,h.kn,h.gl,h.rows,h.rbox,h.rsep,h.base⟩
 have hi:(Y.tmps.set t s)[i]?=some u:=hi
 by_cases hti:t=i
 ·subst hti
  have hlt:t<Y.tmps.length:=by simpa using (List.getElem?_eq_some_iff.1 hi).1
  rw [List.getElem?_set_self hlt] at hi
  cases hi
  exact ⟨v,hv,hs⟩
 ·rw [List.getElem?_set_ne hti] at hi
  exact h.tmp i u hi
def Apart (m:M) (Y:St) (g:Nat):Prop :=
 (∀ (id:Nat) (b:Box),Y.boxes[id]?=some (some b)->b.own=true->(m.rho id).1≠g) /\
 ∀ (id:Nat) (b:Box) (r:Row),Y.boxes[id]?=some (some b)->b.row=some r->r.own=true->(m.sv id).ownBlock≠some g
def Sepv (vs:List Value):Prop:=∀ (j j':Nat) v v' g,j≠j'->vs[j]?=some v->vs[j']?=some v'->v.ownBlock=some g->v'.ownBlock≠some g
theorem addL_rep:∀ (l:List LH) (Y:St) (id nn:Nat) (m:M) (vs:List Value),Rep w0 m Y a w->(∀ j,j<l.length->Y.boxes[id+j]?=some none)->vs.length=l.length ->
  (∀ (j:Nat) h v,l[j]?=some h->vs[j]?=some v->a.tmps[h.slot]?=some v/\nn+j<Y.nv/\h.k.hasL (dec (m.env (nn+j))) /\
   w.ownsRow w0.heap.size h.elem h.k.sz v (dec (m.env (nn+j))).length (flat h.k (dec (m.env (nn+j))))/\(h.full=true->fullV v)/\∀ g,v.ownBlock=some g->Apart m Y g)->Sepv vs ->
  ∃ m',m'.env=m.env/\MExt m Y.nv Y.al m' (addL Y id nn l).nv (addL Y id nn l).al/\Rep w0 m' (addL Y id nn l) a w:=by
 intro l
 induction l with
 | nil=>intro Y id nn m vs h _ _ _ _;exact ⟨m,rfl,MExt.refl ..,h⟩
 | cons hd l ih =>
  intro Y id nn m vs h hbx hlen hx hsep
  cases vs with
  | nil=>simp at hlen
  | cons v vs =>
   obtain ⟨x1,x2,x3,x4,xf,x5⟩:=hx 0 hd v rfl rfl
   simp only [Nat.add_zero] at x2 x3 x4
   have hn:Y.boxes[id]?=some none:=hbx 0 (by simp)
   have hnl:id<Y.boxes.length:=(List.getElem?_eq_some_iff.1 hn).1
   obtain ⟨bb,cap,hform⟩:=owns_form x4
   obtain ⟨r1,r2⟩:=h.rowIn (nid:=id) hn (row:=v.ownBlock) (w':=w) ⟨rfl,rfl,rfl,Nat.le_refl _,fun _ _ _=>rfl⟩
    (fun k hk=>⟨(x4.lt k hk).1,(x5 k hk).1,(x5 k hk).2⟩) (r:={x:=.var nn,x0:=.var nn,k:=hd.k,elem:=hd.elem,own:=true,full:=hd.full }) (v:=v)
    ⟨x2,trivial⟩ ⟨x2,trivial⟩ rfl ⟨x3,by simp only [if_true];exact x4,xf⟩ (fun g _ hg=>.inl hg)
   have r3:=r1.setT (t:=hd.slot) (s:=.vl (.one (.sl id))) x1 ⟨by rw [al_setBox];simp [hnl],by simp [M.row],by rw [hform];rfl⟩
   have hih:=ih _ (id+1) (nn+1) (m.row id v) vs r3 (fun j hj=>?_) (by simpa using hlen) (fun j h' v' hh hv=>?_) (fun j j' u u' g hne hu hu'=>hsep (j+1) (j'+1) u u' g (by omega) (by simpa using hu) (by simpa using hu'))
   ·obtain ⟨m',e1,e2,e3⟩:=hih
    exact ⟨m',e1,r2.trans e2,e3⟩
   ·have:=hbx (j+1) (by simpa using hj)
    rw [show id+(j+1)=id+1+j by omega] at this
    show (Y.boxes.set id _)[id+1+j]?=_
    rw [List.getElem?_set_ne (by omega)];exact this
   ·obtain ⟨y1,y2,y3,y4,yf,y5⟩:=hx (j+1) h' v' (by simpa using hh) (by simpa using hv)
    rw [show nn+(j+1)=nn+1+j by omega] at y2 y3 y4
    refine ⟨y1,y2,y3,y4,yf,fun g hg=>⟨fun i b hi hbo=>?_,fun i b r hi hr hro=>?_⟩⟩
    ·have hi:(Y.boxes.set id (some (rowBox {x:=.var nn,x0:=.var nn,k:=hd.k,elem:=hd.elem,own:=true,full:=hd.full })))[i]?=some (some b):=hi
     by_cases hin:id=i
     ·subst hin
      rw [List.getElem?_set_self hnl] at hi
      cases hi;cases hbo
     ·rw [List.getElem?_set_ne hin] at hi
      exact (y5 g hg).1 i b hi hbo
    ·have hi:(Y.boxes.set id (some (rowBox {x:=.var nn,x0:=.var nn,k:=hd.k,elem:=hd.elem,own:=true,full:=hd.full })))[i]?=some (some b):=hi
     by_cases hin:id=i
     ·subst hin
      have:(m.row id v).sv id=v:=by simp [M.row]
      rw [this]
      intro e
      exact hsep 0 (j+1) v v' g (by omega) rfl (by simpa using hv) e hg
     ·rw [List.getElem?_set_ne hin] at hi
      have:(m.row id v).sv i=m.sv i:=by simp [M.row,Ne.symm hin]
      rw [this]
      exact (y5 g hg).2 i b r hi hr hro
theorem takeL_ok (h:Rep w0 m Y a w) {l:LH} {x:A} {o:Option Nat} (ht:takeL Y l=some (x,o)) :
  ∃ v,a.tmps[l.slot]?=some v/\x.wf Y.nv m.env/\l.k.hasL (dec (x.ev m.env))/\w.ownsRow w0.heap.size l.elem l.k.sz v (dec (x.ev m.env)).length (flat l.k (dec (x.ev m.env)))/\(l.full=true->fullV v) /\
   ((o=none->v.ownBlock=none)/\∀ id,o=some id->∃ b r,Y.boxes[id]?=some (some b)/\b.row=some r/\r.own=true/\v=m.sv id):=by
 unfold takeL at ht
 split at ht
 ·rename_i hs
  cases ht
  obtain ⟨v,hv,hr⟩:=h.tmp _ _ hs
  have hr:v=.slice none 0 0:=hr
  subst hr
  refine ⟨_,hv,⟨trivial,trivial⟩,?_,?_,fun _=>rfl,fun _=>rfl,fun _ h=>by cases h⟩
  ·simp only [A.ev,dec_zero];exact ⟨by simp,by simp⟩
  ·simp only [A.ev,dec_zero];exact World.ownsRow_nil ..
 ·rename_i id hs
  split at ht
  ·rename_i r hr
   split at ht
   ·rename_i hc
    simp only [Bool.and_eq_true,beq_iff_eq] at hc
    obtain ⟨⟨⟨hc1,hc2⟩,hc3⟩,hc4⟩:=hc
    cases ht
    obtain ⟨v,hv,hrel⟩:=h.tmp _ _ hs
    have hrel:Y.al id=true/\v=m.sv id/\v.oneCell'=true:=hrel
    obtain ⟨b,hb,hbr⟩:=row_box hr
    obtain ⟨q1,q2,_,_,q3⟩:=h.row_ok hr
    have q4:=q3.2.1
    rw [hc1] at q4
    simp only [if_true] at q4
    have hk:=LKeq_ok hc3
    refine ⟨v,hv,q2,by rw [<- hk];exact q3.1,by rw [<- hk,<- hc2,hrel.2.1];exact q4,fun hf=>by rw [hrel.2.1];exact q3.2.2 (by simpa [hf] using hc4),(fun h=>by cases h),fun i hi=>?_⟩
    cases hi
    exact ⟨b,r,hb,hbr,hc1,hrel.2.1⟩
   ·cases ht
  ·cases ht
 ·cases ht
structure FromRow (ms mt:M) (σs σt:St) (ids:List Nat):Prop where
 box:∀ (id:Nat) (b:Box),σt.boxes[id]?=some (some b)->b.own=true->∃ b',σs.boxes[id]?=some (some b')/\b'.own=true/\mt.rho id=ms.rho id
 row:∀ (id:Nat) (b:Box) (r:Row),σt.boxes[id]?=some (some b)->b.row=some r->r.own=true->id ∉ ids/\(∃ b',σs.boxes[id]?=some (some b')/\b'.row=some r)/\mt.sv id=ms.sv id
theorem apart_of {mt:M} {σt:St} {ids:List Nat} (h:Rep w0 m Y a w) (hf:FromRow m mt Y σt ids) {id:Nat} {b:Box} {r:Row} (hb:Y.boxes[id]?=some (some b)) (hr:b.row=some r) (ho:r.own=true) (hid:id∈ids) {g:Nat} (hg:(m.sv id).ownBlock=some g):Apart mt σt g:=by
 refine ⟨fun i c hi hc=>?_,fun i c q hi hq hqo=>?_⟩
 ·obtain ⟨b',k1,k2,k3⟩:=hf.box i c hi hc
  intro e
  exact h.rbox id b r hb hr ho i b' k1 k2 (by rw [hg,<- k3,e])
 ·obtain ⟨k1,⟨b',k2,k3⟩,k4⟩:=hf.row i c q hi hq hqo
  rw [k4]
  rcases h.rsep id b r i b' q hb hr k2 k3 ho hqo (fun e=>k1 (e▸hid)) with h1 | h1
  ·rw [hg] at h1;cases h1
  ·rw [hg] at h1;exact h1
theorem lists_ok (h:Rep w0 m Y a w) {l:List LH} {q:List (A×Option Nat)} (hq:mapO (takeL Y) l=some q) (hu:unlike (lIds q)=true) {mt:M} {σt:St} (hf:FromRow m mt Y σt (lIds q)) :
  ∃ vs:List Value,vs.length=l.length/\Sepv vs/\∀ (j:Nat) hj v,l[j]?=some hj->vs[j]?=some v->∃ x o,q[j]?=some (x,o)/\a.tmps[hj.slot]?=some v/\x.wf Y.nv m.env/\hj.k.hasL (dec (x.ev m.env)) /\
   w.ownsRow w0.heap.size hj.elem hj.k.sz v (dec (x.ev m.env)).length (flat hj.k (dec (x.ev m.env)))/\(hj.full=true->fullV v)/\∀ g,v.ownBlock=some g->Apart mt σt g:=by
 obtain ⟨q1,q2⟩:=mapO_get hq
 have fact:∀ (j:Nat) hj v,l[j]?=some hj->(l.map fun h=>(a.tmps[h.slot]?).getD default)[j]?=some v->∃ x o,q[j]?=some (x,o)/\a.tmps[hj.slot]?=some v/\x.wf Y.nv m.env/\hj.k.hasL (dec (x.ev m.env)) /\
   w.ownsRow w0.heap.size hj.elem hj.k.sz v (dec (x.ev m.env)).length (flat hj.k (dec (x.ev m.env)))/\(hj.full=true->fullV v)/\((o=none->v.ownBlock=none)/\∀ id,o=some id->∃ b r,Y.boxes[id]?=some (some b)/\b.row=some r/\r.own=true/\v=m.sv id):=by
  intro j hj v h1 h2
  obtain ⟨⟨x,o⟩,h3,h4⟩:=q2 j hj h1
  obtain ⟨v',k1,k2,k3,k4,kf,k5⟩:=takeL_ok h h4
  have:v'=v:=by
   rw [List.getElem?_map,h1] at h2
   simp [k1] at h2
   exact h2
  subst this
  exact ⟨x,o,h3,k1,k2,k3,k4,kf,k5⟩
 refine ⟨l.map fun h=>(a.tmps[h.slot]?).getD default,by simp,fun j j' v v' g hne h1 h2 hg hg'=>?_,fun j hj v h1 h2=>?_⟩
 ·have l1:j<l.length:=by simpa using (List.getElem?_eq_some_iff.1 h1).1
  have l2:j'<l.length:=by simpa using (List.getElem?_eq_some_iff.1 h2).1
  obtain ⟨x,o,k1,k2,_,_,_,_,k3⟩:=fact j _ v (List.getElem?_eq_getElem l1) h1
  obtain ⟨x',o',k1',k2',_,_,_,_,k3'⟩:=fact j' _ v' (List.getElem?_eq_getElem l2) h2
  cases o with
  | none=>rw [k3.1 rfl] at hg;cases hg
  | some id=>cases o' with
   | none=>rw [k3'.1 rfl] at hg';cases hg'
   | some id' =>
    obtain ⟨b,r,c1,c2,c3,c4⟩:=k3.2 id rfl
    obtain ⟨b',r',d1,d2,d3,d4⟩:=k3'.2 id' rfl
    rcases h.rsep id b r id' b' r' c1 c2 d1 d2 c3 d3 (unlike_q q hu j j' x x' id id' k1 k1' hne) with e | e
    ·rw [<- c4,hg] at e;cases e
    ·rw [<- c4,<- d4,hg,hg'] at e;exact e rfl
 ·obtain ⟨x,o,k1,k2,k3,k4,k5,kf,k6⟩:=fact j hj v h1 h2
  refine ⟨x,o,k1,k2,k3,k4,k5,kf,fun g hg=>?_⟩
  cases o with
  | none=>rw [k6.1 rfl] at hg;cases hg
  | some id =>
   obtain ⟨b,r,c1,c2,c3,c4⟩:=k6.2 id rfl
   exact apart_of h hf c1 c2 c3 (lIds_mem k1) (by rw [<- c4];exact hg)
end
section
variable {P:Program} {T:List K} {w0:World} {m:M} {Y:St} {a:Act} {w:World} {o:Oper}
theorem zeroK_ok {k:LK} {z:Value} (h:zeroK k z=true):z.cells.toList=k.vals 0/\∀ l ls,k≠.tup l ls:=by
 unfold zeroK at h
 split at h
 ·cases h
 ·cases h
 ·rename_i hk _
  split at h
  ·rename_i v hv
   split at h
   ·rename_i n htk
    have hn:n=0:=by simpa using h
    subst hn
    obtain ⟨r1,r2⟩:=vOf_rel (m:=⟨fun _=>0,fun _=>(0,0),{base:=default },fun _=>.nilFunc⟩) (nv:=0) (al:=fun _=>false) hv
    obtain ⟨vs,g1,g2,_⟩:=V.rel_cells r1 r2
    obtain ⟨_,_,k3⟩:=takeLs_ok (T:=[]) _ _ _ _ _ htk _ 0 vs g2
    have:=(k3 (fun _=>0) (fun _ _=>rfl) (fun i kk d hi=>by simp at hi)).1
    rw [List.map_cons,List.map_nil,leaf_vals hk] at this
    rw [g1]
    exact ⟨by simpa [A.ev] using this.symm,hk⟩
   ·cases h
  ·cases h
theorem made_flat {k:LK} {z:Value} (hz:z.cells.toList=k.vals 0) (n:Nat):(madeCells z.cells (n*k.sz)).toList=flat k (List.replicate n 0):=by
 have h1:flat k (List.replicate n 0)=(List.replicate n (k.vals 0)).flatten:=by
  simp [flat,List.flatMap,List.map_replicate]
 have hl:(k.vals 0).length=k.sz:=vals_len k 0
 have hs:z.cells.size=(k.vals 0).length:=by rw [<- hz];simp
 rw [h1,<- range_mod,hl]
 unfold madeCells
 rw [Array.toList_map,Array.toList_range]
 refine List.map_congr_left fun i _=>?_
 rw [hs,hl,<- hz]
 simp [Array.getElem!_eq_getD,Array.getD_eq_getD_getElem?,List.getD_eq_getElem?_getD]
structure MakeSpec (P:Program) (Y:St) (o:Oper) (g:Made) (t:TypeId) (l c:Operand) (i:TypeInfo) (z:Value) (kl kc:IntKind):Prop where
 op:o.op=.makeSlice t l c
 und:P.underlying t=some (.slice g.elem)
 info:P.info? g.elem=some i
 zero:i.zero=some z
 size:i.size=g.k.sz
 bytes:i.bytes<=16384
 zk:zeroK g.k z=true
 cl:Y.cell l=some (.int kl g.a)
 cc:Y.cell c=some (.int kc g.a)
theorem make_spec {g:Made} (h:makeP P Y o.op=some g):∃ t l c i z kl kc,MakeSpec P Y o g t l c i z kl kc:=by
 unfold makeP at h
 split at h
 ·rename_i t l c hop
  split at h
  ·rename_i e hu
   split at h
   ·rename_i i k hi hk
    split at h
    ·rename_i z hz
     split at h
     ·rename_i hcond
      simp only [Bool.and_eq_true,beq_iff_eq,decide_eq_true_eq] at hcond
      split at h
      ·rename_i kl a' kc b' hl hc
       split at h
       ·rename_i hab
        have:=eqA_ok hab
        subst this
        cases h
        exact ⟨t,l,c,i,z,kl,kc,hop,hu,hi,hz,hcond.1.1.2,hcond.1.2,hcond.2,hl,hc⟩
       ·cases h
      ·cases h
     ·cases h
    ·cases h
   ·cases h
  ·cases h
 ·cases h
theorem LK.has_zero (k:LK) (hk:∀ l ls,k≠.tup l ls):k.has 0:=by
 cases k with
 | num=>simp [LK.has,N384]
 | int k=>exact Sx.has_zero k
 | tup l ls=>exact absurd rfl (hk l ls)
 | byt=>simp [LK.has,dec_zero]
theorem make_ok (hR:Rep w0 m Y a w) {nid:Nat} (hn:Y.boxes[nid]?=some none) {g:Made} (hg:makeP P Y o.op=some g) {goal:Gl} {t:Tree} {K:Act->World->Prop} {Q:Exit->Act->World->Prop}
  (hh:(letts Y.nv [(.bit,.cmp .leq (.lit 0) g.a),(.bit,.cmp .lss g.a (.lit 4294967296))] (.nz (.var Y.nv) (.nz (.var (Y.nv+1)) (.lett (Y.nv+2) (.lst g.k) (.lrep g.a (.lit 0)) t)))).holds T goal m.env)
  (hK:∀ m' a' w',MExt m Y.nv Y.al m' (makeS Y nid g o.dst).nv (makeS Y nid g o.dst).al->Rep w0 m' (makeS Y nid g o.dst) a' w'->t.holds T goal m'.env->K a' w'):o.wp P a w K Q:=by
 obtain ⟨ty,l,c,i,z,kl,kc,G⟩:=make_spec hg
 obtain ⟨l1,l2,l3⟩:=hR.cell G.cl
 obtain ⟨c1,c2,c3⟩:=hR.cell G.cc
 have gen:GenOk T m.env Y.nv [(.bit,.cmp .leq (.lit 0) g.a),(.bit,.cmp .lss g.a (.lit 4294967296))] :=
  ⟨⟨trivial,l1.1⟩,b2i_bit _,⟨A.ok_mono l1.1 (by omega),trivial⟩,b2i_bit _,trivial⟩
 obtain ⟨e1,b1,b2,b3,b4⟩:=letts_holds _ _ _ hh gen
 have hae:g.a.ev e1=g.a.ev m.env:=A.ev_congr l1.1 b1
 have d0:e1 Y.nv=b2i (decide (0<=g.a.ev e1)):=(b3 0 _ _ rfl).1
 have d1:e1 (Y.nv+1)=b2i (decide (g.a.ev e1<4294967296)):=(b3 1 _ _ rfl).1
 obtain ⟨z0,z1,lt⟩:=b4
 have z0:e1 Y.nv≠0:=z0
 have z1:e1 (Y.nv+1)≠0:=z1
 have y0:0<=g.a.ev e1:=bit_yes (by rw [<- d0];exact z0)
 have y1:g.a.ev e1<4294967296:=bit_yes (by rw [<- d1];exact z1)
 rw [hae] at y0 y1
 obtain ⟨n,hnn⟩:=Int.eq_ofNat_of_zero_le y0
 have hd:D.ev T e1 (.lrep g.a (.lit 0))=enc (List.replicate n 0):=by
  show enc (List.replicate (g.a.ev e1).toNat 0)=_
  rw [hae,hnn];rfl
 have hhas:g.k.hasL (List.replicate n 0):=⟨by rw [List.length_replicate];omega,fun q hq=>by rw [(List.mem_replicate.1 hq).2];exact g.k.has_zero (zeroK_ok G.zk).2⟩
 have t1:=lt (enc (List.replicate n 0)) hd.symm (by simp only [KK.has,dec_enc];exact hhas)
 have henv:∀ j,j<Y.nv->upd e1 (Y.nv+2) (enc (List.replicate n 0)) j=m.env j:=fun j hj=>by
  simp only [upd];rw [if_neg (by omega)];exact b1 j hj
 have hnm:=hR.names _ henv (Y.nv+3) (by omega)
 have hbytes:i.bytes*n<=281474976710656:=by
  have h1:i.bytes*n<=16384*4294967296:=Nat.mul_le_mul G.bytes (by omega)
  omega
 obtain ⟨w',hrun,hown,hgrow⟩:=run_make_full (P:=P) w w0.heap.size ty g.elem i z g.k.sz G.und G.info G.zero G.size kl kc n hbytes (by simp only [maxLen];omega) hR.below.size
 rw [made_flat (zeroK_ok G.zk).1] at hown
 have hbel:Below w.heap.size w w':=⟨hgrow.os,hgrow.tape,hgrow.output,hgrow.size,fun k hk=>hgrow.block k hk (by simp)⟩
 have hn':({Y with nv:=Y.nv+3 }:St).boxes[nid]?=some none:=hn
 have hev:dec (A.ev (upd e1 (Y.nv+2) (enc (List.replicate n 0))) (.var (Y.nv+2)))=List.replicate n 0:=by simp [A.ev,upd,dec_enc]
 obtain ⟨r1,r2⟩:=hnm.newRow hn' hbel (r:={x:=.var (Y.nv+2),x0:=.var (Y.nv+2),k:=g.k,elem:=g.elem,own:=true,full:=true }) (v:=.slice (some ⟨w.heap.size,0,none⟩) n n)
  ⟨by show Y.nv+2<Y.nv+3;omega,trivial⟩ ⟨by show Y.nv+2<Y.nv+3;omega,trivial⟩ rfl
  (by simp only [hev];exact ⟨hhas,by simp only [if_true,List.length_replicate];exact hown,fun _=>rfl⟩) (fun b _ hb=>by cases hb;exact Nat.le_refl _)
 have hnl:nid<Y.boxes.length:=(List.getElem?_eq_some_iff.1 hn).1
 have eq:makeS Y nid g o.dst=(({Y with nv:=Y.nv+3 }:St).setBox nid (rowBox {x:=.var (Y.nv+2),x0:=.var (Y.nv+2),k:=g.k,elem:=g.elem,own:=true,full:=true })).put o.dst (.vl (.one (.sl nid))):=by
  unfold makeS;rw [lset_eq];rfl
 have fin:=r1.put (s:=.vl (.one (.sl nid))) (v:=.slice (some ⟨w.heap.size,0,none⟩) n n) ⟨by
  rw [al_setBox];simp [hnl],by simp [M.row],rfl⟩ o.dst
 have hal:∀ (τ:St) (d:Option Nat) (q:SV),(τ.put d q).al=τ.al/\(τ.put d q).nv=τ.nv:=fun τ d q=>by cases d <;> exact ⟨rfl,rfl⟩
 unfold Oper.wp
 have hex:(execOp a.eval o).run P w=.ok (.value (.slice (some ⟨w.heap.size,0,none⟩) n n)) w':=by
  simp only [execOp,G.op,l3,c3,hnn]
  simp [hrun]
 rw [hex]
 refine hK _ _ _ ?_ (by rw [eq];exact fin) t1
 rw [eq,(hal _ _ _).1,(hal _ _ _).2]
 exact MExt.trans (m':={m with env:=upd e1 (Y.nv+2) (enc (List.replicate n 0)) }) (nv':=Y.nv+3) (al':=Y.al) ⟨henv,fun _ _=>rfl,rfl,fun _ _=>rfl,by omega,fun _ h=>h⟩ r2
theorem run_copy_any (w:World) (dT sT ty elem:TypeId) (g dLen dCap:Nat) (ad:Addr) (sLen sCap sz:Nat) (cur:Array Value) (t:TypeId) (cs:List Value)
  (hu:P.underlying dT=some (.slice elem)) (hs:szOf P elem=some sz) (hg:w.heap[g]?=some (.cells cur t (0,0))) (hn:cs.length=Nat.min sLen dLen*sz)
  (hsrc:∀ j v,cs[j]?=some v->w.cell? (ad.add j)=some v) (hfit:cs.length<=cur.size) (h1:∀ v∈cs,v.oneCell'=true) :
  (Builtin.copy_ #[dT,sT] ty #[.slice (some ⟨g,0,none⟩) dLen dCap,.slice (some ad) sLen sCap]).run P w =
   .ok (goInt (Nat.min sLen dLen)) (w.setRow g (cs++cur.toList.drop cs.length).toArray):=by
 have hl:=run_loadCells_list (P:=P) w ad cs hsrc
 have hst:=run_storeCells_at P g 0 t cs 0 cur w hg (by simpa using hfit) h1
 simp only [Nat.add_zero,Nat.zero_add,List.take_zero,List.nil_append] at hst
 simp [Builtin.copy_,run_underlying hu,Builtin.lenOf,Builtin.firstCells,run_sizeOf hs,<- hn,hl,hst]
theorem run_copy_zero (w:World) (dT sT ty elem:TypeId) (ad:Addr) (dLen dCap sz:Nat) (hu:P.underlying dT=some (.slice elem)) (hs:szOf P elem=some sz) :
  (Builtin.copy_ #[dT,sT] ty #[.slice (some ad) dLen dCap,.slice none 0 0]).run P w=.ok (goInt 0) w:=by
 simp [Builtin.copy_,run_underlying hu,Builtin.lenOf,Builtin.firstCells,run_sizeOf hs,storeCells]
structure CopySpec (P:Program) (Y:St) (nn:Nat) (o:Oper) (g:Copy) (t t':TypeId) (d s:Operand) (e:TypeId) (v:V):Prop where
 op:o.op=.call {callee:=.builtin .copy,args:=#[d,s],argTypes:=#[t,t'] }
 und:P.underlying t=some (.slice e)
 cell:Y.cell d=some (.sl g.id)
 box:Y.boxes[g.id]?=some (some g.b)
 row:g.b.row=some g.r
 own:g.r.own=true
 size:szOf P e=some g.r.k.sz
 src:Y.v s=some v
 take:takeSh Y nn (.lst g.r.k) v=some (g.defs,[g.y])
theorem copy_spec {nn:Nat} {g:Copy} (h:copyP P Y nn o.op=some g):∃ t t' d s e v,CopySpec P Y nn o g t t' d s e v:=by
 unfold copyP at h
 split at h
 ·rename_i c hop
  split at h
  ·rename_i t t' d s hc ht hx
   split at h
   ·rename_i e id hu hcd
    split at h
    ·rename_i b z hb hz
     split at h
     ·rename_i r hr
      split at h
      ·rename_i hcond
       simp only [Bool.and_eq_true,beq_iff_eq] at hcond
       split at h
       ·rename_i ds y hsrc
        cases h
        unfold srcK at hsrc
        split at hsrc
        ·rename_i v hv
         split at hsrc
         ·rename_i ds' y' htk
          cases hsrc
          refine ⟨t,t',d,s,e,v,?_,hu,hcd,box_some hb,hr,hcond.1,by rw [hz,hcond.2],hv,htk⟩
          rw [hop]
          obtain ⟨callee,args,tys⟩:=c
          simp only at hc ht hx
          subst hc
          have ea:args=#[d,s]:=Array.ext' (by simpa using hx)
          have et:tys=#[t,t']:=Array.ext' (by simpa using ht)
          rw [ea,et]
         ·cases hsrc
        ·cases hsrc
       ·cases h
      ·cases h
     ·cases h
    ·cases h
   ·cases h
  ·cases h
 ·cases h
theorem copy_ok (hR:Rep w0 m Y a w) {g:Copy} (hg:copyP P Y Y.nv o.op=some g) {goal:Gl} {t:Tree} {K:Act->World->Prop} {Q:Exit->Act->World->Prop}
  (hh:(letts Y.nv (g.defs++[(.int .i64,.llen g.r.x0),(.bit,.cmp .lss (.lit 0) (.var (Y.nv+g.defs.length)))]) (.nz (.var (Y.nv+(g.defs.length+1)))
 (.lett (Y.nv+(g.defs.length+2)) (.lst g.r.k) (.lcpy g.r.x g.y) t))).holds T goal m.env)
  (hK:∀ m' a' w',MExt m Y.nv Y.al m' (copyS Y g o.dst).nv (copyS Y g o.dst).al->Rep w0 m' (copyS Y g o.dst) a' w'->t.holds T goal m'.env->K a' w'):o.wp P a w K Q:=by
 obtain ⟨ty,ty',d,s,e,v,G⟩:=copy_spec hg
 obtain ⟨q1,q2,q6,q3⟩:=hR.rows g.id g.b g.r G.box G.row
 have hd:Y.al g.id=true/\a.eval d=m.sv g.id/\(a.eval d).oneCell'=true:=hR.cell G.cell
 obtain ⟨k1,k2,k3⟩:=takeSh_ok (T:=T) G.take hR (hR.v_ G.src)
 obtain ⟨k1,k4⟩:=k1 (Nat.le_refl _)
 generalize hl:dec (g.r.x.ev m.env)=l at q3 q6
 have hlmax:=q3.1.1
 have gen:GenOk T m.env Y.nv (g.defs++[(.int .i64,.llen g.r.x0),(.bit,.cmp .lss (.lit 0) (.var (Y.nv+g.defs.length)))]):=by
  refine gen_append _ _ _ _ k1 fun e' he _=>⟨A.ok_mono q2.1 (by omega),?_,⟨trivial,Nat.lt_succ_self _⟩,b2i_bit _,trivial⟩
  simp only [KK.has,D.ev]
  rw [A.ev_congr q2.1 he,q6]
  simp only [has,lo,hi];omega
 obtain ⟨e1,b1,b2,b3,b4⟩:=letts_holds _ _ _ hh gen
 obtain ⟨c1,c2⟩:=(Told.append).1 b3
 have hxe:g.r.x.ev e1=g.r.x.ev m.env:=A.ev_congr q1.1 b1
 have hx0e:g.r.x0.ev e1=g.r.x0.ev m.env:=A.ev_congr q2.1 b1
 have d0:e1 (Y.nv+g.defs.length)=(l.length:Int):=by
  have:=(c2 0 _ _ rfl).1
  simpa [D.ev,hx0e,q6] using this
 have d1:e1 (Y.nv+g.defs.length+1)=b2i (decide (0<e1 (Y.nv+g.defs.length))):=(c2 1 _ _ rfl).1
 obtain ⟨nzf,lt⟩:=b4
 have hpos:0<l.length:=by
  have h0:e1 (Y.nv+g.defs.length+1)≠0:=nzf
  have:=bit_yes (b:=0<e1 (Y.nv+g.defs.length)) (by rw [<- d1];exact h0)
  omega
 obtain ⟨hy1,hy2⟩:=k3 e1 b1 c1
 simp only [List.map_cons,List.map_nil,Sh.leaves,lhas,Sh.rel,List.headD_cons] at hy1 hy2
 generalize hye:dec (g.y.ev e1)=y at hy1 hy2
 have hde:D.ev T e1 (.lcpy g.r.x g.y)=enc (y.take l.length++l.drop y.length):=by simp only [D.ev,hxe,hl,hye]
 have hhas:g.r.k.hasL (y.take l.length++l.drop y.length):=by
  refine ⟨?_,fun q hq=>?_⟩
  ·simp only [List.length_append,List.length_take,List.length_drop];omega
  ·rcases List.mem_append.1 hq with hq | hq
   ·exact hy1.1.2 q (List.mem_of_mem_take hq)
   ·exact q3.1.2 q (List.mem_of_mem_drop hq)
 have hlen':(y.take l.length++l.drop y.length).length=l.length:=by
  simp only [List.length_append,List.length_take,List.length_drop];omega
 have t1:=lt (enc (y.take l.length++l.drop y.length)) hde.symm (by simp only [KK.has,dec_enc];exact hhas)
 have henv:∀ j,j<Y.nv->upd e1 (Y.nv+(g.defs.length+2)) (enc (y.take l.length++l.drop y.length)) j=m.env j:=fun j hj=>by
  simp only [upd];rw [if_neg (by omega)];exact b1 j hj
 have hnm:=hR.names _ henv (Y.nv+(g.defs.length+3)) (by omega)
 have hev:dec (A.ev (upd e1 (Y.nv+(g.defs.length+2)) (enc (y.take l.length++l.drop y.length))) (.var (Y.nv+(g.defs.length+2))))=y.take l.length++l.drop y.length:=by simp [A.ev,upd,dec_enc]
 have hxn:g.r.x.ev (upd e1 (Y.nv+(g.defs.length+2)) (enc (y.take l.length++l.drop y.length)))=g.r.x.ev m.env:=A.ev_congr q1.1 henv
 have q4:=q3.2.1
 rw [G.own] at q4
 simp only [if_true] at q4
 rcases q4.2 with ⟨hv,hn⟩ | ⟨gb,cap,cur,hv,hbase,hgb,hc1,hc2,hc3,hc4⟩
 ·omega
 have hfl:(flat g.r.k l).length=l.length*g.r.k.sz:=flat_len _ _
 have hcs:(flat g.r.k (y.take l.length)).length=Nat.min y.length l.length*g.r.k.sz:=by
  rw [flat_len,List.length_take,Nat.min_comm]
 have hfit:(flat g.r.k (y.take l.length)).length<=cur.size:=by
  rw [hcs,hc3]
  exact Nat.mul_le_mul_right _ (Nat.le_trans (Nat.min_le_right _ _) hc1)
 have hrun:(Builtin.copy_ #[ty,ty'] o.type #[a.eval d,a.eval s]).run P w=.ok (goInt (Nat.min y.length l.length)) (w.setRow gb (flat g.r.k (y.take l.length)++cur.toList.drop (flat g.r.k (y.take l.length)).length).toArray):=by
  rw [hd.2.1,hv]
  rcases hy2 with ⟨hs,hy0⟩ | ⟨ad,scap,hs,hb,hsc,hcell⟩
  ·rw [hs,hy0]
   have:=run_copy_zero (P:=P) w ty ty' o.type e ⟨gb,0,none⟩ l.length cap g.r.k.sz G.und G.size
   simp only [List.length_nil,List.take_nil]
   rw [this]
   have e2:flat g.r.k ([]:List Int)=[]:=rfl
   rw [e2]
   simp only [List.length_nil,List.drop_zero,List.nil_append,Array.toArray_toList]
   rw [setRow_self w gb cur _ (0,0) hgb]
   simp
  ·rw [hs]
   refine run_copy_any (P:=P) w ty ty' o.type e gb l.length cap ad y.length scap g.r.k.sz cur g.r.elem _ G.und G.size hgb hcs (fun j u hj=>?_) hfit (flat_one _ _)
   refine hcell j u ?_
   rw [flat_take,List.getElem?_take] at hj
   split at hj
   ·exact hj
   ·cases hj
 have hex:(execOp a.eval o).run P w=.ok (.value (goInt (Nat.min y.length l.length))) (w.setRow gb (flat g.r.k (y.take l.length)++cur.toList.drop (flat g.r.k (y.take l.length)).length).toArray):=by
  simp only [execOp,G.op,resolve]
  simp only [invoke,builtin,Sem.run_bind,Sem.run_pure,Result.andThen_ok,List.map_toArray,List.map_cons,List.map_nil,hrun]
 unfold Oper.wp
 rw [hex]
 have hbox':({Y with nv:=Y.nv+(g.defs.length+3) }:St).boxes[g.id]?=some (some g.b):=G.box
 have hat:RowAt w0 (w.setRow gb (flat g.r.k (y.take l.length)++cur.toList.drop (flat g.r.k (y.take l.length)).length).toArray) {g.r with x:=.var (Y.nv+(g.defs.length+2)) } (m.sv g.id) (y.take l.length++l.drop y.length):=by
  refine ⟨hhas,?_,q3.2.2⟩
  simp only [G.own,if_true]
  refine ⟨by rw [flat_len],.inr ⟨gb,cap,_,by rw [hlen'];exact hv,hbase,setRow_heap w _ _ _ _ _ hgb,by rw [hlen'];exact hc1,hc2,?_,?_⟩⟩
  ·simp only [List.size_toArray,List.length_append,List.length_drop,Array.length_toList];omega
  ·rw [hlen',List.toList_toArray,flat_append,flat_drop,<- hc4]
   have hle:(flat g.r.k (y.take l.length)).length<=l.length*g.r.k.sz:=by rw [hcs];exact Nat.mul_le_mul_right _ (Nat.min_le_right _ _)
   rw [List.take_append,List.take_of_length_le hle]
   congr 1
   rw [hcs,<- List.drop_take]
   by_cases hyl:y.length<=l.length
   ·rw [show Nat.min y.length l.length=y.length from Nat.min_eq_left hyl]
   ·have e1:Nat.min y.length l.length=l.length:=Nat.min_eq_right (by omega)
    rw [e1,List.drop_of_length_le (by rw [List.length_take];omega),List.drop_of_length_le]
    rw [List.length_take]
    have:=Nat.mul_le_mul_right g.r.k.sz (show l.length<=y.length by omega)
    omega
 have r1:=hnm.wrRow hbox' G.row G.own (g:=gb) (x:=.var (Y.nv+(g.defs.length+2))) (by show (m.sv g.id).ownBlock=some gb;rw [hv];rfl) ⟨by show Y.nv+(g.defs.length+2)<Y.nv+(g.defs.length+3);omega,trivial⟩
  (by rw [hev,hlen'];simp only [hxn,hl]) (by rw [hev];exact hat)
 have fin:=r1.put (s:=.vl (.one .top)) (v:=goInt (Nat.min y.length l.length)) trivial o.dst
 have eq:copyS Y g o.dst=(({Y with nv:=Y.nv+(g.defs.length+3) }:St).setBox g.id (g.b.upd (.row (.var (Y.nv+(g.defs.length+2)))))).put o.dst (.vl (.one .top)):=by
  unfold copyS;rw [lset_eq];rfl
 have hal:∀ (τ:St) (d:Option Nat) (q:SV),(τ.put d q).al=τ.al/\(τ.put d q).nv=τ.nv:=fun τ d q=>by cases d <;> exact ⟨rfl,rfl⟩
 have hals:(({Y with nv:=Y.nv+(g.defs.length+3) }:St).setBox g.id (g.b.upd (.row (.var (Y.nv+(g.defs.length+2)))))).al=Y.al:=by
  funext i
  rw [al_setBox]
  split
  ·rename_i hi;rw [hi.1];exact (al_iff.2 ⟨g.b,G.box⟩).symm
  ·rfl
 refine hK _ _ _ ?_ (by rw [eq];exact fin) t1
 rw [eq,(hal _ _ _).1,(hal _ _ _).2,hals]
 exact ⟨henv,fun _ _=>rfl,rfl,fun _ _=>rfl,by show Y.nv<=Y.nv+(g.defs.length+3);omega,fun _ h=>h⟩
end
section
variable {P:Program} {T:List K} {w0:World} {m:M} {Y:St} {a:Act} {w:World}
theorem dropB_get {bs:List (Option Box)} {id i:Nat} {b:Box} (h:(dropB bs id)[i]?=some (some b)):∃ b',bs[i]?=some (some b')/\b'.elem=b.elem/\b'.row=b.row/\(b'.cells=b.cells/\b'.own=b.own/\i≠id∨b.cells=[]/\b.own=false):=by
 unfold dropB at h
 rw [lget?_eq] at h
 split at h
 ·rename_i b0 hb0
  rw [lset_eq] at h
  by_cases hi:id=i
  ·subst hi
   have hl:id<bs.length:=(List.getElem?_eq_some_iff.1 hb0).1
   simp [hl] at h
   subst h
   exact ⟨b0,hb0,rfl,rfl,.inr ⟨rfl,rfl⟩⟩
  ·rw [List.getElem?_set_ne hi] at h
   exact ⟨b,h,rfl,rfl,.inl ⟨rfl,rfl,fun e=>hi e.symm⟩⟩
 ·rename_i hn
  exact ⟨b,h,rfl,rfl,.inl ⟨rfl,rfl,fun e=>hn b (by rw [<- e];exact h)⟩⟩
theorem dropB_fz {bs:List (Option Box)} {id i:Nat} {b:Box} (h:(dropB bs id)[i]?=some (some b)):∃ b',bs[i]?=some (some b')/\b'.fz=b.fz:=by
 unfold dropB at h
 simp only [lget?_eq,lset_eq] at h
 split at h
 ·rename_i c hc
  by_cases hi:id=i
  ·subst hi
   rw [List.getElem?_set_self (List.getElem?_eq_some_iff.1 hc).1] at h
   cases h
   exact ⟨c,hc,rfl⟩
  ·rw [List.getElem?_set_ne hi] at h
   exact ⟨b,h,rfl⟩
 ·exact ⟨b,h,rfl⟩
theorem dropB_len (bs:List (Option Box)) (id:Nat):(dropB bs id).length=bs.length:=by
 unfold dropB
 split
 ·rw [lset_eq];simp
 ·rfl
theorem dropB_al (Y:St) (id:Nat):({Y with boxes:=dropB Y.boxes id }:St).al=Y.al:=by
 funext i
 unfold St.al dropB
 simp only [lget?_eq,lset_eq]
 cases hb0:Y.boxes[id]? with
 | none=>rfl
 | some ob=>cases ob with
  | none=>rfl
  | some b0 =>
   simp only
   by_cases hi:id=i
   ·subst hi
    have hl:id<Y.boxes.length:=(List.getElem?_eq_some_iff.1 hb0).1
    rw [List.getElem?_set_self hl,hb0]
   ·rw [List.getElem?_set_ne hi]
theorem Rep.dropB (h:Rep w0 m Y a w) (id:Nat):Rep w0 m {Y with boxes:=Sx.dropB Y.boxes id } a w:=by
 have hal:=dropB_al Y id
 have own':∀ {i:Nat} {b:Box},(Sx.dropB Y.boxes id)[i]?=some (some b)->b.own=true->∃ b',Y.boxes[i]?=some (some b')/\b'.own=true/\b'.elem=b.elem/\b'.cells=b.cells:=by
  intro i b hi ho
  obtain ⟨b',h1,h2,_,h4⟩:=dropB_get hi
  rcases h4 with ⟨h4,h5,_⟩ | ⟨_,h5⟩
  ·exact ⟨b',h1,h5.trans ho,h2,h4⟩
  ·rw [ho] at h5;cases h5
 have row':∀ {i:Nat} {b:Box} {r:Row},(Sx.dropB Y.boxes id)[i]?=some (some b)->b.row=some r->∃ b',Y.boxes[i]?=some (some b')/\b'.row=some r:=by
  intro i b r hi hr
  obtain ⟨b',h1,_,h3,_⟩:=dropB_get hi
  exact ⟨b',h1,h3.trans hr⟩
 refine ⟨h.defers,h.size,?_,h.below,?_,?_,?_,h.kn,?_,?_,?_,?_,h.base⟩
 ·rw [hal];exact h.tmp
 ·rw [hal];intro i b hi ho
  obtain ⟨b',h1,h2,h3,h4⟩:=own' hi ho
  obtain ⟨g1,g2,vs,g3,g4⟩:=h.own i b' h1 h2
  obtain ⟨b2,q1,q2⟩:=dropB_fz hi
  have hbb:b2=b':=by rw [h1] at q1;cases q1;rfl
  exact ⟨g1,g2,vs,by rw [<- h3,<- q2,hbb];exact g3,by rw [<- h4];exact g4⟩
 ·rw [hal];intro i b hi ho
  obtain ⟨b',h1,h2,_,h4⟩:=dropB_get hi
  rcases h4 with ⟨h4,h5,_⟩ | ⟨h4,_⟩
  ·have:=h.ro i b' h1 (h5.trans ho)
   rw [h4] at this
   exact this
  ·exact .inl h4
 ·intro i i' b b' hi hi' ho ho' hd
  obtain ⟨c,h1,h2,_⟩:=own' hi ho
  obtain ⟨c',k1,k2,_⟩:=own' hi' ho'
  exact h.inj i i' c c' h1 k1 h2 k2 hd
 ·rw [hal];exact h.gl
 ·intro i b r hi hr
  obtain ⟨b',h1,h2⟩:=row' hi hr
  exact h.rows i b' r h1 h2
 ·intro i b r hi hr ho i' b' hi' hbo
  obtain ⟨c,h1,h2⟩:=row' hi hr
  obtain ⟨c',k1,k2,_⟩:=own' hi' hbo
  exact h.rbox i c r h1 h2 ho i' c' k1 k2
 ·intro i b r i' b' r' hi hr hi' hr' ho ho' hd
  obtain ⟨c,h1,h2⟩:=row' hi hr
  obtain ⟨c',k1,k2⟩:=row' hi' hr'
  exact h.rsep i c r i' c' r' h1 h2 k1 k2 ho ho' hd
theorem Rep.retmp (h:Rep w0 m Y a w) (t:Nat) (s:SV) (hs:∀ v,a.tmps[t]?=some v->s.rel m Y.nv Y.al v):Rep w0 m {Y with tmps:=Y.tmps.set t s } a w:=by
 refine ⟨h.defers,by simp [h.size],fun i s' hi=>?_,h.below,h.own,h.ro,h.inj,h.kn,h.gl,h.rows,h.rbox,h.rsep,h.base⟩
 simp only [List.getElem?_set] at hi
 split at hi
 ·rename_i he
  subst he
  split at hi
  ·rename_i hl
   cases hi
   have:t<a.tmps.size:=by rw [h.size];exact hl
   exact ⟨a.tmps[t],Array.getElem?_eq_getElem this,hs _ (Array.getElem?_eq_getElem this)⟩
  ·cases hi
 ·exact h.tmp i s' hi
structure FrzSpec (P:Program) (Y:St) (nn:Nat) (g:Frz) (b:Box):Prop where
 cell:Y.cell (.tmp g.slot)=some (.slice g.id 0 g.n g.n)
 box:Y.box g.id=some b
 own:b.own=true
 fz:b.fz=(0,0)
 elem:b.elem=g.elem
 pos:0<g.n
 max:g.n<=1024
 len:b.cells.length=g.n*g.k.sz
 take:takeNK g.k nn g.n b.cells=some (g.defs,g.as)
theorem freeze_spec {nn:Nat} {op:Op} {g:Frz} (h:freezeP P Y nn op=some g):∃ b,FrzSpec P Y nn g b:=by
 unfold freezeP at h
 split at h
 ·split at h
  ·split at h
   ·rename_i id n cap hc
    split at h
    ·split at h
     ·rename_i k b hk hb
      split at h
      ·rename_i hcond
       simp only [Bool.and_eq_true,beq_iff_eq,decide_eq_true_eq] at hcond
       obtain ⟨⟨⟨⟨⟨⟨⟨c1,c0⟩,c2⟩,c3⟩,c4⟩,c5⟩,c6⟩,c7⟩:=hcond
       split at h
       ·rename_i ds as ht
        cases h
        subst c4
        exact ⟨b,hc,hb,c1,c0,c3,c5,c6,c7,ht⟩
       ·cases h
      ·cases h
     ·cases h
    ·cases h
   ·cases h
  ·cases h
 ·cases h
theorem freeze_ok (hR:Rep w0 m Y a w) {op:Op} {g:Frz} (hg:freezeP P Y Y.nv op=some g) {goal:Gl} {t:Tree}
  (hh:(letts Y.nv (g.defs++[(.lst g.k,.lapp (.lit 0) g.as)]) t).holds T goal m.env) :
  ∃ m',MExt m Y.nv Y.al m' (freezeS Y g).nv (freezeS Y g).al/\Rep w0 m' (freezeS Y g) a w/\t.holds T goal m'.env:=by
 obtain ⟨b,G⟩:=freeze_spec hg
 obtain ⟨k1,k2,vs,k3,k4⟩:=hR.own g.id b (box_some G.box) G.own
 rw [G.fz] at k3
 obtain ⟨g1,g3,g4⟩:=takeNK_ok (T:=T) _ _ _ _ _ G.take m Y.nv vs k4
 have hvl:vs.length=g.n*g.k.sz:=by rw [<- k4.length,G.len]
 have fin:∀ e',(∀ i,i<Y.nv->e' i=m.env i)->Told T e' Y.nv g.defs->g.k.hasL (g.as.map (·.ev e'))/\flat g.k (g.as.map (·.ev e'))=vs/\(g.as.map (·.ev e')).length=g.n:=fun e' he ht=>by
  obtain ⟨v1,v2⟩:=g4 e' he ht
  have hl:(g.as.map (·.ev e')).length=g.n:=by rw [List.length_map,g3]
  exact ⟨⟨by rw [hl];have:=G.max;omega,v2⟩,v1,hl⟩
 have gen:GenOk T m.env Y.nv (g.defs++[(.lst g.k,.lapp (.lit 0) g.as)]):=by
  refine gen_append _ _ _ _ (g1 (Nat.le_refl _)).1 fun e1 he1 ht1=>⟨⟨trivial,(g1 (Nat.le_refl _)).2⟩,?_,trivial⟩
  simp only [KK.has,D.ev,A.ev,dec_zero,dec_enc,List.nil_append]
  exact (fin e1 he1 ht1).1
 obtain ⟨e1,b1,b2,b3,b4⟩:=letts_holds _ _ _ hh gen
 obtain ⟨c1,c2⟩:=(Told.append).1 b3
 obtain ⟨f1,f2,f3⟩:=fin e1 b1 c1
 have h0:e1 (Y.nv+g.defs.length)=enc (g.as.map (·.ev e1)):=by
  have h1:e1 (Y.nv+g.defs.length+0)=enc (dec 0++g.as.map (·.ev e1)):=(c2 0 _ _ rfl).1
  rwa [dec_zero,List.nil_append] at h1
 generalize hl:g.as.map (·.ev e1)=l at f1 f2 f3 h0
 have hnm:=hR.names e1 b1 (Y.nv+(g.defs.length+1)) (by omega)
 have hdr:=(hnm.dropB g.id).room 1
 have hal1:({Y with nv:=Y.nv+(g.defs.length+1),boxes:=Sx.dropB Y.boxes g.id++List.replicate 1 none }:St).al=Y.al:=by
  rw [<- dropB_al Y g.id];exact al_room {Y with boxes:=Sx.dropB Y.boxes g.id } 1
 have hbx:∀ {i:Nat} {bx:Box},(Sx.dropB Y.boxes g.id++List.replicate 1 none)[i]?=some (some bx)->(Sx.dropB Y.boxes g.id)[i]?=some (some bx):=by
  intro i bx hi
  rcases Nat.lt_or_ge i (Sx.dropB Y.boxes g.id).length with h | h
  ·rwa [List.getElem?_append_left h] at hi
  ·rw [List.getElem?_append_right h] at hi
   have:=List.mem_of_getElem? hi
   rw [List.mem_replicate] at this
   cases this.2
 have hev:dec (A.ev e1 (.var (Y.nv+g.defs.length)))=l:=by
  show dec (e1 (Y.nv+g.defs.length))=l
  rw [h0,dec_enc]
 have hn1:(Sx.dropB Y.boxes g.id++List.replicate 1 none)[Y.boxes.length]?=some none:=by
  rw [List.getElem?_append_right (by rw [dropB_len];exact Nat.le_refl _),dropB_len];simp
 have hat0:m.at g.id 0=⟨(m.rho g.id).1,0,none⟩:=by simp [M.at,k1]
 obtain ⟨q1,q2⟩:=hdr.rowIn (nid:=Y.boxes.length) hn1 (row:=some (m.rho g.id).1) (w':=w) ⟨rfl,rfl,rfl,Nat.le_refl _,fun _ _ _=>rfl⟩
  (fun k hk=>by
   cases hk
   refine ⟨k2,fun id b' hb' ho e=>?_,fun id b' q hb' hq hqo e=>?_⟩
   ·obtain ⟨c,d1,_,_,d4⟩:=dropB_get (hbx hb')
    rcases d4 with ⟨_,d5,d6⟩ | ⟨_,d5⟩
    ·exact hR.inj id g.id c b d1 (box_some G.box) (d5.trans ho) G.own d6 e
    ·rw [ho] at d5;cases d5
   ·obtain ⟨c,d1,_,d3,_⟩:=dropB_get (hbx hb')
    exact hR.rbox id c q d1 (d3.trans hq) hqo g.id b (box_some G.box) G.own e)
  (r:={x:=.var (Y.nv+g.defs.length),x0:=.var (Y.nv+g.defs.length),k:=g.k,elem:=g.elem,own:=true,full:=true }) (v:=.slice (some ⟨(m.rho g.id).1,0,none⟩) g.n g.n)
  ⟨by show Y.nv+g.defs.length<Y.nv+(g.defs.length+1);omega,trivial⟩ ⟨by show Y.nv+g.defs.length<Y.nv+(g.defs.length+1);omega,trivial⟩ rfl
  (by
   show RowAt w0 w _ _ (dec (A.ev e1 (.var (Y.nv+g.defs.length))))
   rw [hev]
   refine ⟨f1,?_,fun _=>rfl⟩
   simp only [if_true]
   rw [f2,f3]
   exact ⟨hvl,.inr ⟨(m.rho g.id).1,g.n,vs.toArray,rfl,k2,by rw [k3,G.elem],Nat.le_refl _,by have:=G.max;unfold maxLen;omega,by simpa using hvl,by rw [List.take_of_length_le (by rw [<- hvl];simp)]⟩⟩)
  (fun g' _ hg'=>.inl hg')
 have eq:freezeS Y g={(({Y with nv:=Y.nv+(g.defs.length+1),boxes:=Sx.dropB Y.boxes g.id++List.replicate 1 none }:St).setBox Y.boxes.length (rowBox {x:=.var (Y.nv+g.defs.length),x0:=.var (Y.nv+g.defs.length),k:=g.k,elem:=g.elem,own:=true,full:=true })) with tmps:=Y.tmps.set g.slot (.vl (.one (.sl Y.boxes.length))) }:=by
  unfold freezeS St.setBox
  rw [lset_eq]
  have:(Sx.dropB Y.boxes g.id++List.replicate 1 none).set Y.boxes.length (some (rowBox {x:=.var (Y.nv+g.defs.length),x0:=.var (Y.nv+g.defs.length),k:=g.k,elem:=g.elem,own:=true,full:=true }))=Sx.dropB Y.boxes g.id++[some (rowBox {x:=.var (Y.nv+g.defs.length),x0:=.var (Y.nv+g.defs.length),k:=g.k,elem:=g.elem,own:=true,full:=true })]:=by
   rw [List.set_append_right _ _ (by rw [dropB_len];exact Nat.le_refl _),dropB_len];simp
  simp only [this]
 have hc:=hR.cell G.cell
 have hnl:Y.boxes.length<(Sx.dropB Y.boxes g.id++List.replicate 1 none).length:=by simp [dropB_len]
 refine ⟨({m with env:=e1 }:M).row Y.boxes.length (.slice (some ⟨(m.rho g.id).1,0,none⟩) g.n g.n),?_,?_,b4⟩
 ·rw [eq]
  refine MExt.trans (m':={m with env:=e1 }) (nv':=Y.nv+(g.defs.length+1)) (al':=Y.al) ⟨b1,fun _ _=>rfl,rfl,fun _ _=>rfl,by omega,fun _ h=>h⟩ ?_
  rw [hal1] at q2
  exact q2
 ·rw [eq]
  refine q1.retmp g.slot _ fun v hv=>⟨by rw [al_setBox,if_pos ⟨rfl,hnl⟩],?_,?_⟩
  ·have he:a.eval (.tmp g.slot)=v:=by simp [Act.eval,hv]
   rw [<- he,hc.2,hat0]
   simp [M.row]
  ·have he:a.eval (.tmp g.slot)=v:=by simp [Act.eval,hv]
   rw [<- he,hc.2];rfl
end
end Go.Sx
