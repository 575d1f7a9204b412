/- Part Gg of the proof. -/
import Derived.Test.YtlloonffibabfaaGreatDoorGf
import Derived.Laws.OwnMore
set_option linter.unusedVariables false
set_option linter.unusedSimpArgs false
namespace Go.Sx
open Go Go.RowKit
section
variable {P:Program}{T:List K}{ops:Array Oper}{nv0 len0:Nat}{E:Nat->Int}{w0:World}
theorem Qix(hT:∀(g:Nat) Y,T[g]?=some Y->Y.Xjg P w0){m:M}{Z Z':St}{a:Act}{w:World}{i:Nat}{o:Oper}(hi:ops[i]?=some o)(h:Rep w0 m Z a w)(hE:m.env=E)(hnv:nv0+ops.size*Q1<=Z.nv)
  (hs:Vm P T ops nv0 len0 E i Z Z') {K:Act->World->Prop} {Q:Exit->Act->World->Prop}
  (hK:∀m' a' w',m'.env=E->MExt m Z.nv Z.al m' Z'.nv Z'.al->Rep w0 m' Z' a' w'->Z'.nv=Z.nv->K a' w'):if Region.wanted o (yielded ops a.tmps)then o.wp P a w K Q else K (a.put o.dst undef) w:=by
 have hlt:=(Kl.1 hi).1;have hmul:i*Q1+Q1<=ops.size*Q1:=by
  have:=Kn Q1 (show i+1<=ops.size from hlt);rwa[K6,Nat.one_mul]at this
 obtain⟨g1,g2⟩:=Qol h (all:=ops) (o:=o);unfold Vm at hs;rw[hi]at hs;rcases hs with⟨k1,rfl⟩|⟨k1,p,k2,k3,k4,k5,rfl⟩
 ·rw[if_neg (by rw[g2 k1];simp)];have hp:=h.put (s:=Wj) (v:=undef) ⟨[],rfl,trivial⟩ o.dst;have hal:(Z.put o.dst Wj).al=Z.al:=by funext id;unfold St.al;rw[(Zm _ _ _).2.1]
  have hn:(Z.put o.dst Wj).nv=Z.nv:=(Zm _ _ _).1;exact hK m _ _ hE (by rw[hal,hn];exact MExt.refl ..) hp hn
 ·rw[if_pos (g1 k1)];refine(Qsw hT h k2 k5 (by rw[hE];exact k4.defs) (by rw[hE];exact k4.post) (by omega) (by rw[hE];exact k4.nz) (by rw[hE];exact k4.req) fun m' a' w' e1 e2 e3=>?_);have hn:(Zj Z p (len0+i) o.dst).nv=Z.nv:=(B2 _ _ _ _).2.1;exact hK m' a' w' (e1.trans hE) (by rw[hn];exact e2) e3 hn
def Has(w0:World)(nv1:Nat)(E:Nat->Int)(Z:St):Prop:=∃(m:M) (a:Act) (w:World),m.env=E/\Rep w0 m Z a w/\Z.nv=nv1
theorem Qw0(hT:∀(g:Nat) Y,T[g]?=some Y->Y.Xjg P w0){i:Nat}{nv1:Nat}(hnv:nv0+ops.size*Q1<=nv1){o:Oper}(hi:ops[i]?=some o){Z Z':St}(h:Has w0 nv1 E Z)(hs:Vm P T ops nv0 len0 E i Z Z'):Has w0 nv1 E Z':=by
 obtain⟨m,a,w,e1,e2,e3⟩:=h;have:=Qix hT hi e2 e1 (by omega) hs (K:=fun _ _=>Has w0 nv1 E Z') (Q:=fun _ _ _=>False) fun m' a' w' h1 _ h3 h4=>⟨m',a',w',h1,h3,h4.trans e3⟩
 split at this
 ·obtain⟨_,_,h⟩:=Qqe this;exact h
 ·exact this
def Qs8(P:Program)(T:List K)(ops:Array Oper)(nv0 len0:Nat)(E:Nat->Int)(Q:St->Prop):Nat->Array Bool->St->Prop
 |0,listed,Z=>Region.ready .any ops listed=[]/\Q Z
 |fuel+1,listed,Z =>
  (Region.ready .any ops listed=[]->Q Z) /\
  ∀i∈Region.ready .any ops listed,∃Z',Vm P T ops nv0 len0 E i Z Z'/\Qs8 P T ops nv0 len0 E Q fuel (listed.setIfInBounds i true) Z'
theorem Qna{md:Region.Mode}{i:Nat}{listed:Array Bool}(h:i∈Region.ready md ops listed):∃o,ops[i]?=some o:=by
 obtain⟨_,o,ho,_⟩:=mem_ready.1 h;exact⟨o,ho⟩
theorem Qgl{i j:Nat}{oi oj:Oper}(h:Qrl ops.toList=true)(hij:j≠i)(hi:ops[i]?=some oi)(hj:ops[j]?=some oj)
  (h1:∀e∈oj.after,Region.binds .any e=true->e.on≠i) (h2:∀e∈oi.after,Region.binds .any e=true->e.on≠j):Qo5 oi oj=true:=by
 unfold Qrl at h;simp only[Mp]at h;have hm:∀ {k:Nat} {o:Oper},ops[k]?=some o->(o,k)∈ops.toList.zipIdx:=fun {k o} hk=>by
  rw[Kq];simpa using hk
 have:=h _ (hm hi) _ (hm hj);have no:∀ {x:Nat} {y:Oper},(∀e∈y.after,Region.binds .any e=true->e.on≠x)->ordered x y=false:=fun {x y} hh=>by
  unfold ordered;rw[Hw];intro hany;obtain⟨e,he,hb⟩:=K4.1 hany;simp only[Oo,beq_iff_eq]at hb;exact hh e he hb.1 hb.2
 rw[no h1,no h2]at this;simp only[Bool.or_false,Hq,beq_iff_eq]at this;rcases this with this|this
 ·exact absurd this.symm hij
 ·exact this
theorem Zgn{Z:St}{q:Option Plan}{nid:Nat}{d:Option Nat}{t:Nat}(h:d≠some t):(Bu Z q nid d).tmps[t]?=Z.tmps[t]?:=by rw[J6,Qrh h]
theorem Qqv(Z:St)(q:Option Plan)(nid:Nat)(d:Option Nat):(Bu Z q nid d).gl=Z.gl:=by rw[J6];exact(Zm _ _ _).2.2.2.1
theorem Qpt{i:Nat}{o:Oper}(hi:ops[i]?=some o){Z Z':St}(h:Vm P T ops nv0 len0 E i Z Z'){t:Nat}(ht:o.dst≠some t):Z'.tmps[t]?=Z.tmps[t]?/\Z'.gl=Z.gl:=by
 obtain⟨q,rfl,_⟩:=Um hi h;exact⟨Zgn ht,Qqv ..⟩
theorem Zyj{Z':St}{t:Nat}:∀(fuel:Nat) (listed:Array Bool) (Z:St),Qs8 P T ops nv0 len0 E (fun s=>s=Z') fuel listed Z->(∀(k:Nat) o,ops[k]?=some o->listed.getD k true=false->o.dst≠some t)->Z.tmps[t]?=Z'.tmps[t]?
 |0,_,Z,h,_=>by rw[h.2]
 |fuel+1,listed,Z,h,ht=>by
  cases hr:Region.ready .any ops listed with
  |nil=>rw[h.1 hr]
  |cons i r =>
   have hi:i∈Region.ready .any ops listed:=by rw[hr];exact Mj ..
   obtain⟨σ2,k1,k2⟩:=h.2 i hi;obtain⟨hun,o,ho,_⟩:=mem_ready.1 hi;have h1:=(Qpt ho k1 (ht i o ho hun)).1;rw[<- h1];refine Zyj fuel _ σ2 k2 fun k ok hk hku=>ht k ok hk ?_
   by_cases hik:i=k
   ·subst hik;exact hun
   ·rw[getD_set_ne true hik]at hku;exact hku
theorem Zbp{Z':St}:∀(fuel:Nat) (listed:Array Bool) (Z:St),Qs8 P T ops nv0 len0 E (fun s=>s=Z') fuel listed Z->Z.gl=Z'.gl
 |0,_,Z,h=>by rw[h.2]
 |fuel+1,listed,Z,h=>by
  cases hr:Region.ready .any ops listed with
  |nil=>rw[h.1 hr]
  |cons i r =>
   have hi:i∈Region.ready .any ops listed:=by rw[hr];exact Mj ..
   obtain⟨σ2,k1,k2⟩:=h.2 i hi;obtain⟨_,o,ho,_⟩:=mem_ready.1 hi;obtain⟨q,rfl,_⟩:=Um ho k1;have:=Zbp fuel _ _ k2;rw[Qqv]at this;exact this
theorem Zlz{Z Z':St}(hg:Z.gl=Z'.gl){z:Operand}(hz:∀t,z=.tmp t->Z.tmps[t]?=Z'.tmps[t]?):Z.val z=Z'.val z:=by
 cases z with
 |tmp t=>simp only[St.val,St.Xje,Ov,hz t rfl]
 |global g=>simp only[St.val,hg]
 |_=>rfl
theorem Zf9(h:tidy ops.toList=true){k j t:Nat}{ok oj:Oper}(hk:ops[k]?=some ok)(hj:ops[j]?=some oj)(hd:ok.dst=some t)(hz:.tmp t∈oj.op.operands):ordered k oj=true:=by
 unfold tidy at h;simp only[Mp]at h;have hm:∀ {k:Nat} {o:Oper},ops[k]?=some o->(o,k)∈ops.toList.zipIdx:=fun {k o} hk=>by
  rw[Kq];simpa using hk
 have h1:=h _ (hm hk);simp only[hd,Mp]at h1;have h2:=h1 _ (hm hj);have h3:oj.op.operands.any (Zoz t)=true:=K4.2 ⟨_,hz,by simp[Zoz]⟩;simp only[h3,Oam,Bool.false_or]at h2;exact h2
def Closed(ops:Array Oper)(listed:Array Bool):Prop:=∀(i:Nat) oi,listed.getD i false=true->ops[i]?=some oi->∀e∈oi.after,Region.binds .any e=true->listed.getD e.on false=true
theorem getD_set_true{listed:Array Bool}{i j:Nat}(h:listed.getD j false=true):(listed.setIfInBounds i true).getD j false=true:=by
 by_cases hij:i=j
 ·subst hij;have hlt:i<listed.size:=by
   by_cases hc:i<listed.size
   ·exact hc
   ·rw[Me,Oaa (by omega)]at h;cases h
  simp[Me,hlt]
 ·simp only[Me,K1]at h ⊢;rw[if_neg hij];exact h
theorem Closed.set{listed:Array Bool}(h:Closed ops listed){i:Nat}(hi:i∈Region.ready .any ops listed):Closed ops (listed.setIfInBounds i true):=by
 intro j oj hj hoj e he hb;by_cases hij:j=i
 ·subst hij;obtain⟨_,o',ho',hall⟩:=mem_ready.1 hi;rw[hoj]at ho';cases ho';exact getD_set_true (hall e he hb)
 ·refine getD_set_true (h j oj ?_ hoj e he hb);simp only[Me,K1]at hj ⊢;rw[if_neg (by omega)]at hj;exact hj
theorem Wv{listed:Array Bool}(hc:Closed ops listed){x:Nat}:∀(n:Nat) (y:Oper),(∀e∈y.after,Region.binds .any e=true->listed.getD e.on false=true)->before ops.toList n x y=true->listed.getD x false=true
 |0,y,h,hb=>by
  unfold before ordered at hb;obtain⟨e,he,hbe⟩:=K4.1 hb;simp only[Oo,beq_iff_eq]at hbe;rw[<- hbe.2];exact h e he hbe.1
 |n+1,y,h,hb=>by
  unfold before at hb;rcases Bool.or_eq_true_iff.1 hb with hb|hb
  ·unfold ordered at hb;obtain⟨e,he,hbe⟩:=K4.1 hb;simp only[Oo,beq_iff_eq]at hbe;rw[<- hbe.2];exact h e he hbe.1
  ·obtain⟨e,he,hbe⟩:=K4.1 hb;rw[Oo]at hbe;obtain⟨h1,h2⟩:=hbe;have hl:=h e he h1;cases ho:ops.toList[e.on]? with
   |none=>rw[ho]at h2;cases h2
   |some o =>
    rw[ho]at h2;exact Wv hc n o (hc e.on o hl (by simpa using ho)) h2
theorem Qgp{Z':St}{i j:Nat}{oi oj:Oper}(h:Qsf T Z' ops.toList=true)(hij:j≠i)(hi:ops[i]?=some oi)(hj:ops[j]?=some oj)
  (h1:∀e∈oj.after,Region.binds .any e=true->e.on≠i) (h2:∀e∈oi.after,Region.binds .any e=true->e.on≠j) (h3:before ops.toList 7 i oj=false) (h4:before ops.toList 7 j oi=false):Qo5 oi oj=true∨(Ztd Z' oi oj=true/\(Ji T oi.op || Ji T oj.op)=false):=by
 unfold Qsf at h;simp only[Mp]at h;have hm:∀ {k:Nat} {o:Oper},ops[k]?=some o->(o,k)∈ops.toList.zipIdx:=fun {k o} hk=>by
  rw[Kq];simpa using hk
 have:=h _ (hm hi) _ (hm hj);have no:∀ {x:Nat} {y:Oper},(∀e∈y.after,Region.binds .any e=true->e.on≠x)->ordered x y=false:=fun {x y} hh=>by
  unfold ordered;rw[Hw];intro hany;obtain⟨e,he,hb⟩:=K4.1 hany;simp only[Oo,beq_iff_eq]at hb;exact hh e he hb.1 hb.2
 rw[no h1,no h2]at this;rw[h3,h4,Bool.or_false,Bool.or_false,Bool.or_false,Bool.or_false]at this;rcases Bool.or_eq_true_iff.1 this with this|this
 ·rcases Bool.or_eq_true_iff.1 this with this|this
  ·exact absurd (beq_iff_eq.1 this).symm hij
  ·exact .inl this
 ·rw[Oo,K9]at this;exact .inr this
theorem Zf2{Z Z':St}{x y:Oper}(h:Ztd Z' x y=true)(hx:∀z∈x.op.operands,Z.val z=Z'.val z)(hy:∀z∈y.op.operands,Z.val z=Z'.val z):Sep Z x y:=by
 intro zx hzx s hs id hid zy hzy s' hs' hid';rw[hx zx hzx]at hs;rw[hy zy hzy]at hs';unfold Ztd at h;have h1:=Oab.1 h zx hzx;simp only[Mp,Zkk,hs]at h1;have h2:=Oab.1 (h1 id hid) zy hzy;simp only[hs',K9,List.contains_eq_mem,decide_eq_false_iff_not]at h2;exact h2 hid'
theorem Qxc(hT:∀(g:Nat) Y,T[g]?=some Y->Y.Xjg P w0){nv1:Nat}(hnv:nv0+ops.size*Q1<=nv1){Z':St}(hcalm:Qjq T Z' ops=true){i:Nat}{oi:Oper}(hi:ops[i]?=some oi) :
  ∀(fuel:Nat) (listed:Array Bool) (Z σi:St),
   (∀j oj,ops[j]?=some oj->j≠i->listed.getD j true=false->(∀e∈oj.after,Region.binds .any e=true->e.on≠i)->oi.apart ops oj=true) ->
   i∈Region.ready .any ops listed->Closed ops listed->Has w0 nv1 E Z->Vm P T ops nv0 len0 E i Z σi ->
   Qs8 P T ops nv0 len0 E (fun s=>s=Z') fuel (listed.setIfInBounds i true) σi->Qs8 P T ops nv0 len0 E (fun s=>s=Z') (fuel+1) listed Z:=by
 intro fuel
 induction fuel with
 |zero =>
  intro listed Z σi _ hr _ _ hy H;refine⟨fun h=>(by rw[h]at hr;cases hr),fun j hj=>?_⟩;by_cases hji:j=i
  ·subst hji;exact⟨_,hy,H⟩
  ·have:=ready_mono hj hji;rw[H.1]at this;cases this
 |succ fuel ih =>
  intro listed Z σi hfree hr hC hR hy H;refine⟨fun h=>(by rw[h]at hr;cases hr),fun j hj=>?_⟩;by_cases hji:j=i
  ·subst hji;exact⟨_,hy,H⟩
  ·obtain⟨σij,h1,h2⟩:=H.2 j (ready_mono hj hji);obtain⟨hjun,oj,hoj,hall⟩:=mem_ready.1 hj;have hnot:∀ {x y:Nat} {oy:Oper},listed.getD x true=false->(∀e∈oy.after,Region.binds .any e=true->listed.getD e.on false=true)->∀e∈oy.after,Region.binds .any e=true->e.on≠x:=fun {x y oy} h0 hall e he hb heq=>by
    have h1:=hall e he hb;rw[heq]at h1;rcases Ht x listed.size with h'|h'
    ·simp[h']at h0 h1;rw[h0]at h1;cases h1
    ·simp[Oaa h']at h1
   have hnl:∀ {x:Nat},listed.getD x true=false->¬listed.getD x false=true:=fun {x} h0 h1=>by
    rcases Ht x listed.size with h'|h'
    ·simp[h']at h0 h1;rw[h0]at h1;cases h1
    ·simp[Oaa h']at h1
   obtain⟨hiun,oi',hoi',halli⟩:=mem_ready.1 hr;rw[hi]at hoi';cases hoi';have same:∀(y:Oper) (yi:Nat),ops[yi]?=some y->(∀e∈y.after,Region.binds .any e=true->listed.getD e.on false=true)->(htidy:tidy ops.toList=true:=by assumption)->∀z∈y.op.operands,Z.val z=Z'.val z:=by
    intro y yi hy' hally htidy z hz;have hgl:Z.gl=Z'.gl:=by
     obtain⟨q,hq,_⟩:=Um hi hy;have:=Zbp _ _ _ H;rw[hq,Qqv]at this;exact this
    refine Zlz hgl fun t ht=>?_
    subst ht;have hno:∀(k:Nat) o,ops[k]?=some o->listed.getD k true=false->o.dst≠some t:=fun k o hk hku hd=>by
     have:=Zf9 htidy hk hy' hd hz;unfold ordered at this;obtain⟨e,he,hbe⟩:=K4.1 this;simp only[Oo,beq_iff_eq]at hbe;exact hnot (y:=yi) hku hally e he hbe.1 hbe.2
    rw[<- (Qpt hi hy (hno i oi hi hiun)).1];refine Zyj _ _ _ H fun k o hk hku=>hno k o hk ?_
    by_cases hik:i=k
    ·subst hik;exact hiun
    ·rw[getD_set_ne true hik]at hku;exact hku
   have n1:=hnot (y:=j) hiun hall;have n2:=hnot (y:=i) hjun halli;have hap:=hfree j oj hoj hji hjun n1;have hpair:Qo5 oi oj=true∨Sep Z oi oj:=by
    unfold Qjq at hcalm;rw[Hq,Oo]at hcalm;rcases hcalm with hcalm|⟨htidy,hpairs⟩
    ·exact .inl (Qgl hcalm hji hi hoj n1 n2)
    ·rcases Qgp hpairs hji hi hoj n1 n2 (Hw.2 fun h=>hnl hiun (Wv hC 7 oj hall h)) (Hw.2 fun h=>hnl hjun (Wv hC 7 oi halli h))with h|h
     ·exact .inl h
     ·refine .inr (Zf2 h.1 ?_ ?_)
      ·exact same oi i hi halli
      ·exact same oj j hoj hall
   have hll:(Ji T oi.op || Ji T oj.op)=true->Qo5 oi oj=true:=fun hor=>by
    unfold Qjq at hcalm;rw[Hq,Oo]at hcalm;rcases hcalm with hcalm|⟨_,hpairs⟩
    ·exact Qgl hcalm hji hi hoj n1 n2
    ·rcases Qgp hpairs hji hi hoj n1 n2 (Hw.2 fun h=>hnl hiun (Wv hC 7 oj hall h)) (Hw.2 fun h=>hnl hjun (Wv hC 7 oi halli h))with h|h
     ·exact h
     ·rw[h.2]at hor;cases hor
   obtain⟨σj,k1,k2⟩:=exchange (Ne.symm hji) hi hoj hap hpair hll (by obtain⟨_,_,_,_,hr,_⟩:=hR;exact hr.live) hy h1
   have hfree':∀k ok,ops[k]?=some ok->k≠i->(listed.setIfInBounds j true).getD k true=false ->
     (∀e∈ok.after,Region.binds .any e=true->e.on≠i)->oi.apart ops ok=true:=fun k ok hk hki hun hno=>by
    refine hfree k ok hk hki ?_ hno;by_cases hjk:j=k
    ·subst hjk;exact hjun
    ·rw[getD_set_ne true hjk]at hun;exact hun
   refine⟨σj,k1,ih (listed.setIfInBounds j true) σj σij hfree' (ready_mono hr (Ne.symm hji)) (hC.set hj) (Qw0 hT hnv hoj hR k1) k2 ?_⟩;rw[Array.setIfInBounds_comm _ _ hji];exact h2
theorem Qm8(hT:∀(g:Nat) Y,T[g]?=some Y->Y.Xjg P w0){nv1:Nat}(hnv:nv0+ops.size*Q1<=nv1){Z':St}(hcalm:Qjq T Z' ops=true):∀(l:List Oper) (k:Nat) (listed:Array Bool) (Z:St),(∀j,l[j]?=ops[k+j]?) ->
  Region.lexFrom .any ops l.length k listed=true->Closed ops listed->Has w0 nv1 E Z->Lex P T ops nv0 len0 E l k Z Z'->Qs8 P T ops nv0 len0 E (fun s=>s=Z') l.length listed Z
 |[],_,_,_,_,hB,_,_,h=>by cases h;exact⟨by simpa[Region.lexFrom]using hB,rfl⟩
 |o::l,k,listed,Z,hl,hB,hC,hR,h=>by
  have h0:ops[k]?=some o:=by simpa using(hl 0).symm
  simp only[O0,Region.lexFrom,Oo]at hB;obtain⟨⟨hr,hf⟩,hB'⟩:=hB;cases h with
  |cons hs ht =>
   exact Qxc hT hnv hcalm h0 l.length listed Z _ (Region.free_spec h0 hf) (by simpa using hr) hC hR hs
    (Qm8 hT hnv hcalm l (k+1) _ _ (fun j=>by have:=hl (j+1);simpa[Km,Hr 1 j]using this) hB' (hC.set (by simpa using hr)) (Qw0 hT hnv h0 hR hs) ht)
theorem Qi9(ops:Array Oper)(n:Nat):Closed ops (Array.replicate n false):=fun i oi hi=>by
 simp[Me,Array.getElem?_replicate]at hi;split at hi <;> simp at hi
theorem Qja(hT:∀(g:Nat) Y,T[g]?=some Y->Y.Xjg P w0){nv1:Nat}(hnv:nv0+ops.size*Q1<=nv1){Q:St->Prop}{Q':Exit->Act->World->Prop}{m0:M}{nv:Nat}{al:Nat->Bool}
  (hQ:∀Z' m' a' w',m'.env=E->MExt m0 nv al m' Z'.nv Z'.al->Rep w0 m' Z' a' w'->Q Z'->Q' .normal a' w'):∀(fuel:Nat) (listed:Array Bool) (Z:St) (m:M) (a:Act) (w:World),m.env=E->MExt m0 nv al m Z.nv Z.al->Rep w0 m Z a w->Z.nv=nv1 ->
  Qs8 P T ops nv0 len0 E Q fuel listed Z->wpAny P .any ops Q' fuel listed a w
 |0,_,Z,m,a,w,h1,h2,h3,_,h=>⟨h.1,hQ Z m a w h1 h2 h3 h.2⟩
 | fuel+1,listed,Z,m,a,w,h1,h2,h3,h4,h=>⟨fun h0=>hQ Z m a w h1 h2 h3 (h.1 h0),fun i hi=>by
   obtain⟨o,ho⟩:=Qna hi;obtain⟨Z',k1,k2⟩:=h.2 i hi;have:=Qix hT ho h3 h1 (by omega) k1 (K:=wpAny P .any ops Q' fuel (listed.setIfInBounds i true)) (Q:=Q') fun m' a' w' e1 e2 e3 e4 =>
    Qja hT hnv hQ fuel _ Z' m' a' w' e1 (h2.trans e2) e3 (e4.trans h4) k2
   unfold wpOp;rw[ho];simp only;split
   ·rename_i hw;rw[if_pos hw]at this;exact .inl this
   ·rename_i hw;rw[if_neg hw]at this;exact this⟩
theorem Rep.Xjz{w1:World}{m:M}{X:St}{a:Act}{w:World}{kn':List (Nat×Bool)}(h:Rep w1 m X a w)(hk:∀p∈kn',p∈X.kn∨(p.1<X.nv/\decide (m.env p.1≠0)=p.2)):Rep w1 m {X with kn:=kn' } a w :=
 ⟨h.defers,h.size,h.tmp,h.below,h.own,h.ro,h.inj,fun p hp=>(hk p hp).elim (fun hp=>h.kn p hp) id,h.gl,h.rows,h.rbox,h.rsep,h.base⟩
theorem Qud(hT:∀(g:Nat) Y,T[g]?=some Y->Y.Xjg P w0){m:M}{Z:St}{a:Act}{w:World}{fuel:Nat}{kk:St->Qn}{goal:Gl}(hR:Rep w0 m Z a w)
  (hh:(Qed P T ops Z.nv Z.boxes.length fuel ops.toList 0 {Z with nv:=Z.nv+ops.size*Q1,boxes:=Z.boxes++List.replicate ops.size none } kk).holds T goal m.env) :
  ∃E Z',(kk Z').holds T goal E/\Z'.lvl=Z.lvl/\Z'.nv=Z.nv+ops.size*Q1 /\
   Lex P T ops Z.nv Z.boxes.length E ops.toList 0 {Z with nv:=Z.nv+ops.size*Q1,boxes:=Z.boxes++List.replicate ops.size none,kn:=Z'.kn } Z' /\
   Rep w0 {m with env:=E } {Z with nv:=Z.nv+ops.size*Q1,boxes:=Z.boxes++List.replicate ops.size none,kn:=Z'.kn } a {w with drawn:=w.drawn+1 } /\
   MExt m Z.nv Z.al {m with env:=E } (Z.nv+ops.size*Q1) ({Z with boxes:=Z.boxes++List.replicate ops.size none }:St).al:=by
 have hr1:=hR.room ops.size;have hal:({Z with boxes:=Z.boxes++List.replicate ops.size none }:St).al=Z.al:=by
  funext id
  unfold St.al;by_cases hl:id<Z.boxes.length
  ·simp[Mh hl]
  ·rw[O7 (by omega),My (show Z.boxes.length<=id by omega)];by_cases h2:id-Z.boxes.length<ops.size
   ·simp[h2]
   ·rw[My (by simp;omega)]
 obtain⟨E,Z',e1,e2,e3,e4,e5,e6,e7⟩:=Xb0 (nv0:=Z.nv) (len0:=Z.boxes.length) hT (nv1:=Z.nv+ops.size*Q1) (goal:=goal) fuel ops.toList 0 {Z with nv:=Z.nv+ops.size*Q1,boxes:=Z.boxes++List.replicate ops.size none } (by simp) rfl (by simp)
  (fun k _ hk=>by
   simp only[M2,Kv]at hk;show(Z.boxes++List.replicate ops.size none)[Z.boxes.length+k]?=_;rw[O7 (by omega)];simp[hk]) m a w (by simpa using hr1.Xjj (Z.nv+0*Q1) (by show Z.nv<=_;omega)) hh
 have hr2:=(hr1.names E (fun j hj=>e1 j (by simp;exact hj)) (Z.nv+ops.size*Q1) (by show Z.nv<=_;omega)).drew;have hx:MExt m Z.nv Z.al {m with env:=E } (Z.nv+ops.size*Q1) Z.al:=⟨fun j hj=>e1 j (by simpa using hj),fun _ _=>rfl,rfl,fun _ _=>rfl,by omega,fun _ h=>h⟩
 exact⟨E,Z',e3,e5,e4,e2,hr2.Xjz e7,by rw[hal];exact hx⟩
theorem Zuk(hm:P.follows .mixedOrders=true)(hT:∀(g:Nat) Y,T[g]?=some Y->Y.Xjg P w0){m:M}{Z:St}{a:Act}{w:World}{id fuel:Nat}{kk:St->Qn}{goal:Gl}{Q:Exit->Act->World->Prop}
  (hR:Rep w0 m Z a w) (hd:Qiq ops=true)
  (hh:(Qed P T ops Z.nv Z.boxes.length fuel ops.toList 0 {Z with nv:=Z.nv+ops.size*Q1,boxes:=Z.boxes++List.replicate ops.size none } kk).holds T goal m.env)
  (hK:∀m' a' w' Z',MExt m Z.nv Z.al m' Z'.nv Z'.al->Rep w0 m' Z' a' w'->Z'.lvl=Z.lvl->(kk Z').holds T goal m'.env->Q .normal a' w') (hall:∀Z' E,(kk Z').holds T goal E->Qjq T Z' ops=true):(Code.region id ops true).wp P Q a w:=by
 have hB:=hd;unfold Qiq at hB;simp only[Region.lexB,Oo]at hB;obtain⟨E,Z',e3,e5,e4,e2,hr2,hx⟩:=Qud hT hR hh;have hcalm:=hall Z' E e3;refine wp_region_any hm (Qja (len0:=Z.boxes.length) hT (nv1:=Z.nv+ops.size*Q1) (Nat.le_refl _) (Q:=fun s=>s=Z') (fun s m' a' w' h1 h2 h3 h4=>by
  subst h4;exact hK m' a' w' _ h2 h3 e5 (by rw[h1];exact e3)) _ _ _ _ _ _ rfl ?_ hr2 rfl ?_)
 ·exact hx
 ·have:=Qm8 hT (nv1:=Z.nv+ops.size*Q1) (Nat.le_refl _) hcalm ops.toList 0 (Array.replicate ops.size false) _ (by simp) (by simpa using hB.2) (Qi9 _ _) ⟨_,_,_,rfl,hr2,rfl⟩ e2;simpa using this
theorem Qwo{k:Nat}(hk:ops.size=k+1)(hb:backOnly ops=true){listed:Array Bool}(hs:listed.size=ops.size):∀(N i:Nat),i<=N->i<=k->listed.getD i true=false->Region.ready .any ops listed≠[]:=by
 intro N
 induction N with
 |zero =>
  intro i hi hik hl hr;have hio:∃o,ops[i]?=some o:=⟨ops[i]'(by omega),Mv _⟩
  obtain⟨o,ho⟩:=hio;have hm:i∈Region.ready .any ops listed:=mem_ready.2 ⟨hl,o,ho,fun e he hbe=>by
   unfold backOnly at hb;simp only[Mp]at hb;have:=hb (o,i) (by rw[Kq];simpa using ho);have:=Oab.1 this e he;simp only[hbe,Oam,Bool.false_or,decide_eq_true_eq]at this;omega⟩
  rw[hr]at hm;cases hm
 |succ N ih =>
  intro i hi hik hl hr;have hio:∃o,ops[i]?=some o:=⟨ops[i]'(by omega),Mv _⟩
  obtain⟨o,ho⟩:=hio;have hm:i∈Region.ready .any ops listed:=mem_ready.2 ⟨hl,o,ho,fun e he hbe=>by
   have hb':=hb;unfold backOnly at hb';simp only[Mp]at hb';have:=hb' (o,i) (by rw[Kq];simpa using ho);have:=Oab.1 this e he;simp only[hbe,Oam,Bool.false_or,decide_eq_true_eq]at this;cases hle:listed.getD e.on false with
   |true=>rfl
   |false =>
    exfalso;have hlt:e.on<listed.size:=by omega
    have:listed.getD e.on true=false:=by
     simp only[Me,Mv hlt,Kk]at hle ⊢;exact hle
    exact ih e.on (by omega) (by omega) this hr⟩
  rw[hr]at hm;cases hm
theorem Qfc{k:Nat}{o:Oper}{listed:Array Bool}(ho:ops[k]?=some o)(hc:Closed ops listed)(hi:k∈Region.ready .any ops listed)(hord:∀j,j<k->∃i oi,j<i/\i<=k/\ops[i]?=some oi/\ordered j oi=true):∀(N j:Nat),k<=j+N->j<k->listed.getD j false=true:=by
 intro N
 induction N with
 |zero=>intro j h1 h2;omega
 |succ N ih =>
  intro j h1 h2;obtain⟨i,oi,g1,g2,g3,g4⟩:=hord j h2;unfold ordered at g4;obtain⟨e,he,hbe⟩:=K4.1 g4;simp only[Oo,beq_iff_eq]at hbe;rw[<- hbe.2];by_cases hik:i=k
  ·subst hik;obtain⟨_,o',ho',hall⟩:=mem_ready.1 hi;rw[g3]at ho';cases ho';exact hall e he hbe.1
  ·exact hc i oi (ih i (by omega) (by omega)) g3 e he hbe.1
theorem Qfq:∀(l:List Oper) (s j:Nat),(J2 l s)[j]?=if j<s then l[j]? else(l[j]?).map Qfn
 |[],s,j=>by simp[J2]
 |o::r,0,j=>by
  cases j with
  |zero=>simp[J2]
  |succ j =>
   have:=Qfq r 0 j;simp only[Nat.not_lt_zero,if_false]at this ⊢;simpa[J2]using this
 |o::r,s+1,j=>by
  cases j with
  |zero=>simp[J2]
  |succ j =>
   have:=Qfq r s j;simp only[Nat.succ_lt_succ_iff];simpa[J2]using this
theorem Qdu(ops:Array Oper)(s j:Nat):(Ww ops s)[j]?=if j<s then ops[j]? else(ops[j]?).map Qfn:=by
 unfold Ww;rw[List.getElem?_toArray,Qfq];simp
theorem Qe8:∀(l:List Oper) (s:Nat),(J2 l s).length=l.length
 |[],s=>by simp[J2]
 |o::r,0=>by simp[J2,Qe8 r 0]
 |o::r,s+1=>by simp[J2,Qe8 r s]
theorem Qyk(ops:Array Oper)(s:Nat):(Ww ops s).size=ops.size:=by simp[Ww,Qe8]
theorem Zf3(s j:Nat):((Ww ops s)[j]?).bind (·.dst)=(ops[j]?).bind (·.dst):=by
 rw[Qdu];split
 ·rfl
 ·cases ops[j]? <;> rfl
theorem Ul{s:Nat}{listed:Array Bool}{i:Nat}:i∈Region.ready .any (Ww ops s) listed↔i∈Region.ready .any ops listed:=by
 rw[mem_ready,mem_ready,Qdu];split
 ·rfl
 ·cases ho:ops[i]? with
  |none=>simp
  |some o=>simp[Qfn]
theorem Qto{s:Nat}(Z:St)(x:Oper):Z0 (Ww ops s) Z x=Z0 ops Z x:=by
 rw[Wg,Wg];split
 ·rfl
 ·rw[Zf3]
theorem Qi3:∀(l:List Oper) (i s:Nat),Qf4 T l i=some s->s<i+l.length
 |[],i,s,h=>by cases h
 |o::r,i,s,h=>by
  simp only[Qf4]at h;split at h
  ·cases h;simp
  ·have:=Qi3 r (i+1) s h;simp only[O0];omega
structure TailOk (ops:Array Oper) (s:Nat):Prop where
 lt:s<ops.size
 guard:∀i o,s<=i->ops[i]?=some o->o.guard=none
 ord:∀i,s<=i->i<ops.size->∀j,j<i->∃x ox,j<x/\x<=i/\ops[x]?=some ox/\ordered j ox=true
 back:backOnly ops=true
theorem Qjx{s:Nat}(hlt:s<ops.size)(hc:Ql2 ops s=true):TailOk ops s:=by
 simp only[Ql2,Oo,Mp,H2,Hq,decide_eq_true_eq]at hc;refine⟨hlt,fun i o hi ho=>?_,fun i hi hil j hj=>?_,hc.2⟩
 ·rcases hc.1 i (Kl.1 ho).1 with h|h
  ·omega
  ·have:=h.2;rw[ho]at this;simpa using this
 ·rcases hc.1 i hil with h|h
  ·omega
  ·have h1:=h.1;simp only[Qpc,Mp,H2]at h1;obtain⟨x,hx,hc2⟩:=List.any_eq_true.1 (h1 j hj);simp only[Oo,decide_eq_true_eq]at hc2;cases hox:ops[x]? with
   |none=>rw[hox]at hc2;simp at hc2
   |some ox=>rw[hox]at hc2;exact⟨x,ox,hc2.1,by have:=H2.1 hx;omega,hox,by simpa using hc2.2⟩
theorem Qgc:∀(l:List Oper) (i s:Nat),Qd3 T ops l i=some s->s<i+l.length/\Ql2 ops s=true
 |[],i,s,h=>by cases h
 |o::r,i,s,h=>by
  simp only[Qd3]at h;split at h
  ·rename_i hc;rw[Oo]at hc;cases h;exact⟨by simp,hc.2⟩
  ·have:=Qgc r (i+1) s h;simp only[O0];exact⟨by omega,this.2⟩
theorem Quj{q:List Oper×Array Oper}(h:Qtf T ops=some q):∃s,q=(ops.toList.drop s,Ww ops s)/\TailOk ops s:=by
 unfold Qtf at h;split at h
 ·rename_i s hs;split at h
  ·rename_i hc;cases h;have hlt:=Qi3 _ _ _ hs;simp only[M2,Kv]at hlt;exact⟨s,rfl,Qjx hlt hc⟩
  ·split at h
   ·rename_i s' hs';cases h;have hw:=Qgc _ _ _ hs';simp only[M2,Kv]at hw;exact⟨s',rfl,Qjx hw.1 hw.2⟩
   ·cases h
 ·cases h
noncomputable def Qvp(Z:St)(l:List Oper):St:=l.foldl (fun Z o=>Z.put o.dst (.vl (.one (.bool (.lit 0))))) Z
theorem Qu1{s i:Nat}(ht:TailOk ops s){listed:Array Bool}(hi:s<=i)(hs:listed.size=ops.size)(h1:∀j,j<i->listed.getD j false=true)(h2:∀j,i<=j->j<ops.size->listed.getD j true=false)(hcl:Closed ops listed)(j:Nat) :
  j∈Region.ready .any ops listed↔(j=i/\i<ops.size):=by
 constructor
 ·intro hj;obtain⟨g1,oj,g2,g3⟩:=mem_ready.1 hj;have hjs:=(Kl.1 g2).1;have hij:i<=j:=by
   by_cases hc:j<i
   ·have:=h1 j hc;have hjl:j<listed.size:=by omega
    simp only[Me,Mv hjl,Kk]at g1 this;rw[g1]at this;cases this
   ·omega
  by_cases hji:j=i
  ·exact⟨hji,by omega⟩
  ·exfalso;have hl:=Qfc g2 hcl hj (ht.ord j (by omega) hjs) j i (by omega) (by omega);have hl2:=h2 i (Nat.le_refl _) (by omega);have hil:i<listed.size:=by omega
   simp only[Me,Mv hil,Kk]at hl hl2;rw[hl2]at hl;cases hl
 ·rintro ⟨rfl,hlt⟩
  refine mem_ready.2 ⟨h2 j (Nat.le_refl _) hlt,ops[j],Mv hlt,fun e he hbe=>h1 _ ?_⟩;have hb:=ht.back;unfold backOnly at hb;simp only[Mp]at hb;have:=hb (ops[j],j) (by rw[Kq];simp[hlt]);have:=Oab.1 this e he;simpa only[hbe,Oam,Bool.false_or,decide_eq_true_eq]using this
theorem Qym{s:Nat}(ht:TailOk ops s){Q:St->Prop}{Q':Exit->Act->World->Prop}:∀(fuel i:Nat) (listed:Array Bool) (Z:St),s<=i->i<=ops.size->listed.size=ops.size->(∀j,j<i->listed.getD j false=true)->(∀j,i<=j->j<ops.size->listed.getD j true=false)->Closed ops listed ->
  Qs8 P T (Ww ops s) nv0 len0 E Q fuel listed Z->Q (Qvp Z (ops.toList.drop i))/\∀a w,wpList P ops Q' (ops.toList.drop i) a w->wpAny P .any ops Q' fuel listed a w:=by
 intro fuel
 induction fuel with
 |zero =>
  intro i listed Z hi his hs h1 h2 hcl h;have hr:=Qu1 ht hi hs h1 h2 hcl;by_cases hlt:i<ops.size
  ·exfalso;have:=Ul (s:=s).2 ((hr i).2 ⟨rfl,hlt⟩);rw[h.1]at this;cases this
  ·have hdrop:ops.toList.drop i=[]:=by rw[List.drop_eq_nil_iff];simp;omega
   rw[hdrop];refine⟨h.2,fun a w hw=>⟨?_,hw⟩⟩;apply Hc.2;intro j hj;exact hlt ((hr j).1 hj).2
 |succ fuel ih =>
  intro i listed Z hi his hs h1 h2 hcl h;have hr:=Qu1 ht hi hs h1 h2 hcl;by_cases hlt:i<ops.size
  ·have hmem:=(hr i).2 ⟨rfl,hlt⟩;obtain⟨Z',k1,k2⟩:=h.2 i (Ul.2 hmem);have ho:ops[i]?=some ops[i]:=Mv hlt;have hg:=ht.guard i _ hi ho;have hdrop:ops.toList.drop i=ops[i]::ops.toList.drop (i+1):=by
    rw[List.drop_eq_getElem_cons (by simpa using hlt)];rfl
   have hσ':Z'=Z.put ops[i].dst (.vl (.one (.bool (.lit 0)))):=by
    unfold Vm at k1;rw[Qdu,if_neg (by omega),ho]at k1;simp only[Ka]at k1;have hgy:Z0 (Ww ops s) Z (Qfn ops[i])=.yes:=by rw[Wg];simp only[Qfn,hg]
    rcases k1 with⟨k1,_⟩|⟨_,p,kp,_,_,_,hs'⟩
    ·rw[hgy]at k1;cases k1
    ·have:p={val:=.vl (.one (.bool (.lit 0))) }:=by
      simp only[Qfn,Qz,St.val,vOf,cOf,Ka]at kp;cases kp;rfl
     rw[hs',this];rfl
   have hset:∀j,(listed.setIfInBounds i true).getD j false=true↔(j=i∨listed.getD j false=true):=fun j=>by
    by_cases hij:i=j
    ·subst hij;simp[Me,hs,hlt]
    ·simp only[Me,K1];rw[if_neg hij];exact⟨.inr,fun h=>h.resolve_left (fun e=>hij e.symm)⟩
   obtain⟨q1,q2⟩:=ih (i+1) _ Z' (by omega) (by omega) (by simpa using hs) (fun j hj=>(hset j).2 (by
    by_cases hji:j=i
    ·exact .inl hji
    ·exact .inr (h1 j (by omega)))) (fun j hj hjs=>by
    have:=h2 j (by omega) hjs;simp only[Me,K1]at this ⊢;rw[if_neg (by omega)];exact this) (hcl.set hmem) k2
   rw[hdrop];refine⟨?_,fun a w hw=>⟨fun h0=>?_,fun j hj=>?_⟩⟩
   ·show Q (Qvp (Z.put ops[i].dst _) (ops.toList.drop (i+1)));rw[hσ']at q1;exact q1
   ·rw[h0]at hmem;cases hmem
   ·obtain⟨rfl,_⟩:=(hr j).1 hj;unfold wpOp;rw[ho];simp only;have hw':(if Region.wanted ops[j] (yielded ops a.tmps)then ops[j].wp P a w (wpList P ops Q' (ops.toList.drop (j+1))) Q'∨(ops[j].asks P a w/\LetsOut Q')else wpList P ops Q' (ops.toList.drop (j+1)) (a.put ops[j].dst undef) w):=hw;split
    ·rename_i hwa;rw[if_pos hwa]at hw';rcases hw' with hw'|hw'
     ·exact .inl (Oper.wp_mono (fun a w=>q2 a w) hw')
     ·exact .inr hw'
    ·rename_i hwa;rw[if_neg hwa]at hw';exact q2 _ _ hw'
  ·have hdrop:ops.toList.drop i=[]:=by rw[List.drop_eq_nil_iff];simp;omega
   have hempty:Region.ready .any ops listed=[]:=by
    apply Hc.2;intro j hj;exact hlt ((hr j).1 hj).2
   rw[hdrop];refine⟨h.1 ?_,fun a w hw=>⟨fun _=>hw,fun j hj=>by rw[hempty]at hj;cases hj⟩⟩;apply Hc.2;intro j hj;have:=Ul.1 hj;rw[hempty]at this;cases this
theorem Qs3(hT:∀(g:Nat) Y,T[g]?=some Y->Y.Xjg P w0){nv1:Nat}(hnv:nv0+ops.size*Q1<=nv1){s:Nat}(ht:TailOk ops s)
  {Q:St->Prop} {Q':Exit->Act->World->Prop} {m0:M} {nv:Nat} {al:Nat->Bool}
  (hQ:∀σ0 m' a' w',m'.env=E->MExt m0 nv al m' σ0.nv σ0.al->Rep w0 m' σ0 a' w'->σ0.nv=nv1->Q (Qvp σ0 (ops.toList.drop s))->wpList P ops Q' (ops.toList.drop s) a' w'):∀(fuel:Nat) (listed:Array Bool) (Z:St) (m:M) (a:Act) (w:World),m.env=E->MExt m0 nv al m Z.nv Z.al->Rep w0 m Z a w->Z.nv=nv1 ->
  listed.size=ops.size->Closed ops listed->(∀j,s<=j->j<ops.size->listed.getD j true=false)->Qs8 P T (Ww ops s) nv0 len0 E Q fuel listed Z->wpAny P .any ops Q' fuel listed a w:=by
 intro fuel
 induction fuel with
 |zero =>
  intro listed Z m a w h1 h2 h3 h4 hs hcl hl h;exfalso;have hlt:=ht.lt;have hk:ops.size=(ops.size-1)+1:=by omega
  refine Qwo hk ht.back hs s s (Nat.le_refl _) (by omega) (hl s (Nat.le_refl _) hlt) ?_;apply Hc.2;intro i hi;have hi':=(Ul (s:=s)).2 hi;rw[h.1]at hi';cases hi'
 |succ fuel ih =>
  intro listed Z m a w h1 h2 h3 h4 hs hcl hl h;have hlt:=ht.lt;by_cases hsr:s∈Region.ready .any ops listed
  ·have ho:ops[s]?=some ops[s]:=Mv hlt;have hall:∀j,j<s->listed.getD j false=true:=fun j hj=>Qfc ho hcl hsr (ht.ord s (Nat.le_refl _) hlt) s j (by omega) hj
   obtain⟨q1,q2⟩:=Qym ht (Q:=Q) (Q':=Q') (fuel+1) s listed Z (Nat.le_refl _) (by omega) hs hall hl hcl h;exact q2 _ _ (hQ Z m a w h1 h2 h3 h4 q1)
  ·have hk:ops.size=(ops.size-1)+1:=by omega
   refine⟨fun h0=>(Qwo hk ht.back hs s s (Nat.le_refl _) (by omega) (hl s (Nat.le_refl _) hlt) h0).elim,fun i hi=>?_⟩;obtain⟨Z',k1,k2⟩:=h.2 i (Ul.2 hi);obtain⟨oi,hoi⟩:=Qna hi;have his:i<s:=by
    by_cases hc:i<s
    ·exact hc
    ·exfalso;have hil:=(Kl.1 hoi).1;by_cases hei:i=s
     ·subst hei;exact hsr hi
     ·have hl1:=Qfc hoi hcl hi (ht.ord i (by omega) hil) i s (by omega) (by omega);have hl2:=hl s (Nat.le_refl _) hlt;have hsl:s<listed.size:=by omega
      simp only[Me,Mv hsl,Kk]at hl1 hl2;rw[hl2]at hl1;cases hl1
   have hgi:(Ww ops s)[i]?=some oi:=by rw[Qdu,if_pos his];exact hoi
   have k1':Vm P T ops nv0 len0 E i Z Z':=by
    unfold Vm at k1 ⊢;rw[hgi]at k1;rw[hoi];simp only[Qto]at k1 ⊢;exact k1
   have:=Qix hT hoi h3 h1 (by omega) k1' (K:=wpAny P .any ops Q' fuel (listed.setIfInBounds i true)) (Q:=Q') fun m' a' w' e1 e2 e3 e4 =>
    ih _ Z' m' a' w' e1 (h2.trans e2) e3 (e4.trans h4) (by simpa using hs) (hcl.set hi) (fun j hj hjs=>by
     have:=hl j hj hjs;simp only[Me,K1]at this ⊢;rw[if_neg (by omega)];exact this) k2
   unfold wpOp;rw[hoi];simp only;split
   ·rename_i hw;rw[if_pos hw]at this;exact .inl this
   ·rename_i hw;rw[if_neg hw]at this;exact this
theorem Qpp(t:Nat)(s:SV):∀(l:List Nat) (Z:St),t∈l->Yn {Z with tmps:=Z.tmps.set t s } l=Yn Z l
 |[],Z,h=>by cases h
 |u::r,Z,h=>by
  simp only[Yn];by_cases htu:t=u
  ·subst htu;simp
  ·have hr:t∈r:=by
    rcases O6.1 h with h|h
    ·exact absurd h htu
    ·exact h
   have:=Qpp t s r {Z with tmps:=Z.tmps.set u topS } hr;rw[<- this];simp only;rw[List.set_comm _ _ (fun e=>htu e)]
theorem Ziu(Z:St)(s:SV)(l:List Nat):∀(d:Option Nat),(∀t,d=some t->t∈l)->Yn (Z.put d s) l=Yn Z l:=by
 intro d;cases d with
 |none=>intro _;simp[St.Xi5]
 |some t =>
  intro h;simp only[St.Xi5];exact Qpp t s l Z (h t rfl)
theorem Qk3(L:List Nat):∀(l:List Oper) (Z:St),(∀o∈l,∀t,o.dst=some t->t∈L)->Yn (Qvp Z l) L=Yn Z L
 |[],Z,_=>rfl
 |o::l,Z,h=>by
  show Yn (Qvp (Z.put o.dst _) l) L=_;rw[Qk3 L l _ fun o' ho'=>h o' (Md _ ho'),Ziu _ _ _ _ (h o (Mj ..))]
theorem Qqk:∀(l:List Oper) (Z:St),(Qvp Z l).nv=Z.nv/\(Qvp Z l).lvl=Z.lvl
 |[],Z=>⟨rfl,rfl⟩
 |o::l,Z=>by
  obtain⟨h1,h2⟩:=Qqk l (Z.put o.dst (.vl (.one (.bool (.lit 0)))));refine⟨h1.trans ?_,h2.trans ?_⟩ <;> cases o.dst <;> rfl
theorem Zhl(hm:P.follows .mixedOrders=true)(hT:∀(g:Nat) Y,T[g]?=some Y->Y.Xjg P w0){m:M}{Z:St}{a:Act}{w:World}{id fuel:Nat}{kk:St->Qn}{goal:Gl}{Q:Exit->Act->World->Prop}{q:List Oper×Array Oper}
  (hR:Rep w0 m Z a w) (htl:Qtf T ops=some q) (hd:Qiq q.2=true)
  (hh:(Qed P T q.2 Z.nv Z.boxes.length fuel q.2.toList 0 {Z with nv:=Z.nv+q.2.size*Q1,boxes:=Z.boxes++List.replicate q.2.size none } kk).holds T goal m.env)
  (hK:∀m' a' w' σ0 Z',MExt m Z.nv Z.al m' σ0.nv σ0.al->Rep w0 m' σ0 a' w'->Qvp σ0 q.1=Z'->σ0.nv=Z'.nv->Z'.lvl=Z.lvl->(kk Z').holds T goal m'.env->wpList P ops Q q.1 a' w') (hall:∀Z' E,(kk Z').holds T goal E->Qjq T Z' q.2=true):(Code.region id ops true).wp P Q a w:=by
 obtain⟨s,rfl,ht⟩:=Quj htl;simp only at hd hK hh hall;have hsz:(Ww ops s).size=ops.size:=Qyk ops s;have hB:=hd;unfold Qiq at hB;simp only[Region.lexB,Oo]at hB;obtain⟨E,Z',e3,e5,hnv',e2,hr2,hx⟩:=Qud hT hR hh;have hcalm:=hall Z' E e3;refine wp_region_any hm (Qs3 (len0:=Z.boxes.length) hT (nv0:=Z.nv) (nv1:=Z.nv+(Ww ops s).size*Q1) (by rw[hsz];exact Nat.le_refl _) ht (Q:=fun s=>s=Z') (m0:=m) (nv:=Z.nv) (al:=Z.al) (fun σ0 m' a' w' h1 h2 h3 h5 h4=>by
  exact hK m' a' w' σ0 Z' h2 h3 h4 (h5.trans hnv'.symm) e5 (by rw[h1];exact e3)) _ _ {Z with boxes:=Z.boxes++List.replicate (Ww ops s).size none,nv:=Z.nv+(Ww ops s).size*Q1,kn:=Z'.kn } _ _ _ rfl ?_ hr2 rfl (by simp) (fun i oi hi=>by simp[Me,Array.getElem?_replicate]at hi;split at hi <;> simp at hi) (fun j _ hj=>by rw[Me,Mv (by simp;omega)];simp) ?_)
 ·exact hx
 ·have:=Qm8 hT (nv1:=Z.nv+(Ww ops s).size*Q1) (Nat.le_refl _) hcalm (Ww ops s).toList 0 (Array.replicate (Ww ops s).size false) _ (fun j=>by rw[Array.getElem?_toList,M2]) (by rw[Kv];exact hB.2) (Qi9 _ _) ⟨_,_,_,rfl,hr2,rfl⟩ e2;rw[Kv,hsz]at this;rw[hsz];exact this
end
section
variable {P:Program}{T:List K}{w0:World}{m:M}{Z:St}{a:Act}{w:World}
theorem Rep.Xi6(h:Rep w0 m Z a w){v:Nat}{b:Bool}(hv:v<Z.nv)(hb:decide (m.env v≠0)=b):Rep w0 m (Z.Xi6 v b) a w :=
 ⟨h.defers,h.size,h.tmp,h.below,h.own,h.ro,h.inj,fun p hp=>by
  rcases O6.1 hp with rfl|hp
  ·exact⟨hv,hb⟩
  ·exact h.kn p hp,h.gl,h.rows,h.rbox,h.rsep,h.base⟩
theorem Qyl{x:A}{n:Nat}(h:Xis Z x=.need n):x=.v n:=by
 cases x with
 |lit k=>simp only[Xis]at h;split at h <;> cases h
 |v k=>simp only[Xis]at h;split at h <;> cases h;rfl
 |m a b=>cases h
 |elt k a b=>cases h
theorem Zii(h:Rep w0 m Z a w){r:ResultVar}{v:V}(hr:Qld P Z r=some v):∃u,((match r with|.tmp t=>pure (a.tmps.getD t undef)|.cell ad t=>do loadVar t (<- asAddr (a.tmps.getD ad undef))):Sem Value).run P w=.ok u w/\v.rel m Z.nv Z.al u:=by
 cases r with
 |tmp t =>
  simp only[Qld]at hr;have:=h.get t;split at hr
  ·rename_i v' hv;cases hr;rw[hv]at this;exact⟨_,rfl,this⟩
  ·cases hr
 |cell t ty =>
  simp only[Qld]at hr;have:=h.get t;split at hr
  ·rename_i id off hv;rw[hv]at this;obtain⟨h1,h2⟩:C.rel m Z.nv Z.al (.ptr id off) _:=this;split at hr
   ·rename_i b d n hb hd hn;split at hr
    ·rename_i ha;split at hr
     ·cases hr
     ·rename_i hl;cases hr;obtain⟨vs,hvl,hr,hv⟩:=h.reads hb off n (by omega);refine⟨.agg vs.toArray,?_,vs,rfl,hr⟩;simp only[h2];simp[asAddr,W3 hd ha (by rw[hn,hvl]) hv]
    ·rename_i ha;split at hr
     ·rename_i c hc;cases hr;obtain⟨v,hv,hr⟩:=h.read hb _ _ hc;refine⟨v,?_,hr⟩;simp only[h2];simp[asAddr,Y3 hd (by simpa using ha) hv]
     ·cases hr
   ·cases hr
  ·cases hr
theorem Zo9(h:Rep w0 m Z a w):∀(l:List ResultVar) (vs:List V),Ze (Qld P Z) l=some vs->∃us:List Value,
  ((l.mapM fun(r:ResultVar)=>((match r with|.tmp t=>pure (a.tmps.getD t undef)|.cell ad t=>do loadVar t (<- asAddr (a.tmps.getD ad undef))):Sem Value)):Sem (List Value)).run P w=.ok us w/\Zn m Z.nv Z.al vs us:=by
 intro l
 induction l with
 |nil=>intro vs hvs;simp[Ze]at hvs;subst hvs;exact⟨[],rfl,trivial⟩
 |cons r l ih =>
  intro vs hvs;unfold Ze at hvs;split at hvs
  ·cases hvs
  ·rename_i y hy;split at hvs
   ·cases hvs
   ·rename_i ys hys;cases hvs;obtain⟨u,h1,h2⟩:=Zii h hy;obtain⟨us,h3,h4⟩:=ih ys hys;refine⟨u::us,?_,h2,h4⟩;rw[List.mapM_cons];simp only[Sem.run_bind,h1,Result.andThen_ok,h3,Sem.run_pure]
theorem Zl2(h:Rep w0 m Z a w){fn:Func}{vs:List V}(hr:Qxg P Z fn=some vs):∃us:List Value,(results fn a.tmps).run P w=.ok (Qj1 us) w/\Zn m Z.nv Z.al vs us:=by
 obtain⟨us,h1,h2⟩:=Zo9 h _ _ hr;refine⟨us,?_,h2⟩;unfold results;rw[Array.mapM_eq_mapM_toList];rw[bind_map_left,Sem.run_bind];refine(congrArg (fun r=>Result.andThen r _) h1).trans ?_;rw[Result.andThen_ok,Sem.run_pure];cases us with
 |nil=>rfl
 |cons u us=>cases us with
  |nil=>rfl
  |cons u' us=>simp[Qj1]
theorem Qpq(h:Rep w0 m Z a w){args:List V}{us:List Value}(hr:Zn m Z.nv Z.al args us)(n:Nat) :
  Rep w0 m {Z with tmps:=args.map SV.vl++List.replicate (n-args.length) Wj } {tmps:=us.toArray++Array.replicate (n-us.toArray.size) undef,defers:=[] } w:=by
 have hl:=hr.length;refine⟨rfl,by simp[hl],fun i s hi=>?_,h.below,h.own,h.ro,h.inj,h.kn,h.gl,h.rows,h.rbox,h.rsep,h.base⟩;have hi:(args.map SV.vl++List.replicate (n-args.length) Wj)[i]?=some s:=hi;show ∃v,(us.toArray++Array.replicate (n-us.toArray.size) undef)[i]?=some v/\s.rel m Z.nv Z.al v;by_cases hlt:i<args.length
 ·rw[Mh (by simpa using hlt),M0]at hi;cases hai:args[i]? with
  |none=>rw[hai]at hi;cases hi
  |some v =>
   rw[hai]at hi;cases hi;obtain⟨u,hu,hv⟩:=hr.get i v hai;exact⟨u,by rw[Array.getElem?_append_left (by simp;omega)];simpa using hu,hv⟩
 ·rw[O7 (by simp;omega),List.getElem?_replicate]at hi;split at hi
  ·rename_i hlt2;cases hi;refine⟨undef,?_,[],rfl,trivial⟩;rw[Array.getElem?_append_right (by simp;omega),Array.getElem?_replicate,if_pos];simp only[List.size_toArray];simp only[Mn]at hlt2;rw[<- hl];exact hlt2
  ·cases hi
theorem Rep.back{Z':St}{m':M}{a':Act}{w':World}(h:Rep w0 m Z a w)(h':Rep w0 m' Z' a' w')(hx:MExt m Z.nv Z.al m' Z'.nv Z'.al):Rep w0 m' {Z' with tmps:=Z.tmps } a w' :=
 ⟨h.defers,h.size,fun i s hi=>by obtain⟨v,hv,hs⟩:=h.tmp i s hi;exact⟨v,hv,SV.Xiq hx hs⟩,h'.below,h'.own,h'.ro,h'.inj,h'.kn,h'.gl,h'.rows,h'.rbox,h'.rsep,h'.base⟩
theorem Zhg{o:Oper}{nn nid f:Nat}{args:List V}(h:Rep w0 m Z a w)(hp:Qz P T Z nn nid o.op=.call f args) :
  ∃us:List Value,Zn m Z.nv Z.al args us/\(execOp a.eval o).run P w=(callFunc f us.toArray).run P w:=by
 cases ho:o.op with
 |call c =>
  rw[ho]at hp;simp only[Qz]at hp;split at hp
  ·cases hp
  ·rename_i args' hargs;have hvr:=Qgx h _ _ hargs;split at hp
   ·repeat' split at hp
    all_goals (first|(cases hp;done)|(unfold Vp at hp;cases hp;done))
   ·repeat' split at hp
    all_goals (first|(cases hp;done))
   ·repeat' split at hp
    all_goals (first|(cases hp;done))
   ·repeat' split at hp
    all_goals (first|(cases hp;done))
   ·split at hp
    ·cases hp
    ·cases hp
   ·cases hp
   ·cases hp
   ·rename_i x hcal;split at hp
    ·rename_i f' caps hx;have hfx:=h.cell hx;split at hp
     ·repeat' split at hp
      all_goals (cases hp;done)
     ·simp only[Pl.call.injEq]at hp;obtain⟨rfl,rfl⟩:=hp;refine⟨c.args.toList.map a.eval++caps.map fun p=>Value.pointer (some (m.at p.1 p.2)),?_,?_⟩
      ·exact hvr.append (Qat hfx.1)
      ·rw[Qej ho hcal hfx.2];congr 2;apply Array.ext';simp
    ·cases hp
 |binOp op t x y yt =>
  rw[ho]at hp;simp only[Qz]at hp;split at hp
  ·split at hp
   ·cases hp
   rename_i hnone;clear hnone;unfold Ue at hp;split at hp
   ·simp only[By,mkP]at hp;repeat' split at hp
    all_goals (cases hp;done)
   all_goals
    try simp only[mkP,Vp]at hp
    repeat' split at hp
    all_goals (cases hp;done)
  ·cases hp
 |_ =>
  rw[ho]at hp;simp only[Qz,Vp,Bv,mkP,J8]at hp;repeat' split at hp
  all_goals (cases hp;done)
theorem Qhk{f:FuncId}{fn:Func}{args:Array Value}(hf:P.funcs[f]?=some fn)(hn:(fn.name == "runtime.NumGoroutine")=false){c:Code}(hb:fn.body=some c):(callFunc f args).run P w=.ok (.enter f args) w:=by
 have hn':¬fn.name = "runtime.NumGoroutine":=by simpa using hn
 simp[callFunc,hf,hn',hb]
end
theorem Bl{a b:A}(h:aEq a b=true):a=b:=by
 cases a <;> cases b <;> simp[aEq]at h
 ·rw[h]
 ·rw[h]
 ·rw[h.1,h.2]
 ·rw[h.1.1,h.1.2,h.2]
theorem Zd1{a b:C}(h:Ztf a b=true):a=b:=by
 cases a <;> cases b <;> simp only[Ztf,Oo,beq_iff_eq,K2]at h <;> first|rfl|skip
 ·obtain⟨h1,h2⟩:=h;first|rw[Qbz h1,Bl h2]|rw[h1,Bl h2]
 ·rw[Bl h]
 ·rw[h.1,h.2]
 ·rw[h.1.1.1,h.1.1.2,h.1.2,h.2]
 ·rw[h.1,h.2]
 ·rw[h]
 ·rw[h.1.1.1,h.1.1.2,Bl h.1.2,h.2]
 ·rw[h]
 ·rw[h.1.1,Bl h.1.2,Z5 h.2]
 ·rw[h.1.1.1,Bl h.1.1.2,Bl h.1.2,Z5 h.2]
 ·rw[Bl h]
 ·rw[h.1.1.1,h.1.1.2,Bl h.1.2,h.2]
 ·rw[Bl h]
 ·rw[Bl h]
theorem Qli:∀ {a b:List C},Quv a b=true->a=b
 |[],[],_=>rfl
 |a::as,b::bs,h=>by
  simp only[Quv,Oo]at h;rw[Zd1 h.1,Qli h.2]
theorem Zdz{a b:V}(h:Zro a b=true):a=b:=by
 cases a <;> cases b <;> simp only[Zro,K2]at h
 ·rw[Zd1 h]
 ·rw[Qli h]
theorem Qvf:∀ {a b:List V},Zcx a b=true->a=b
 |[],[],_=>rfl
 |a::as,b::bs,h=>by
  simp only[Zcx,Oo]at h;rw[Zdz h.1,Qvf h.2]
theorem Zdt{a b:SV}(h:Zu9 a b=true):a=b:=by
 cases a <;> cases b <;> simp only[Zu9,K2]at h
 ·rw[Zdz h]
 ·rw[Qvf h]
theorem Qp6:∀ {as bs:List SV},Qsx as bs=true->as.length=bs.length/\∀(i:Nat) s,as[i]?=some s->s=topS∨bs[i]?=some s
 |[],[],_=>⟨rfl,by simp⟩
 |a::as,b::bs,h=>by
  simp only[Qsx,Oo,Hq]at h;obtain⟨h1,h2⟩:=Qp6 h.2;refine⟨by simp[h1],fun i s hi=>?_⟩;cases i with
  |zero =>
   simp at hi;subst hi;rcases h.1 with h3|h3
   ·left
    split at h3
    ·rfl
    ·cases h3
   ·right;rw[Zdt h3];rfl
  |succ i=>simpa using h2 i s (by simpa using hi)
theorem Zn2{a b:Option Row}(h:Zl7 a b=true):a=b:=by
 cases a with
 |none=>cases b with
  |none=>rfl
  |some r=>cases h
 |some q=>cases b with
  |none=>cases h
  |some r =>
   simp only[Zl7,Zn5,Oo,beq_iff_eq]at h;obtain⟨⟨⟨⟨⟨h1,h2⟩,h3⟩,h4⟩,h5⟩,h6⟩:=h;cases q;cases r;simp only at h1 h2 h3 h4 h5 h6;rw[Qx9 h1,Qx9 h2,Z5 h3,h4,h5,h6]
theorem Znw{a b:Option Box}(h:Zmb a b=true){x:Box}(hx:a=some x):b=some x:=by
 subst hx;cases b with
 |none=>cases h
 |some y =>
  simp only[Zmb,Oo,beq_iff_eq]at h;obtain⟨⟨⟨⟨h1,h5⟩,h2⟩,h3⟩,h4⟩:=h;cases x;cases y;simp only at h1 h2 h3 h4 h5;rw[h1,h2,Qli h3,Zn2 h4,h5]
theorem Qe9:∀ {as bs:List (Option Box)},Qdy as bs=true->∀(i:Nat) b,as[i]?=some (some b)->bs[i]?=some (some b)
 |[],_,_=>by simp
 |a::as,b::bs,h=>by
  simp only[Qdy,Oo]at h;intro i x hi;cases i with
  |zero=>simp at hi;have:=Znw h.1 hi;simp[this]
  |succ i=>simpa using Qe9 h.2 i x (by simpa using hi)
 |a::as,[],h=>by
  simp only[Qdy,Oo]at h;intro i x hi;cases i with
  |zero=>simp at hi;subst hi;cases h.1
  |succ i=>exact absurd (Qe9 h.2 i x (by simpa using hi)) (by simp)
theorem Zvf(Z:St)(cs:List C)(h:Hp):(setH Z cs h).al=Z.al:=by
 cases h with
 |slot t=>simp only[setH];split <;> rfl
 |view t =>
  simp only[setH];repeat' split
  all_goals rfl
 |box t =>
  simp only[setH];split
  ·rename_i id _;split
   ·rename_i b hb;have:=Z3 Z id {b with cells:=cs }
    funext i
    rw[show({Z with boxes:=Z.boxes.set id (some {b with cells:=cs }) }:St)=Z.Xik id {b with cells:=cs } from rfl,this];split
    ·rename_i hi;rw[hi.1];rw[St.Xit]at hb;split at hb
     ·rename_i b' hb';exact(Vw.2 ⟨b',hb'⟩).symm
     ·cases hb
    ·rfl
   ·rfl
  ·rfl
theorem Qru:∀(hav:List (Hp×List L)) (nn:Nat) (Z:St),(Uz Z nn hav).al=Z.al
 |[],_,_=>rfl
 |(h,ls)::r,nn,Z=>by simp only[Uz];rw[Qru r,Zvf]
theorem Qne:∀(hav:List (Hp×List L)) (nn:Nat) (Z:St),(Uz Z nn hav).tmps.length=Z.tmps.length
 |[],_,_=>rfl
 |(h,ls)::r,nn,Z=>by simp only[Uz];rw[Qne r,Zop]
theorem Zil(Z:St)(cs:List C)(h:Hp):(setH Z cs h).kn=Z.kn/\(setH Z cs h).gl=Z.gl:=by
 cases h <;> simp only[setH] <;> (repeat' split) <;> exact⟨rfl,rfl⟩
theorem Qd4:∀(hav:List (Hp×List L)) (nn:Nat) (Z:St),(Uz Z nn hav).kn=Z.kn/\(Uz Z nn hav).gl=Z.gl
 |[],_,_=>⟨rfl,rfl⟩
 |(h,ls)::r,nn,Z=>by simp only[Uz];rw[(Qd4 r _ _).1,(Qd4 r _ _).2];exact Zil ..
theorem Qns{hav:List (Hp×List L)}(ha:Qhb hav=true):∀q∈hav,∀t,q.1=.box t->∀q'∈hav,q'.1≠.slot t/\q'.1≠.view t:=by
 simp only[Qhb,Mp,Oo]at ha;intro q hq t hqt q' hq';have:=(ha q hq).2;rw[hqt]at this;simp only[K9,List.any_eq_false]at this;have:=this q' hq';refine⟨fun hs=>?_,fun hs=>?_⟩ <;> (rw[hs]at this;simp[Qlz]at this)
structure HeadOk (σh:St) (N:Nat) (hav:List (Hp×List L)):Prop where
 tmp:∀(i:Nat) s,σh.tmps[i]?=some s->s=topS∨(∃q∈hav,q.1=.slot i)∨((∃q∈hav,q.1=.view i)/\s.okV N σh.al)∨s.okN N σh.al
 box:∀(id:Nat) b,σh.boxes[id]?=some (some b)->(∃(j:Nat) (t:Nat) (ls:List L),hav[j]?=some (.box t,ls)/\σh.get t=.vl (.one (.ptr id 0)))∨∀c∈b.cells,C.okN N σh.al c
 row:∀(id:Nat) (b:Box) (r:Row),σh.boxes[id]?=some (some b)->b.row=some r->r.x.ok N/\r.x0.ok N
theorem C.Xi2{N N':Nat}{al:Nat->Bool}{c:C}(h:c.okN N al)(hn:N<=N'):c.okN N' al:=by
 cases c <;> simp only[C.okN]at h ⊢ <;> first|exact A.Xii h hn|exact h|exact⟨h.1,A.Xii h.2.1 hn,A.Xii h.2.2 hn⟩|exact⟨h.1,A.Xii h.2 hn⟩|exact⟨A.Xii h.1 hn,A.Xii h.2 hn⟩
theorem SV.Xi2{N N':Nat}{al:Nat->Bool}{s:SV}(h:s.okN N al)(hn:N<=N'):s.okN N' al:=by
 cases s with
 |vl v=>exact fun c hc=>C.Xi2 (h c hc) hn
 |tup l=>exact fun v hv c hc=>C.Xi2 (h v hv c hc) hn
section
variable {P:Program}{T:List K}{w0:World}{m:M}{Z:St}{a:Act}{w:World}
theorem Zsf(h:Rep w0 m Z a w){n0 nv' lv:Nat}{hav:List (Hp×List L)}(ha:Qhb hav=true)(hn:Z.nv<=n0):HeadOk {Uz Z n0 hav with nv:=nv',lvl:=lv } n0 hav:=by
 have hal:({Uz Z n0 hav with nv:=nv',lvl:=lv }:St).al=Z.al:=Qru hav n0 Z;refine⟨fun i s hi=>?_,fun id b hb=>?_,fun id b r hb hr=>?_⟩
 ·rcases Qif hav n0 Z i s (Qr0 ha) hi with⟨h1,_⟩|⟨j,ls,h1,_⟩|⟨j,h1,id,lo,hi',k,h2,h3⟩
  ·obtain⟨v,_,hr⟩:=h.tmp i s h1;exact .inr (.inr (.inr (by rw[hal];exact SV.Xi2 (SV.Xiv hr) hn)))
  ·exact .inr (.inl ⟨_,Mq h1,rfl⟩)
  ·obtain⟨v,_,hr⟩:=h.tmp i _ h2;obtain⟨b1,b2,b3,_⟩:=(show C.rel m Z.nv Z.al (.slv id lo hi' k) v from hr)
   exact .inr (.inr (.inl ⟨⟨_,Mq h1,rfl⟩,id,_,hi',k,h3,by rw[hal];exact b1,A.Xii b3.1 hn⟩))
 ·have hsl:=Qns ha;obtain⟨b0,h1,h2,h3,h4⟩:=Yv hav n0 Z id b hsl hb;rcases h4 with⟨rfl,_⟩|⟨j,t,ls,h5,h6,_⟩
  ·right
   rw[hal];cases ho:b.own with
   |true=>obtain⟨_,_,vs,_,hr⟩:=h.own id b h1 ho;exact fun c hc=>C.Xi2 (Rels.okN hr c hc) hn
   |false =>
    intro c hc;rcases h.ro id b h1 ho with h0|⟨_,hr⟩
    ·rw[h0]at hc;cases hc
    obtain⟨j,hj⟩:=Hl.1 hc;obtain⟨v,_,hv⟩:=hr j c hj;exact C.Xi2 (C.Xiv hv) hn
  ·refine .inl ⟨j,t,ls,h5,?_⟩;show(Uz Z n0 hav).get t=_;rw[Qw2 hav n0 Z t (hsl _ (Mq h5) t rfl)];exact h6
 ·obtain⟨b0,g1,g2⟩:=Vx hav n0 Z id b hb;obtain⟨r1,r2,_⟩:=h.rows id b0 r g1 (g2.symm.trans hr);exact⟨A.Xii r1.1 hn,A.Xii r2.1 hn⟩
theorem Qin:∀(l:List Nat) {Z:St},Rep w0 m Z a w->Rep w0 m (Yn Z l) a w
 |[],_,h=>h
 |t::r,Z,h=>by
  refine Qin r ?_;refine⟨h.defers,by simp[h.size],fun i s hi=>?_,h.below,h.own,h.ro,h.inj,h.kn,h.gl,h.rows,h.rbox,h.rsep,h.base⟩;have hi:(Z.tmps.set t topS)[i]?=some s:=hi;by_cases hti:t=i
  ·subst hti;have hlt:t<Z.tmps.length:=by simpa using(Ou.1 hi).1
   rw[L1 hlt]at hi;cases hi;obtain⟨v,hv,_⟩:=h.tmp t _ (O4 hlt);exact⟨v,hv,trivial⟩
  ·rw[O3 hti]at hi;exact h.tmp i s hi
theorem Qfu:∀(l:List Nat) (Z:St),(Yn Z l).nv=Z.nv/\(Yn Z l).boxes=Z.boxes/\(Yn Z l).kn=Z.kn/\(Yn Z l).gl=Z.gl/\(Yn Z l).lvl=Z.lvl/\(Yn Z l).tmps.length=Z.tmps.length
 |[],_=>⟨rfl,rfl,rfl,rfl,rfl,rfl⟩
 |t::r,Z=>by
  obtain⟨h1,h2,h3,h4,h5,h6⟩:=Qfu r {Z with tmps:=Z.tmps.set t topS };exact⟨h1,h2,h3,h4,h5,h6.trans (by simp)⟩
theorem Zad{c:Code}{Q:Exit->Act->World->Prop}(J:Nat->Act->World->Prop){n0:Nat}(h₀:J n0 a w)
  (round:∀n a w,J n a w->c.wp P (Exit.then (fun a' w'=>∃n',n'<n/\J n' a' w') Q) a w):(Code.loop c).wp P Q a w:=by
 intro b k cs;have key:∀n a w,J n a w->∃e a' w',Q e a' w'/\Arrives P (lone (b.at a (.code c :: .inLoop c::k)) cs w) b k cs e a' w':=by
  intro n
  induction n using Nat.strongRecOn with
  |_ n ih =>
   intro a w hI;obtain⟨e,a₁,w₁,hq,harr⟩:=round n a w hI b (.inLoop c::k) cs;cases e with
   |normal =>
    obtain⟨n',hlt,hI₁⟩:=hq;obtain⟨e₂,a₂,w₂,hq₂,harr₂⟩:=ih n' hlt a₁ w₁ hI₁;exact⟨e₂,a₂,w₂,hq₂,.of_steps (Steps.trans harr (.one step_inLoop)) harr₂⟩
   |exit id=>exact⟨_,a₁,w₁,hq,.pass (x:=.inLoop c) rfl (fun _ _=>.inl (by simp)) harr⟩
   |goto l=>exact⟨_,a₁,w₁,hq,.pass (x:=.inLoop c) rfl (fun _ _=>.inl (by simp)) harr⟩
   |ret=>exact⟨_,a₁,w₁,hq,.pass (x:=.inLoop c) rfl (fun _ _=>.inl (by simp)) harr⟩
   |panic ch=>exact⟨_,a₁,w₁,hq,.pass (x:=.inLoop c) rfl (fun _ _=>.inl (by simp)) harr⟩
   |outgrown=>exact⟨_,a₁,w₁,hq,.pass (x:=.inLoop c) rfl (fun _ _=>.inl (by simp)) harr⟩
 obtain⟨e,a',w',hq,harr⟩:=key _ a w h₀;exact⟨e,a',w',hq,.of_steps (.one step_loop) harr⟩
theorem V0:∀(vs:List Int) (e:Nat->Int) (n i:Nat),i<n->Qbj e n vs i=e i
 |[],_,_,_,_=>rfl
 |v::vs,e,n,i,h=>by
  simp only[Qbj];rw[V0 vs _ _ _ (by omega)];simp[upd];omega
theorem Qc1:∀(vs:List Int) (e:Nat->Int) (n i:Nat) (x:Int),vs[i]?=some x->Qbj e n vs (n+i)=x
 |[],_,_,_,_,h=>by simp at h
 |v::vs,e,n,0,x,h=>by
  simp at h;subst h;simp only[Qbj];rw[V0 vs _ _ _ (by omega)];simp[upd]
 |v::vs,e,n,i+1,x,h=>by
  simp only[Qbj];have:=Qc1 vs (upd e n v) (n+1) i x (by simpa using h);rwa[show n+1+i=n+(i+1) by omega]at this
def U8(g g':Gl):Prop:=g'.goal=g.goal/\∃r,g'.stk=g.stk++r
theorem U8.refl(g:Gl):U8 g g:=⟨rfl,[],by simp⟩
theorem U8.trans{g g' g'':Gl}(h:U8 g g')(k:U8 g' g''):U8 g g'':=by
 obtain⟨h1,r,h2⟩:=h;obtain⟨k1,s,k2⟩:=k;exact⟨k1.trans h1,r++s,by rw[k2,h2,K8]⟩
def Qih:Ex->Exit|.normal=>.normal|.exit id=>.exit id|.ret=>.ret
end
section
variable {P:Program}{T:List K}{w0:World}{m:M}{Z:St}{a:Act}{w:World}{o:Oper}
theorem Zhq(k:LK)(l:List Int)(x:Int):flat k (l++[x])=flat k l++k.Xi0 x:=by simp[flat]
structure GrowSpec (P:Program) (Z:St) (nn:Nat) (o:Oper) (g:Grow) (s x:Operand) (t:TypeId) (i:TypeInfo) (z:Value) (id off cap:Nat) (b:Box):Prop where
 op:o.op=.call {callee:=.builtin .append,args:=#[s,x],argTypes:=#[t,t] }
 und:P.underlying t=some (.slice g.elem)
 info:P.info? g.elem=some i
 zero:i.zero=some z
 zs:z.cells.size=i.size
 size:i.size=g.k.sz
 bytes:i.bytes<=16384
 cell:Z.cell x=some (.slice id off 1 cap)
 box:Z.box id=some b
 len:g.k.sz<=(b.cells.drop off).length
 take:takeK nn g.k ((b.cells.drop off).take g.k.sz)=some (g.defs,g.a)
 old:(g.old=none/\g.x0=.lit 0/\Z.cell s=some .nilslice)∨∃id' r,g.old=some id'/\g.x0=r.x/\Z.cell s=some (.sl id')/\Z.row id'=some r/\r.own=true/\r.elem=g.elem/\r.k=g.k
theorem Zft{nn:Nat}{g:Grow}(h:Qpl P Z nn o.op=some g):∃s x t i z id off cap b,GrowSpec P Z nn o g s x t i z id off cap b:=by
 unfold Qpl at h;split at h
 ·rename_i c hop;split at h
  ·rename_i t t' s x hc ht hx;split at h
   ·rename_i htt;split at h
    ·rename_i e hu;split at h
     ·rename_i i k hi hk;split at h
      ·rename_i z hz;split at h
       ·rename_i hcond;simp only[Oo,beq_iff_eq,decide_eq_true_eq]at hcond;split at h
        ·rename_i id off cap hcx;split at h
         ·rename_i b hb;split at h
          ·rename_i hlen;split at h
           ·rename_i ds y htk;have hop':o.op=.call {callee:=.builtin .append,args:=#[s,x],argTypes:=#[t,t] }:=by
             have htt':t=t':=by simpa using htt
             subst htt';rw[hop];obtain⟨callee,args,tys⟩:=c;simp only at hc ht hx;subst hc;have ea:args=#[s,x]:=Array.ext' (by simpa using hx);have et:tys=#[t,t]:=Array.ext' (by simpa using ht);rw[ea,et]
            split at h
            ·rename_i hs;cases h;exact⟨s,x,t,i,z,id,off,cap,b,⟨hop',hu,hi,hz,hcond.1.1,hcond.1.2,hcond.2,hcx,hb,by simpa using hlen,htk,.inl ⟨rfl,rfl,hs⟩⟩⟩
            ·rename_i id' hs;split at h
             ·rename_i r hr;split at h
              ·rename_i hrc;simp only[Oo,beq_iff_eq]at hrc;cases h;exact⟨s,x,t,i,z,id,off,cap,b,⟨hop',hu,hi,hz,hcond.1.1,hcond.1.2,hcond.2,hcx,hb,by simpa using hlen,htk,.inr ⟨id',r,rfl,rfl,hs,hr,hrc.1.1,hrc.1.2,Z5 hrc.2⟩⟩⟩
              ·cases h
             ·cases h
            ·cases h
           ·cases h
          ·cases h
         ·cases h
        ·cases h
       ·cases h
      ·cases h
     ·cases h
    ·cases h
   ·cases h
  ·cases h
 ·cases h
theorem Zu3(hR:Rep w0 m Z a w){nid:Nat}(hn:Z.boxes[nid]?=some none){g:Grow}(hg:Qpl P Z Z.nv o.op=some g){goal:Gl}{t:Qn}{K:Act->World->Prop}{Q:Exit->Act->World->Prop}
  (hh:(Jc Z.nv (g.defs++[(.int .i64,.llen g.x0),(.bit,.cmp .lss (.v (Z.nv+g.defs.length)) (.lit 4294967296))]) (.nz (.v (Z.nv+(g.defs.length+1))) (.l (Z.nv+(g.defs.length+2)) (.lst g.k) (.lapp g.x0 [g.a]) t))).holds T goal m.env)
  (hK:∀m' a' w',MExt m Z.nv Z.al m' (Qjn Z nid g o.dst).nv (Qjn Z nid g o.dst).al->Rep w0 m' (Qjn Z nid g o.dst) a' w'->t.holds T goal m'.env->K a' w'):o.wp P a w K Q:=by
 obtain⟨s,x,ty,i,z,id,off,cap,b,G⟩:=Zft hg;obtain⟨vs,hvl,hr,hv⟩:=hR.reads G.box off g.k.sz G.len;obtain⟨k1,k3⟩:=Qg2 (T:=T) G.take m Z.nv vs hr;obtain⟨k1,k4⟩:=k1 (Nat.le_refl _)
 have hx0:g.x0.wf Z.nv m.env/\g.k.hasL (dec (g.x0.ev m.env))/\w.ownsRow w0.heap.size g.elem g.k.sz (a.eval s) (dec (g.x0.ev m.env)).length (flat g.k (dec (g.x0.ev m.env))) /\
   (match g.old with|none=>(a.eval s).ownBlock=none|some id=>∃b q,Z.boxes[id]?=some (some b)/\b.row=some q/\q.own=true/\m.sv id=a.eval s):=by
  rcases G.old with⟨h1,h2,h3⟩|⟨id',r,h1,h2,h3,h4,h5,h6,h7⟩
  ·have hs:a.eval s=.slice none 0 0:=hR.cell h3;rw[h1,h2,hs];simp only[A.ev,Qu];exact⟨⟨trivial,trivial⟩,⟨by simp,by simp⟩,World.ownsRow_nil ..,rfl⟩
  ·have hs:Z.al id'=true/\a.eval s=m.sv id'/\(a.eval s).oneCell'=true:=hR.cell h3;obtain⟨q1,q2,_,_,q3⟩:=hR.Xim h4;obtain⟨bx,hbx,hbr⟩:=Qgu h4;have q4:=q3.2.1;rw[h5]at q4;simp only[if_true]at q4;rw[h1,h2,<- h6,<- h7,hs.2.1];exact⟨q2,q3.1,q4,bx,r,hbx,hbr,h5,rfl⟩
 obtain⟨x1,x2,x3,x4⟩:=hx0;generalize hl:dec (g.x0.ev m.env)=l at x2 x3;have gen:Zh T m.env Z.nv (g.defs++[(.int .i64,.llen g.x0),(.bit,.cmp .lss (.v (Z.nv+g.defs.length)) (.lit 4294967296))]):=by
  refine Q8 _ _ _ _ k1 fun e' he _=>⟨A.Xii x1.1 (by omega),?_,⟨Hh _,trivial⟩,Q6 _,trivial⟩
  simp only[KK.has,D.ev];rw[A.Xih x1.1 he,hl];have:=x2.1;simp only[has,lo,hi];omega
 obtain⟨e1,b1,b2,b3,b4⟩:=Xm _ _ _ hh gen;obtain⟨c1,c2⟩:=(Told.append).1 b3;have hx0e:g.x0.ev e1=g.x0.ev m.env:=A.Xih x1.1 b1;have d0:e1 (Z.nv+g.defs.length)=(l.length:Int):=by
  have:=(c2 0 _ _ rfl).1;simpa[D.ev,hx0e,hl]using this
 have d1:e1 (Z.nv+g.defs.length+1)=X6 (decide (e1 (Z.nv+g.defs.length)<4294967296)):=(c2 1 _ _ rfl).1;obtain⟨nzf,lt⟩:=b4;have hlen:l.length<4294967296:=by
  have:e1 (Z.nv+g.defs.length+1)≠0:=nzf;rw[d1,d0]at this;by_cases hc:(l.length:Int)<4294967296
  ·omega
  ·simp[hc,X6]at this
 obtain⟨v1,v2⟩:=k3 e1 b1 c1;generalize hy:g.a.ev e1=y at v1 v2;have hd:D.ev T e1 (.lapp g.x0 [g.a])=enc (l++[y]):=by simp only[D.ev,hx0e,hl,Mm,M6,hy]
 have hhas:g.k.hasL (l++[y]):=⟨by simp;omega,fun q hq=>by
  rcases L4.1 hq with hq|hq
  ·exact x2.2 q hq
  ·rw[O5.1 hq];exact v2⟩
 have t1:=lt (enc (l++[y])) hd.symm (by simp only[KK.has,Qr];exact hhas);have henv:∀j,j<Z.nv->upd e1 (Z.nv+(g.defs.length+2)) (enc (l++[y])) j=m.env j:=fun j hj=>by
  simp only[upd];rw[if_neg (by omega)];exact b1 j hj
 have hnm:=hR.names _ henv (Z.nv+(g.defs.length+3)) (by omega);have hxc:=hR.cell G.cell
 refine wp_append_lies w s x ty G.op w0.heap.size g.elem i z g.k.sz i.bytes G.und G.info G.zero G.size rfl (G.zs.trans G.size) (Xjc _) (a.eval s) l.length (flat g.k l) rfl x3 (m.at id off) 1 cap vs hxc.2 (by rw[hvl,Nat.one_mul]) hv
  (by rw[<- v1];exact Xi7 _ _) (by omega) (by simp only[maxLen];omega) ?_ hR.below.size w.heap.size rfl fun gb cap' w' hown' hgrow hat hlt=>?_
 ·have:=G.bytes;have h1:(l.length+1)*i.bytes<=4294967296*16384:=Nat.mul_le_mul (by omega) this;omega
 ·have hn':({Z with nv:=Z.nv+(g.defs.length+3) }:St).boxes[nid]?=some none:=hn;have hev:dec (A.ev (upd e1 (Z.nv+(g.defs.length+2)) (enc (l++[y]))) (.v (Z.nv+(g.defs.length+2))))=l++[y]:=by simp[A.ev,upd,Qr]
  obtain⟨r1,r2⟩:=Qm5 hnm hn' (old:=g.old) (v0:=a.eval s) (v:=.slice (some ⟨gb,0,none⟩) (l.length+1) cap') (w':=w') (r:={x:=.v (Z.nv+(g.defs.length+2)),x0:=.v (Z.nv+(g.defs.length+2)),k:=g.k,elem:=g.elem,own:=true,full:=false }) hgrow
   (by rw[hev];exact⟨hhas,by simp only[if_true];rw[Zhq,v1,Mk];exact hown',fun h=>by cases h⟩) ⟨by show Z.nv+(g.defs.length+2)<Z.nv+(g.defs.length+3);omega,trivial⟩ rfl x4 (fun g hg=>by cases hg;exact hat)
  have eq:Qjn Z nid g o.dst=(({Z with nv:=Z.nv+(g.defs.length+3),boxes:=Sx.Xio Z.boxes g.old.toList }:St).Xik nid (Zf {x:=.v (Z.nv+(g.defs.length+2)),x0:=.v (Z.nv+(g.defs.length+2)),k:=g.k,elem:=g.elem,own:=true,full:=false })).put o.dst (.vl (.one (.sl nid))):=by
   unfold Qjn;rw[W1];rfl
  have hnl:nid<(Sx.Xio Z.boxes g.old.toList).length:=by rw[Jz];exact(Ou.1 hn).1
  have Jy:=r1.put (s:=.vl (.one (.sl nid))) (v:=.slice (some ⟨gb,0,none⟩) (l.length+1) cap') ⟨by
   rw[Z3];simp[hnl],by simp[M.row],rfl⟩ o.dst
  have hal:∀(X:St) (d:Option Nat) (q:SV),(X.put d q).al=X.al/\(X.put d q).nv=X.nv:=fun X d q=>by cases d <;> exact⟨rfl,rfl⟩
  refine hK _ _ _ ?_ (by rw[eq];exact Jy) t1;rw[eq,(hal _ _ _).1,(hal _ _ _).2];refine MExt.trans (m':={m with env:=upd e1 (Z.nv+(g.defs.length+2)) (enc (l++[y])) }) (nv':=Z.nv+(g.defs.length+3)) (al':=Z.al) ⟨henv,fun _ _=>rfl,rfl,fun _ _=>rfl,by omega,fun _ h=>h⟩ r2
end
theorem Qhl{α β:Type}{f:α->Option β}:∀ {l:List α} {q:List β},Ze f l=some q->q.length=l.length/\∀(j:Nat) x,l[j]?=some x->∃y,q[j]?=some y/\f x=some y
 |[],q,h=>by simp[Ze]at h;subst h;exact⟨rfl,by simp⟩
 |x::l,q,h=>by
  unfold Ze at h;split at h
  ·cases h
  ·rename_i y hy;split at h
   ·cases h
   ·rename_i ys hys;cases h;obtain⟨h1,h2⟩:=Qhl hys;refine⟨by simp[h1],fun j z hz=>?_⟩;cases j with
    |zero=>simp at hz;subst hz;exact⟨y,rfl,hy⟩
    |succ j=>simpa using h2 j z (by simpa using hz)
theorem Qml:∀ {q:List (A×Option Nat)} {j:Nat} {x:A} {id:Nat},q[j]?=some (x,some id)->id∈Be q:=fun {q j x id} h =>
 List.mem_filterMap.2 ⟨(x,some id),Mq h,rfl⟩
theorem Ql4:∀(q:List (A×Option Nat)),Qaf (Be q)=true->∀(j j':Nat) x x' id id',q[j]?=some (x,some id)->q[j']?=some (x',some id')->j≠j'->id≠id'
 |[],_,j,j',x,x',id,id',h,_,_=>by simp at h
 |(x0,none)::q,hu,j,j',x,x',id,id',h,h',hne=>by
  have hu:Qaf (Be q)=true:=hu;cases j with
  |zero=>simp at h
  |succ j=>cases j' with
   |zero=>simp at h'
   |succ j'=>exact Ql4 q hu j j' x x' id id' (by simpa using h) (by simpa using h') (by omega)
 |(x0,some i)::q,hu,j,j',x,x',id,id',h,h',hne=>by
  have hu:Qaf (i::Be q)=true:=hu;simp only[Qaf,Oo,K9,List.contains_eq_mem,decide_eq_false_iff_not]at hu;cases j with
  |zero=>cases j' with
   |zero=>exact absurd rfl hne
   |succ j' =>
    simp at h;have:=Qml (show q[j']?=some (x',some id') by simpa using h');intro e;exact hu.1 (by rw[h.2,e];exact this)
  |succ j=>cases j' with
   |zero =>
    simp at h';have:=Qml (show q[j]?=some (x,some id) by simpa using h);intro e;exact hu.1 (by rw[h'.2,<- e];exact this)
   |succ j'=>exact Ql4 q hu.2 j j' x x' id id' (by simpa using h) (by simpa using h') (by omega)
theorem Zc0(Z:St)(n:Nat):({Z with boxes:=Z.boxes++List.replicate n none }:St).al=Z.al:=by
 funext id
 unfold St.al;by_cases hl:id<Z.boxes.length
 ·simp[Mh hl]
 ·rw[O7 (by omega),My (show Z.boxes.length<=id by omega)];by_cases h2:id-Z.boxes.length<n
  ·simp[h2]
  ·rw[My (by simp;omega)]
theorem Qv0{Z:St}{i:Nat}:Z.boxes[i]?=some none↔i<Z.boxes.length/\Z.al i=false:=by
 unfold St.al;constructor
 ·intro h;exact⟨(Ou.1 h).1,by rw[h]⟩
 ·rintro ⟨h1,h2⟩
  rw[O4 h1]at h2 ⊢;cases hb:Z.boxes[i]with
  |none=>rfl
  |some b=>rw[hb]at h2;cases h2
theorem Zgk(Z:St)(cs:List C)(h:Hp):(setH Z cs h).boxes.length=Z.boxes.length:=by
 cases h <;> simp only[setH] <;> (repeat' split) <;> simp
theorem Qpi:∀(hav:List (Hp×List L)) (nn:Nat) (Z:St),(Uz Z nn hav).boxes.length=Z.boxes.length
 |[],_,_=>rfl
 |(h,ls)::r,nn,Z=>by simp only[Uz];rw[Qpi r,Zgk]
theorem Qvk:∀(l:List LH) (xs:List Int),xs.length=l.length->(∀(j:Nat) h x,l[j]?=some h->xs[j]?=some x->h.k.hasL (dec x))->Qy (l.map fun h=>.lst h.k) xs
 |[],[],_,_=>trivial
 |h::l,x::xs,hl,hx=>⟨hx 0 h x rfl rfl,Qvk l xs (by simpa using hl) fun j h' x' h1 h2=>hx (j+1) h' x' (by simpa using h1) (by simpa using h2)⟩
 |[],_::_,hl,_=>by simp at hl
 |_::_,[],hl,_=>by simp at hl
theorem Qpm:∀(l:List LH) (Z:St) (id nn:Nat),(Qo3 Z id nn l).nv=Z.nv/\(Qo3 Z id nn l).kn=Z.kn/\(Qo3 Z id nn l).gl=Z.gl/\(Qo3 Z id nn l).lvl=Z.lvl
 |[],_,_,_=>⟨rfl,rfl,rfl,rfl⟩
 |h::l,Z,id,nn=>Qpm l _ _ _
section
variable {T:List K}{w0:World}{m:M}{Z:St}{a:Act}{w:World}
theorem Rep.Xj1(h:Rep w0 m Z a w){t:Nat}{s:SV}{v:Value}(hv:a.tmps[t]?=some v)(hs:s.rel m Z.nv Z.al v):Rep w0 m {Z with tmps:=Z.tmps.set t s } a w:=by
 refine⟨h.defers,by simp[h.size],fun i u hi=>?_,h.below,h.own,h.ro,h.inj,h.kn,h.gl,h.rows,h.rbox,h.rsep,h.base⟩;have hi:(Z.tmps.set t s)[i]?=some u:=hi;by_cases hti:t=i
 ·subst hti;have hlt:t<Z.tmps.length:=by simpa using(Ou.1 hi).1
  rw[L1 hlt]at hi;cases hi;exact⟨v,hv,hs⟩
 ·rw[O3 hti]at hi;exact h.tmp i u hi
def Apart(m:M)(Z:St)(g:Nat):Prop :=
 (∀(id:Nat) (b:Box),Z.boxes[id]?=some (some b)->b.own=true->(m.rho id).1≠g) /\
 ∀(id:Nat) (b:Box) (r:Row),Z.boxes[id]?=some (some b)->b.row=some r->r.own=true->(m.sv id).ownBlock≠some g
def Xf7(vs:List Value):Prop:=∀(j j':Nat) v v' g,j≠j'->vs[j]?=some v->vs[j']?=some v'->v.ownBlock=some g->v'.ownBlock≠some g
theorem Zqs:∀(l:List LH) (Z:St) (id nn:Nat) (m:M) (vs:List Value),Rep w0 m Z a w->(∀j,j<l.length->Z.boxes[id+j]?=some none)->vs.length=l.length ->
  (∀ (j:Nat) h v,l[j]?=some h->vs[j]?=some v->a.tmps[h.slot]?=some v/\nn+j<Z.nv/\h.k.hasL (dec (m.env (nn+j))) /\
   w.ownsRow w0.heap.size h.elem h.k.sz v (dec (m.env (nn+j))).length (flat h.k (dec (m.env (nn+j))))/\(h.full=true->Qnn v)/\∀g,v.ownBlock=some g->Apart m Z g)->Xf7 vs ->
  ∃m',m'.env=m.env/\MExt m Z.nv Z.al m' (Qo3 Z id nn l).nv (Qo3 Z id nn l).al/\Rep w0 m' (Qo3 Z id nn l) a w:=by
 intro l
 induction l with
 |nil=>intro Z id nn m vs h _ _ _ _;exact⟨m,rfl,MExt.refl ..,h⟩
 |cons hd l ih =>
  intro Z id nn m vs h hbx hlen hx hsep;cases vs with
  |nil=>simp at hlen
  |cons v vs =>
   obtain⟨x1,x2,x3,x4,xf,x5⟩:=hx 0 hd v rfl rfl;simp only[Mg]at x2 x3 x4;have hn:Z.boxes[id]?=some none:=hbx 0 (by simp);have hnl:id<Z.boxes.length:=(Ou.1 hn).1;obtain⟨bb,cap,hform⟩:=Qiy x4
   obtain⟨r1,r2⟩:=h.Xjn (nid:=id) hn (row:=v.ownBlock) (w':=w) ⟨rfl,rfl,rfl,Nat.le_refl _,fun _ _ _=>rfl⟩
    (fun k hk=>⟨(x4.lt k hk).1,(x5 k hk).1,(x5 k hk).2⟩) (r:={x:=.v nn,x0:=.v nn,k:=hd.k,elem:=hd.elem,own:=true,full:=hd.full }) (v:=v)
    ⟨x2,trivial⟩ ⟨x2,trivial⟩ rfl ⟨x3,by simp only[if_true];exact x4,xf⟩ (fun g _ hg=>.inl hg)
   have r3:=r1.Xj1 (t:=hd.slot) (s:=.vl (.one (.sl id))) x1 ⟨by rw[Z3];simp[hnl],by simp[M.row],by rw[hform];rfl⟩;have hih:=ih _ (id+1) (nn+1) (m.row id v) vs r3 (fun j hj=>?_) (by simpa using hlen) (fun j h' v' hh hv=>?_) (fun j j' u u' g hne hu hu'=>hsep (j+1) (j'+1) u u' g (by omega) (by simpa using hu) (by simpa using hu'))
   ·obtain⟨m',e1,e2,e3⟩:=hih;exact⟨m',e1,r2.trans e2,e3⟩
   ·have:=hbx (j+1) (by simpa using hj);rw[show id+(j+1)=id+1+j by omega]at this;show(Z.boxes.set id _)[id+1+j]?=_;rw[O3 (by omega)];exact this
   ·obtain⟨y1,y2,y3,y4,yf,y5⟩:=hx (j+1) h' v' (by simpa using hh) (by simpa using hv);rw[show nn+(j+1)=nn+1+j by omega]at y2 y3 y4;refine⟨y1,y2,y3,y4,yf,fun g hg=>⟨fun i b hi hbo=>?_,fun i b r hi hr hro=>?_⟩⟩
    ·have hi:(Z.boxes.set id (some (Zf {x:=.v nn,x0:=.v nn,k:=hd.k,elem:=hd.elem,own:=true,full:=hd.full })))[i]?=some (some b):=hi;by_cases hin:id=i
     ·subst hin;rw[L1 hnl]at hi;cases hi;cases hbo
     ·rw[O3 hin]at hi;exact(y5 g hg).1 i b hi hbo
    ·have hi:(Z.boxes.set id (some (Zf {x:=.v nn,x0:=.v nn,k:=hd.k,elem:=hd.elem,own:=true,full:=hd.full })))[i]?=some (some b):=hi;by_cases hin:id=i
     ·subst hin;have:(m.row id v).sv id=v:=by simp[M.row]
      rw[this];intro e;exact hsep 0 (j+1) v v' g (by omega) rfl (by simpa using hv) e hg
     ·rw[O3 hin]at hi;have:(m.row id v).sv i=m.sv i:=by simp[M.row,Ne.symm hin]
      rw[this];exact(y5 g hg).2 i b r hi hr hro
theorem Zoh(h:Rep w0 m Z a w){l:LH}{x:A}{o:Option Nat}(ht:Qly Z l=some (x,o)) :
  ∃v,a.tmps[l.slot]?=some v/\x.wf Z.nv m.env/\l.k.hasL (dec (x.ev m.env))/\w.ownsRow w0.heap.size l.elem l.k.sz v (dec (x.ev m.env)).length (flat l.k (dec (x.ev m.env)))/\(l.full=true->Qnn v) /\
   ((o=none->v.ownBlock=none)/\∀id,o=some id->∃b r,Z.boxes[id]?=some (some b)/\b.row=some r/\r.own=true/\v=m.sv id):=by
 unfold Qly at ht;split at ht
 ·rename_i hs;cases ht;obtain⟨v,hv,hr⟩:=h.tmp _ _ hs;have hr:v=.slice none 0 0:=hr;subst hr;refine⟨_,hv,⟨trivial,trivial⟩,?_,?_,fun _=>rfl,fun _=>rfl,fun _ h=>by cases h⟩
  ·simp only[A.ev,Qu];exact⟨by simp,by simp⟩
  ·simp only[A.ev,Qu];exact World.ownsRow_nil ..
 ·rename_i id hs;split at ht
  ·rename_i r hr;split at ht
   ·rename_i hc;simp only[Oo,beq_iff_eq]at hc;obtain⟨⟨⟨hc1,hc2⟩,hc3⟩,hc4⟩:=hc;cases ht;obtain⟨v,hv,hrel⟩:=h.tmp _ _ hs;have hrel:Z.al id=true/\v=m.sv id/\v.oneCell'=true:=hrel;obtain⟨b,hb,hbr⟩:=Qgu hr;obtain⟨q1,q2,_,_,q3⟩:=h.Xim hr;have q4:=q3.2.1;rw[hc1]at q4;simp only[if_true]at q4;have hk:=Z5 hc3;refine⟨v,hv,q2,by rw[<- hk];exact q3.1,by rw[<- hk,<- hc2,hrel.2.1];exact q4,fun hf=>by rw[hrel.2.1];exact q3.2.2 (by simpa[hf]using hc4),(fun h=>by cases h),fun i hi=>?_⟩;cases hi;exact⟨b,r,hb,hbr,hc1,hrel.2.1⟩
   ·cases ht
  ·cases ht
 ·cases ht
structure FromRow (ms mt:M) (σs σt:St) (ids:List Nat):Prop where
 box:∀(id:Nat) (b:Box),σt.boxes[id]?=some (some b)->b.own=true->∃b',σs.boxes[id]?=some (some b')/\b'.own=true/\mt.rho id=ms.rho id
 row:∀(id:Nat) (b:Box) (r:Row),σt.boxes[id]?=some (some b)->b.row=some r->r.own=true->id ∉ ids/\(∃b',σs.boxes[id]?=some (some b')/\b'.row=some r)/\mt.sv id=ms.sv id
theorem Zo6{mt:M}{σt:St}{ids:List Nat}(h:Rep w0 m Z a w)(hf:FromRow m mt Z σt ids){id:Nat}{b:Box}{r:Row}(hb:Z.boxes[id]?=some (some b))(hr:b.row=some r)(ho:r.own=true)(hid:id∈ids){g:Nat}(hg:(m.sv id).ownBlock=some g):Apart mt σt g:=by
 refine⟨fun i c hi hc=>?_,fun i c q hi hq hqo=>?_⟩
 ·obtain⟨b',k1,k2,k3⟩:=hf.box i c hi hc;intro e;exact h.rbox id b r hb hr ho i b' k1 k2 (by rw[hg,<- k3,e])
 ·obtain⟨k1,⟨b',k2,k3⟩,k4⟩:=hf.row i c q hi hq hqo;rw[k4];rcases h.rsep id b r i b' q hb hr k2 k3 ho hqo (fun e=>k1 (e▸hid))with h1|h1
  ·rw[hg]at h1;cases h1
  ·rw[hg]at h1;exact h1
theorem Zpw(h:Rep w0 m Z a w){l:List LH}{q:List (A×Option Nat)}(hq:Ze (Qly Z) l=some q)(hu:Qaf (Be q)=true){mt:M}{σt:St}(hf:FromRow m mt Z σt (Be q)) :
  ∃vs:List Value,vs.length=l.length/\Xf7 vs/\∀(j:Nat) hj v,l[j]?=some hj->vs[j]?=some v->∃x o,q[j]?=some (x,o)/\a.tmps[hj.slot]?=some v/\x.wf Z.nv m.env/\hj.k.hasL (dec (x.ev m.env)) /\
   w.ownsRow w0.heap.size hj.elem hj.k.sz v (dec (x.ev m.env)).length (flat hj.k (dec (x.ev m.env)))/\(hj.full=true->Qnn v)/\∀g,v.ownBlock=some g->Apart mt σt g:=by
 obtain⟨q1,q2⟩:=Qhl hq
 have fact:∀(j:Nat) hj v,l[j]?=some hj->(l.map fun h=>(a.tmps[h.slot]?).getD default)[j]?=some v->∃x o,q[j]?=some (x,o)/\a.tmps[hj.slot]?=some v/\x.wf Z.nv m.env/\hj.k.hasL (dec (x.ev m.env)) /\
   w.ownsRow w0.heap.size hj.elem hj.k.sz v (dec (x.ev m.env)).length (flat hj.k (dec (x.ev m.env)))/\(hj.full=true->Qnn v)/\((o=none->v.ownBlock=none)/\∀id,o=some id->∃b r,Z.boxes[id]?=some (some b)/\b.row=some r/\r.own=true/\v=m.sv id):=by
  intro j hj v h1 h2;obtain⟨⟨x,o⟩,h3,h4⟩:=q2 j hj h1;obtain⟨v',k1,k2,k3,k4,kf,k5⟩:=Zoh h h4;have:v'=v:=by
   rw[M0,h1]at h2;simp[k1]at h2;exact h2
  subst this;exact⟨x,o,h3,k1,k2,k3,k4,kf,k5⟩
 refine⟨l.map fun h=>(a.tmps[h.slot]?).getD default,by simp,fun j j' v v' g hne h1 h2 hg hg'=>?_,fun j hj v h1 h2=>?_⟩
 ·have l1:j<l.length:=by simpa using(Ou.1 h1).1
  have l2:j'<l.length:=by simpa using(Ou.1 h2).1
  obtain⟨x,o,k1,k2,_,_,_,_,k3⟩:=fact j _ v (O4 l1) h1;obtain⟨x',o',k1',k2',_,_,_,_,k3'⟩:=fact j' _ v' (O4 l2) h2;cases o with
  |none=>rw[k3.1 rfl]at hg;cases hg
  |some id=>cases o' with
   |none=>rw[k3'.1 rfl]at hg';cases hg'
   |some id' =>
    obtain⟨b,r,c1,c2,c3,c4⟩:=k3.2 id rfl;obtain⟨b',r',d1,d2,d3,d4⟩:=k3'.2 id' rfl;rcases h.rsep id b r id' b' r' c1 c2 d1 d2 c3 d3 (Ql4 q hu j j' x x' id id' k1 k1' hne)with e|e
    ·rw[<- c4,hg]at e;cases e
    ·rw[<- c4,<- d4,hg,hg']at e;exact e rfl
 ·obtain⟨x,o,k1,k2,k3,k4,k5,kf,k6⟩:=fact j hj v h1 h2;refine⟨x,o,k1,k2,k3,k4,k5,kf,fun g hg=>?_⟩;cases o with
  |none=>rw[k6.1 rfl]at hg;cases hg
  |some id =>
   obtain⟨b,r,c1,c2,c3,c4⟩:=k6.2 id rfl;exact Zo6 h hf c1 c2 c3 (Qml k1) (by rw[<- c4];exact hg)
end
section
variable {P:Program}{T:List K}{w0:World}{m:M}{Z:St}{a:Act}{w:World}{o:Oper}
theorem Qu5{k:LK}{z:Value}(h:zeroK k z=true):z.cells.toList=k.Xi0 0/\∀l ls,k≠.tup l ls:=by
 unfold zeroK at h;split at h
 ·cases h
 ·cases h
 ·rename_i hk _;split at h
  ·rename_i v hv;split at h
   ·rename_i n htk;have hn:n=0:=by simpa using h
    subst hn;obtain⟨r1,r2⟩:=J5 (m:=⟨fun _=>0,fun _=>(0,0),{base:=default },fun _=>.nilFunc⟩) (nv:=0) (al:=fun _=>false) hv;obtain⟨vs,g1,g2,_⟩:=V.Xir r1 r2;obtain⟨_,_,k3⟩:=Xz (T:=[]) _ _ _ _ _ htk _ 0 vs g2;have:=(k3 (fun _=>0) (fun _ _=>rfl) (fun i kk d hi=>by simp at hi)).1;rw[Mm,M6,Zfw hk]at this;rw[g1];exact⟨by simpa[A.ev]using this.symm,hk⟩
   ·cases h
  ·cases h
theorem Zfv{k:LK}{z:Value}(hz:z.cells.toList=k.Xi0 0)(n:Nat):(madeCells z.cells (n*k.sz)).toList=flat k (List.replicate n 0):=by
 have h1:flat k (List.replicate n 0)=(List.replicate n (k.Xi0 0)).flatten:=by
  simp[flat,List.flatMap,List.map_replicate]
 have hl:(k.Xi0 0).length=k.sz:=Xip k 0;have hs:z.cells.size=(k.Xi0 0).length:=by rw[<- hz];simp
 rw[h1,<- Qqg,hl];unfold madeCells;rw[Array.toList_map,Array.toList_range];refine Hz fun i _=>?_
 rw[hs,hl,<- hz];simp[Array.getElem!_eq_getD,Me,Ov]
structure MakeSpec (P:Program) (Z:St) (o:Oper) (g:Made) (t:TypeId) (l c:Operand) (i:TypeInfo) (z:Value) (kl kc:IntKind):Prop where
 op:o.op=.makeSlice t l c
 und:P.underlying t=some (.slice g.elem)
 info:P.info? g.elem=some i
 zero:i.zero=some z
 size:i.size=g.k.sz
 bytes:i.bytes<=16384
 zk:zeroK g.k z=true
 cl:Z.cell l=some (.int kl g.a)
 cc:Z.cell c=some (.int kc g.a)
theorem Zfd{g:Made}(h:Qqp P Z o.op=some g):∃t l c i z kl kc,MakeSpec P Z o g t l c i z kl kc:=by
 unfold Qqp at h;split at h
 ·rename_i t l c hop;split at h
  ·rename_i e hu;split at h
   ·rename_i i k hi hk;split at h
    ·rename_i z hz;split at h
     ·rename_i hcond;simp only[Oo,beq_iff_eq,decide_eq_true_eq]at hcond;split at h
      ·rename_i kl a' kc b' hl hc;split at h
       ·rename_i hab;have:=Qx9 hab;subst this;cases h;exact⟨t,l,c,i,z,kl,kc,hop,hu,hi,hz,hcond.1.1.2,hcond.1.2,hcond.2,hl,hc⟩
       ·cases h
      ·cases h
     ·cases h
    ·cases h
   ·cases h
  ·cases h
 ·cases h
theorem LK.Xi1(k:LK)(hk:∀l ls,k≠.tup l ls):k.has 0:=by
 cases k with
 |num=>simp[LK.has,Qv]
 |int k=>exact Sx.Xi1 k
 |tup l ls=>exact absurd rfl (hk l ls)
 |byt=>simp[LK.has,Qu]
theorem Zvi(hR:Rep w0 m Z a w){nid:Nat}(hn:Z.boxes[nid]?=some none){g:Made}(hg:Qqp P Z o.op=some g){goal:Gl}{t:Qn}{K:Act->World->Prop}{Q:Exit->Act->World->Prop}
  (hh:(Jc Z.nv [(.bit,.cmp .leq (.lit 0) g.a),(.bit,.cmp .lss g.a (.lit 4294967296))] (.nz (.v Z.nv) (.nz (.v (Z.nv+1)) (.l (Z.nv+2) (.lst g.k) (.lrep g.a (.lit 0)) t)))).holds T goal m.env)
  (hK:∀m' a' w',MExt m Z.nv Z.al m' (Qjf Z nid g o.dst).nv (Qjf Z nid g o.dst).al->Rep w0 m' (Qjf Z nid g o.dst) a' w'->t.holds T goal m'.env->K a' w'):o.wp P a w K Q:=by
 obtain⟨ty,l,c,i,z,kl,kc,G⟩:=Zfd hg;obtain⟨l1,l2,l3⟩:=hR.cell G.cl;obtain⟨c1,c2,c3⟩:=hR.cell G.cc
 have gen:Zh T m.env Z.nv [(.bit,.cmp .leq (.lit 0) g.a),(.bit,.cmp .lss g.a (.lit 4294967296))] :=
  ⟨⟨trivial,l1.1⟩,Q6 _,⟨A.Xii l1.1 (by omega),trivial⟩,Q6 _,trivial⟩
 obtain⟨e1,b1,b2,b3,b4⟩:=Xm _ _ _ hh gen;have hae:g.a.ev e1=g.a.ev m.env:=A.Xih l1.1 b1;have d0:e1 Z.nv=X6 (decide (0<=g.a.ev e1)):=(b3 0 _ _ rfl).1;have d1:e1 (Z.nv+1)=X6 (decide (g.a.ev e1<4294967296)):=(b3 1 _ _ rfl).1;obtain⟨z0,z1,lt⟩:=b4;have z0:e1 Z.nv≠0:=z0;have z1:e1 (Z.nv+1)≠0:=z1;have y0:0<=g.a.ev e1:=Wo (by rw[<- d0];exact z0);have y1:g.a.ev e1<4294967296:=Wo (by rw[<- d1];exact z1);rw[hae]at y0 y1;obtain⟨n,hnn⟩:=Ow y0;have hd:D.ev T e1 (.lrep g.a (.lit 0))=enc (List.replicate n 0):=by
  show enc (List.replicate (g.a.ev e1).toNat 0)=_;rw[hae,hnn];rfl
 have hhas:g.k.hasL (List.replicate n 0):=⟨by rw[List.length_replicate];omega,fun q hq=>by rw[(List.mem_replicate.1 hq).2];exact g.k.Xi1 (Qu5 G.zk).2⟩
 have t1:=lt (enc (List.replicate n 0)) hd.symm (by simp only[KK.has,Qr];exact hhas);have henv:∀j,j<Z.nv->upd e1 (Z.nv+2) (enc (List.replicate n 0)) j=m.env j:=fun j hj=>by
  simp only[upd];rw[if_neg (by omega)];exact b1 j hj
 have hnm:=hR.names _ henv (Z.nv+3) (by omega);have hbytes:i.bytes*n<=281474976710656:=by
  have h1:i.bytes*n<=16384*4294967296:=Nat.mul_le_mul G.bytes (by omega);omega
 obtain⟨w',hrun,hown,hgrow⟩:=run_make_full (P:=P) w w0.heap.size ty g.elem i z g.k.sz G.und G.info G.zero G.size kl kc n hbytes (by simp only[maxLen];omega) hR.below.size;rw[Zfv (Qu5 G.zk).1]at hown;have hbel:Below w.heap.size w w':=⟨hgrow.os,hgrow.tape,hgrow.output,hgrow.size,fun k hk=>hgrow.block k hk (by simp)⟩
 have hn':({Z with nv:=Z.nv+3 }:St).boxes[nid]?=some none:=hn;have hev:dec (A.ev (upd e1 (Z.nv+2) (enc (List.replicate n 0))) (.v (Z.nv+2)))=List.replicate n 0:=by simp[A.ev,upd,Qr]
 obtain⟨r1,r2⟩:=hnm.newRow hn' hbel (r:={x:=.v (Z.nv+2),x0:=.v (Z.nv+2),k:=g.k,elem:=g.elem,own:=true,full:=true }) (v:=.slice (some ⟨w.heap.size,0,none⟩) n n)
  ⟨by show Z.nv+2<Z.nv+3;omega,trivial⟩ ⟨by show Z.nv+2<Z.nv+3;omega,trivial⟩ rfl
  (by simp only[hev];exact⟨hhas,by simp only[if_true,List.length_replicate];exact hown,fun _=>rfl⟩) (fun b _ hb=>by cases hb;exact Nat.le_refl _)
 have hnl:nid<Z.boxes.length:=(Ou.1 hn).1;have eq:Qjf Z nid g o.dst=(({Z with nv:=Z.nv+3 }:St).Xik nid (Zf {x:=.v (Z.nv+2),x0:=.v (Z.nv+2),k:=g.k,elem:=g.elem,own:=true,full:=true })).put o.dst (.vl (.one (.sl nid))):=by
  unfold Qjf;rw[W1];rfl
 have Jy:=r1.put (s:=.vl (.one (.sl nid))) (v:=.slice (some ⟨w.heap.size,0,none⟩) n n) ⟨by
  rw[Z3];simp[hnl],by simp[M.row],rfl⟩ o.dst
 have hal:∀(X:St) (d:Option Nat) (q:SV),(X.put d q).al=X.al/\(X.put d q).nv=X.nv:=fun X d q=>by cases d <;> exact⟨rfl,rfl⟩
 unfold Oper.wp;have hex:(execOp a.eval o).run P w=.ok (.value (.slice (some ⟨w.heap.size,0,none⟩) n n)) w':=by
  simp only[execOp,G.op,l3,c3,hnn];simp[hrun]
 rw[hex];refine hK _ _ _ ?_ (by rw[eq];exact Jy) t1;rw[eq,(hal _ _ _).1,(hal _ _ _).2];exact MExt.trans (m':={m with env:=upd e1 (Z.nv+2) (enc (List.replicate n 0)) }) (nv':=Z.nv+3) (al':=Z.al) ⟨henv,fun _ _=>rfl,rfl,fun _ _=>rfl,by omega,fun _ h=>h⟩ r2
theorem Qs7(w:World)(dT sT ty elem:TypeId)(g dLen dCap:Nat)(ad:Addr)(sLen sCap sz:Nat)(cur:Array Value)(t:TypeId)(cs:List Value)
  (hu:P.underlying dT=some (.slice elem)) (hs:szOf P elem=some sz) (hg:w.heap[g]?=some (.cells cur t (0,0))) (hn:cs.length=Nat.min sLen dLen*sz)
  (hsrc:∀j v,cs[j]?=some v->w.cell? (ad.add j)=some v) (hfit:cs.length<=cur.size) (h1:∀v∈cs,v.oneCell'=true) :
  (Builtin.copy_ #[dT,sT] ty #[.slice (some ⟨g,0,none⟩) dLen dCap,.slice (some ad) sLen sCap]).run P w =
   .ok (goInt (Nat.min sLen dLen)) (w.setRow g (cs++cur.toList.drop cs.length).toArray):=by
 have hl:=run_loadCells_list (P:=P) w ad cs hsrc;have hst:=run_storeCells_at P g 0 t cs 0 cur w hg (by simpa using hfit) h1;simp only[Mg,M2,List.take_zero,Mu]at hst;simp[Builtin.copy_,run_underlying hu,Builtin.lenOf,Builtin.firstCells,run_sizeOf hs,<- hn,hl,hst]
theorem Qo1(w:World)(dT sT ty elem:TypeId)(ad:Addr)(dLen dCap sz:Nat)(hu:P.underlying dT=some (.slice elem))(hs:szOf P elem=some sz) :
  (Builtin.copy_ #[dT,sT] ty #[.slice (some ad) dLen dCap,.slice none 0 0]).run P w=.ok (goInt 0) w:=by
 simp[Builtin.copy_,run_underlying hu,Builtin.lenOf,Builtin.firstCells,run_sizeOf hs,storeCells]
structure CopySpec (P:Program) (Z:St) (nn:Nat) (o:Oper) (g:Copy) (t t':TypeId) (d s:Operand) (e:TypeId) (v:V):Prop where
 op:o.op=.call {callee:=.builtin .copy,args:=#[d,s],argTypes:=#[t,t'] }
 und:P.underlying t=some (.slice e)
 cell:Z.cell d=some (.sl g.id)
 box:Z.boxes[g.id]?=some (some g.b)
 row:g.b.row=some g.r
 own:g.r.own=true
 size:szOf P e=some g.r.k.sz
 src:Z.v s=some v
 take:takeSh Z nn (.lst g.r.k) v=some (g.defs,[g.y])
theorem Zgi{nn:Nat}{g:Copy}(h:Qw3 P Z nn o.op=some g):∃t t' d s e v,CopySpec P Z nn o g t t' d s e v:=by
 unfold Qw3 at h;split at h
 ·rename_i c hop;split at h
  ·rename_i t t' d s hc ht hx;split at h
   ·rename_i e id hu hcd;split at h
    ·rename_i b z hb hz;split at h
     ·rename_i r hr;split at h
      ·rename_i hcond;simp only[Oo,beq_iff_eq]at hcond;split at h
       ·rename_i ds y hsrc;cases h;unfold Qjz at hsrc;split at hsrc
        ·rename_i v hv;split at hsrc
         ·rename_i ds' y' htk;cases hsrc;refine⟨t,t',d,s,e,v,?_,hu,hcd,Z1 hb,hr,hcond.1,by rw[hz,hcond.2],hv,htk⟩;rw[hop];obtain⟨callee,args,tys⟩:=c;simp only at hc ht hx;subst hc;have ea:args=#[d,s]:=Array.ext' (by simpa using hx);have et:tys=#[t,t']:=Array.ext' (by simpa using ht);rw[ea,et]
         ·cases hsrc
        ·cases hsrc
       ·cases h
      ·cases h
     ·cases h
    ·cases h
   ·cases h
  ·cases h
 ·cases h
theorem Zr0(hR:Rep w0 m Z a w){g:Copy}(hg:Qw3 P Z Z.nv o.op=some g){goal:Gl}{t:Qn}{K:Act->World->Prop}{Q:Exit->Act->World->Prop}
  (hh:(Jc Z.nv (g.defs++[(.int .i64,.llen g.r.x0),(.bit,.cmp .lss (.lit 0) (.v (Z.nv+g.defs.length)))]) (.nz (.v (Z.nv+(g.defs.length+1)))
 (.l (Z.nv+(g.defs.length+2)) (.lst g.r.k) (.lcpy g.r.x g.y) t))).holds T goal m.env)
  (hK:∀m' a' w',MExt m Z.nv Z.al m' (Qjr Z g o.dst).nv (Qjr Z g o.dst).al->Rep w0 m' (Qjr Z g o.dst) a' w'->t.holds T goal m'.env->K a' w'):o.wp P a w K Q:=by
 obtain⟨ty,ty',d,s,e,v,G⟩:=Zgi hg;obtain⟨q1,q2,q6,q3⟩:=hR.rows g.id g.b g.r G.box G.row;have hd:Z.al g.id=true/\a.eval d=m.sv g.id/\(a.eval d).oneCell'=true:=hR.cell G.cell;obtain⟨k1,k2,k3⟩:=Vk (T:=T) G.take hR (hR.v_ G.src);obtain⟨k1,k4⟩:=k1 (Nat.le_refl _);generalize hl:dec (g.r.x.ev m.env)=l at q3 q6;have hlmax:=q3.1.1;have gen:Zh T m.env Z.nv (g.defs++[(.int .i64,.llen g.r.x0),(.bit,.cmp .lss (.lit 0) (.v (Z.nv+g.defs.length)))]):=by
  refine Q8 _ _ _ _ k1 fun e' he _=>⟨A.Xii q2.1 (by omega),?_,⟨trivial,Hh _⟩,Q6 _,trivial⟩
  simp only[KK.has,D.ev];rw[A.Xih q2.1 he,q6];simp only[has,lo,hi];omega
 obtain⟨e1,b1,b2,b3,b4⟩:=Xm _ _ _ hh gen;obtain⟨c1,c2⟩:=(Told.append).1 b3;have hxe:g.r.x.ev e1=g.r.x.ev m.env:=A.Xih q1.1 b1;have hx0e:g.r.x0.ev e1=g.r.x0.ev m.env:=A.Xih q2.1 b1;have d0:e1 (Z.nv+g.defs.length)=(l.length:Int):=by
  have:=(c2 0 _ _ rfl).1;simpa[D.ev,hx0e,q6]using this
 have d1:e1 (Z.nv+g.defs.length+1)=X6 (decide (0<e1 (Z.nv+g.defs.length))):=(c2 1 _ _ rfl).1;obtain⟨nzf,lt⟩:=b4;have hpos:0<l.length:=by
  have h0:e1 (Z.nv+g.defs.length+1)≠0:=nzf;have:=Wo (b:=0<e1 (Z.nv+g.defs.length)) (by rw[<- d1];exact h0);omega
 obtain⟨hy1,hy2⟩:=k3 e1 b1 c1;simp only[Mm,M6,Sh.leaves,X5,Sh.rel,M5]at hy1 hy2;generalize hye:dec (g.y.ev e1)=y at hy1 hy2;have hde:D.ev T e1 (.lcpy g.r.x g.y)=enc (y.take l.length++l.drop y.length):=by simp only[D.ev,hxe,hl,hye]
 have hhas:g.r.k.hasL (y.take l.length++l.drop y.length):=by
  refine⟨?_,fun q hq=>?_⟩
  ·simp only[Mk,Mi,Kg];omega
  ·rcases L4.1 hq with hq|hq
   ·exact hy1.1.2 q (Hv hq)
   ·exact q3.1.2 q (List.mem_of_mem_drop hq)
 have hlen':(y.take l.length++l.drop y.length).length=l.length:=by
  simp only[Mk,Mi,Kg];omega
 have t1:=lt (enc (y.take l.length++l.drop y.length)) hde.symm (by simp only[KK.has,Qr];exact hhas);have henv:∀j,j<Z.nv->upd e1 (Z.nv+(g.defs.length+2)) (enc (y.take l.length++l.drop y.length)) j=m.env j:=fun j hj=>by
  simp only[upd];rw[if_neg (by omega)];exact b1 j hj
 have hnm:=hR.names _ henv (Z.nv+(g.defs.length+3)) (by omega);have hev:dec (A.ev (upd e1 (Z.nv+(g.defs.length+2)) (enc (y.take l.length++l.drop y.length))) (.v (Z.nv+(g.defs.length+2))))=y.take l.length++l.drop y.length:=by simp[A.ev,upd,Qr]
 have hxn:g.r.x.ev (upd e1 (Z.nv+(g.defs.length+2)) (enc (y.take l.length++l.drop y.length)))=g.r.x.ev m.env:=A.Xih q1.1 henv;have q4:=q3.2.1;rw[G.own]at q4;simp only[if_true]at q4;rcases q4.2 with⟨hv,hn⟩|⟨gb,cap,cur,hv,hbase,hgb,hc1,hc2,hc3,hc4⟩
 ·omega
 have hfl:(flat g.r.k l).length=l.length*g.r.k.sz:=Bi _ _;have hcs:(flat g.r.k (y.take l.length)).length=Nat.min y.length l.length*g.r.k.sz:=by
  rw[Bi,Mi,Nat.min_comm]
 have hfit:(flat g.r.k (y.take l.length)).length<=cur.size:=by
  rw[hcs,hc3];exact Kn _ (Nat.le_trans (Nat.min_le_right _ _) hc1)
 have hrun:(Builtin.copy_ #[ty,ty'] o.type #[a.eval d,a.eval s]).run P w=.ok (goInt (Nat.min y.length l.length)) (w.setRow gb (flat g.r.k (y.take l.length)++cur.toList.drop (flat g.r.k (y.take l.length)).length).toArray):=by
  rw[hd.2.1,hv];rcases hy2 with⟨hs,hy0⟩|⟨ad,scap,hs,hb,hsc,hcell⟩
  ·rw[hs,hy0];have:=Qo1 (P:=P) w ty ty' o.type e ⟨gb,0,none⟩ l.length cap g.r.k.sz G.und G.size;simp only[Mf,List.take_nil];rw[this];have e2:flat g.r.k ([]:List Int)=[]:=rfl;rw[e2];simp only[Mf,Hk,Mu,Array.toArray_toList];rw[setRow_self w gb cur _ (0,0) hgb];simp
  ·rw[hs];refine Qs7 (P:=P) w ty ty' o.type e gb l.length cap ad y.length scap g.r.k.sz cur g.r.elem _ G.und G.size hgb hcs (fun j u hj=>?_) hfit (Qt8 _ _);refine hcell j u ?_;rw[Qau,K3]at hj;split at hj
   ·exact hj
   ·cases hj
 have hex:(execOp a.eval o).run P w=.ok (.value (goInt (Nat.min y.length l.length))) (w.setRow gb (flat g.r.k (y.take l.length)++cur.toList.drop (flat g.r.k (y.take l.length)).length).toArray):=by
  simp only[execOp,G.op,resolve];simp only[invoke,builtin,Sem.run_bind,Sem.run_pure,Result.andThen_ok,List.map_toArray,Mm,M6,hrun]
 unfold Oper.wp;rw[hex];have hbox':({Z with nv:=Z.nv+(g.defs.length+3) }:St).boxes[g.id]?=some (some g.b):=G.box;have hat:RowAt w0 (w.setRow gb (flat g.r.k (y.take l.length)++cur.toList.drop (flat g.r.k (y.take l.length)).length).toArray) {g.r with x:=.v (Z.nv+(g.defs.length+2)) } (m.sv g.id) (y.take l.length++l.drop y.length):=by
  refine⟨hhas,?_,q3.2.2⟩;simp only[G.own,if_true];refine⟨by rw[Bi],.inr ⟨gb,cap,_,by rw[hlen'];exact hv,hbase,setRow_heap w _ _ _ _ _ hgb,by rw[hlen'];exact hc1,hc2,?_,?_⟩⟩
  ·simp only[List.size_toArray,Mk,Kg,Kv];omega
  ·rw[hlen',List.toList_toArray,Qji,Qib,<- hc4];have hle:(flat g.r.k (y.take l.length)).length<=l.length*g.r.k.sz:=by rw[hcs];exact Kn _ (Nat.min_le_right _ _)
   rw[List.take_append,O8 hle];congr 1;rw[hcs,<- List.drop_take];by_cases hyl:y.length<=l.length
   ·rw[show Nat.min y.length l.length=y.length from Ho hyl]
   ·have e1:Nat.min y.length l.length=l.length:=Nat.min_eq_right (by omega);rw[e1,Kp (by rw[Mi];omega),Kp];rw[Mi];have:=Kn g.r.k.sz (show l.length<=y.length by omega);omega
 have r1:=hnm.Xjy hbox' G.row G.own (g:=gb) (x:=.v (Z.nv+(g.defs.length+2))) (by show(m.sv g.id).ownBlock=some gb;rw[hv];rfl) ⟨by show Z.nv+(g.defs.length+2)<Z.nv+(g.defs.length+3);omega,trivial⟩
  (by rw[hev,hlen'];simp only[hxn,hl]) (by rw[hev];exact hat)
 have Jy:=r1.put (s:=.vl (.one .top)) (v:=goInt (Nat.min y.length l.length)) trivial o.dst;have eq:Qjr Z g o.dst=(({Z with nv:=Z.nv+(g.defs.length+3) }:St).Xik g.id (g.b.upd (.row (.v (Z.nv+(g.defs.length+2)))))).put o.dst (.vl (.one .top)):=by
  unfold Qjr;rw[W1];rfl
 have hal:∀(X:St) (d:Option Nat) (q:SV),(X.put d q).al=X.al/\(X.put d q).nv=X.nv:=fun X d q=>by cases d <;> exact⟨rfl,rfl⟩
 have hals:(({Z with nv:=Z.nv+(g.defs.length+3) }:St).Xik g.id (g.b.upd (.row (.v (Z.nv+(g.defs.length+2)))))).al=Z.al:=by
  funext i
  rw[Z3];split
  ·rename_i hi;rw[hi.1];exact(Vw.2 ⟨g.b,G.box⟩).symm
  ·rfl
 refine hK _ _ _ ?_ (by rw[eq];exact Jy) t1;rw[eq,(hal _ _ _).1,(hal _ _ _).2,hals];exact⟨henv,fun _ _=>rfl,rfl,fun _ _=>rfl,by show Z.nv<=Z.nv+(g.defs.length+3);omega,fun _ h=>h⟩
end
section
variable {P:Program}{T:List K}{w0:World}{m:M}{Z:St}{a:Act}{w:World}
theorem Qbc{bs:List (Option Box)}{id i:Nat}{b:Box}(h:(Xiu bs id)[i]?=some (some b)):∃b',bs[i]?=some (some b')/\b'.elem=b.elem/\b'.row=b.row/\(b'.cells=b.cells/\b'.own=b.own/\i≠id∨b.cells=[]/\b.own=false):=by
 unfold Xiu at h;rw[lget?_eq]at h;split at h
 ·rename_i b0 hb0;rw[W1]at h;by_cases hi:id=i
  ·subst hi;have hl:id<bs.length:=(Ou.1 hb0).1;simp[hl]at h;subst h;exact⟨b0,hb0,rfl,rfl,.inr ⟨rfl,rfl⟩⟩
  ·rw[O3 hi]at h;exact⟨b,h,rfl,rfl,.inl ⟨rfl,rfl,fun e=>hi e.symm⟩⟩
 ·rename_i hn;exact⟨b,h,rfl,rfl,.inl ⟨rfl,rfl,fun e=>hn b (by rw[<- e];exact h)⟩⟩
theorem Zku{bs:List (Option Box)}{id i:Nat}{b:Box}(h:(Xiu bs id)[i]?=some (some b)):∃b',bs[i]?=some (some b')/\b'.fz=b.fz:=by
 unfold Xiu at h;simp only[lget?_eq,W1]at h;split at h
 ·rename_i c hc;by_cases hi:id=i
  ·subst hi;rw[L1 (Ou.1 hc).1]at h;cases h;exact⟨c,hc,rfl⟩
  ·rw[O3 hi]at h;exact⟨b,h,rfl⟩
 ·exact⟨b,h,rfl⟩
theorem Qa5(bs:List (Option Box))(id:Nat):(Xiu bs id).length=bs.length:=by
 unfold Xiu;split
 ·rw[W1];simp
 ·rfl
theorem Quk(Z:St)(id:Nat):({Z with boxes:=Xiu Z.boxes id }:St).al=Z.al:=by
 funext i
 unfold St.al Xiu;simp only[lget?_eq,W1];cases hb0:Z.boxes[id]? with
 |none=>rfl
 |some ob=>cases ob with
  |none=>rfl
  |some b0 =>
   simp only;by_cases hi:id=i
   ·subst hi;have hl:id<Z.boxes.length:=(Ou.1 hb0).1;rw[L1 hl,hb0]
   ·rw[O3 hi]
theorem Rep.Xiu(h:Rep w0 m Z a w)(id:Nat):Rep w0 m {Z with boxes:=Sx.Xiu Z.boxes id } a w:=by
 have hal:=Quk Z id;have own':∀ {i:Nat} {b:Box},(Sx.Xiu Z.boxes id)[i]?=some (some b)->b.own=true->∃b',Z.boxes[i]?=some (some b')/\b'.own=true/\b'.elem=b.elem/\b'.cells=b.cells:=by
  intro i b hi ho;obtain⟨b',h1,h2,_,h4⟩:=Qbc hi;rcases h4 with⟨h4,h5,_⟩|⟨_,h5⟩
  ·exact⟨b',h1,h5.trans ho,h2,h4⟩
  ·rw[ho]at h5;cases h5
 have row':∀ {i:Nat} {b:Box} {r:Row},(Sx.Xiu Z.boxes id)[i]?=some (some b)->b.row=some r->∃b',Z.boxes[i]?=some (some b')/\b'.row=some r:=by
  intro i b r hi hr;obtain⟨b',h1,_,h3,_⟩:=Qbc hi;exact⟨b',h1,h3.trans hr⟩
 refine⟨h.defers,h.size,?_,h.below,?_,?_,?_,h.kn,?_,?_,?_,?_,h.base⟩
 ·rw[hal];exact h.tmp
 ·rw[hal];intro i b hi ho;obtain⟨b',h1,h2,h3,h4⟩:=own' hi ho;obtain⟨g1,g2,vs,g3,g4⟩:=h.own i b' h1 h2;obtain⟨b2,q1,q2⟩:=Zku hi;have hbb:b2=b':=by rw[h1]at q1;cases q1;rfl
  exact⟨g1,g2,vs,by rw[<- h3,<- q2,hbb];exact g3,by rw[<- h4];exact g4⟩
 ·rw[hal];intro i b hi ho;obtain⟨b',h1,h2,_,h4⟩:=Qbc hi;rcases h4 with⟨h4,h5,_⟩|⟨h4,_⟩
  ·have:=h.ro i b' h1 (h5.trans ho);rw[h4]at this;exact this
  ·exact .inl h4
 ·intro i i' b b' hi hi' ho ho' hd;obtain⟨c,h1,h2,_⟩:=own' hi ho;obtain⟨c',k1,k2,_⟩:=own' hi' ho';exact h.inj i i' c c' h1 k1 h2 k2 hd
 ·rw[hal];exact h.gl
 ·intro i b r hi hr;obtain⟨b',h1,h2⟩:=row' hi hr;exact h.rows i b' r h1 h2
 ·intro i b r hi hr ho i' b' hi' hbo;obtain⟨c,h1,h2⟩:=row' hi hr;obtain⟨c',k1,k2,_⟩:=own' hi' hbo;exact h.rbox i c r h1 h2 ho i' c' k1 k2
 ·intro i b r i' b' r' hi hr hi' hr' ho ho' hd;obtain⟨c,h1,h2⟩:=row' hi hr;obtain⟨c',k1,k2⟩:=row' hi' hr';exact h.rsep i c r i' c' r' h1 h2 k1 k2 ho ho' hd
theorem Rep.Xj0(h:Rep w0 m Z a w)(t:Nat)(s:SV)(hs:∀v,a.tmps[t]?=some v->s.rel m Z.nv Z.al v):Rep w0 m {Z with tmps:=Z.tmps.set t s } a w:=by
 refine⟨h.defers,by simp[h.size],fun i s' hi=>?_,h.below,h.own,h.ro,h.inj,h.kn,h.gl,h.rows,h.rbox,h.rsep,h.base⟩;simp only[List.getElem?_set]at hi;split at hi
 ·rename_i he;subst he;split at hi
  ·rename_i hl;cases hi;have:t<a.tmps.size:=by rw[h.size];exact hl
   exact⟨a.tmps[t],Mv this,hs _ (Mv this)⟩
  ·cases hi
 ·exact h.tmp i s' hi
structure FrzSpec (P:Program) (Z:St) (nn:Nat) (g:Frz) (b:Box):Prop where
 cell:Z.cell (.tmp g.slot)=some (.slice g.id 0 g.n g.n)
 box:Z.box g.id=some b
 own:b.own=true
 fz:b.fz=(0,0)
 elem:b.elem=g.elem
 pos:0<g.n
 max:g.n<=1024
 len:b.cells.length=g.n*g.k.sz
 take:takeNK g.k nn g.n b.cells=some (g.defs,g.as)
theorem Qv1{nn:Nat}{op:Op}{g:Frz}(h:Qg3 P Z nn op=some g):∃b,FrzSpec P Z nn g b:=by
 unfold Qg3 at h;split at h
 ·split at h
  ·split at h
   ·rename_i id n cap hc;split at h
    ·split at h
     ·rename_i k b hk hb;split at h
      ·rename_i hcond;simp only[Oo,beq_iff_eq,decide_eq_true_eq]at hcond;obtain⟨⟨⟨⟨⟨⟨⟨c1,c0⟩,c2⟩,c3⟩,c4⟩,c5⟩,c6⟩,c7⟩:=hcond;split at h
       ·rename_i ds as ht;cases h;subst c4;exact⟨b,hc,hb,c1,c0,c3,c5,c6,c7,ht⟩
       ·cases h
      ·cases h
     ·cases h
    ·cases h
   ·cases h
  ·cases h
 ·cases h
theorem Zgj(hR:Rep w0 m Z a w){op:Op}{g:Frz}(hg:Qg3 P Z Z.nv op=some g){goal:Gl}{t:Qn}
  (hh:(Jc Z.nv (g.defs++[(.lst g.k,.lapp (.lit 0) g.as)]) t).holds T goal m.env) :
  ∃m',MExt m Z.nv Z.al m' (Qdq Z g).nv (Qdq Z g).al/\Rep w0 m' (Qdq Z g) a w/\t.holds T goal m'.env:=by
 obtain⟨b,G⟩:=Qv1 hg;obtain⟨k1,k2,vs,k3,k4⟩:=hR.own g.id b (Z1 G.box) G.own;rw[G.fz]at k3;obtain⟨g1,g3,g4⟩:=Jm (T:=T) _ _ _ _ _ G.take m Z.nv vs k4;have hvl:vs.length=g.n*g.k.sz:=by rw[<- k4.length,G.len]
 have Jy:∀e',(∀i,i<Z.nv->e' i=m.env i)->Told T e' Z.nv g.defs->g.k.hasL (g.as.map (·.ev e'))/\flat g.k (g.as.map (·.ev e'))=vs/\(g.as.map (·.ev e')).length=g.n:=fun e' he ht=>by
  obtain⟨v1,v2⟩:=g4 e' he ht;have hl:(g.as.map (·.ev e')).length=g.n:=by rw[Mn,g3]
  exact⟨⟨by rw[hl];have:=G.max;omega,v2⟩,v1,hl⟩
 have gen:Zh T m.env Z.nv (g.defs++[(.lst g.k,.lapp (.lit 0) g.as)]):=by
  refine Q8 _ _ _ _ (g1 (Nat.le_refl _)).1 fun e1 he1 ht1=>⟨⟨trivial,(g1 (Nat.le_refl _)).2⟩,?_,trivial⟩
  simp only[KK.has,D.ev,A.ev,Qu,Qr,Mu];exact(Jy e1 he1 ht1).1
 obtain⟨e1,b1,b2,b3,b4⟩:=Xm _ _ _ hh gen;obtain⟨c1,c2⟩:=(Told.append).1 b3;obtain⟨f1,f2,f3⟩:=Jy e1 b1 c1;have h0:e1 (Z.nv+g.defs.length)=enc (g.as.map (·.ev e1)):=by
  have h1:e1 (Z.nv+g.defs.length+0)=enc (dec 0++g.as.map (·.ev e1)):=(c2 0 _ _ rfl).1;rwa[Qu,Mu]at h1
 generalize hl:g.as.map (·.ev e1)=l at f1 f2 f3 h0;have hnm:=hR.names e1 b1 (Z.nv+(g.defs.length+1)) (by omega);have hdr:=(hnm.Xiu g.id).room 1;have hal1:({Z with nv:=Z.nv+(g.defs.length+1),boxes:=Sx.Xiu Z.boxes g.id++List.replicate 1 none }:St).al=Z.al:=by
  rw[<- Quk Z g.id];exact Zc0 {Z with boxes:=Sx.Xiu Z.boxes g.id } 1
 have hbx:∀ {i:Nat} {bx:Box},(Sx.Xiu Z.boxes g.id++List.replicate 1 none)[i]?=some (some bx)->(Sx.Xiu Z.boxes g.id)[i]?=some (some bx):=by
  intro i bx hi;rcases Ht i (Sx.Xiu Z.boxes g.id).length with h|h
  ·rwa[Mh h]at hi
  ·rw[O7 h]at hi;have:=Mq hi;rw[List.mem_replicate]at this;cases this.2
 have hev:dec (A.ev e1 (.v (Z.nv+g.defs.length)))=l:=by
  show dec (e1 (Z.nv+g.defs.length))=l;rw[h0,Qr]
 have hn1:(Sx.Xiu Z.boxes g.id++List.replicate 1 none)[Z.boxes.length]?=some none:=by
  rw[O7 (by rw[Qa5];exact Nat.le_refl _),Qa5];simp
 have hat0:m.at g.id 0=⟨(m.rho g.id).1,0,none⟩:=by simp[M.at,k1]
 obtain⟨q1,q2⟩:=hdr.Xjn (nid:=Z.boxes.length) hn1 (row:=some (m.rho g.id).1) (w':=w) ⟨rfl,rfl,rfl,Nat.le_refl _,fun _ _ _=>rfl⟩
  (fun k hk=>by
   cases hk;refine⟨k2,fun id b' hb' ho e=>?_,fun id b' q hb' hq hqo e=>?_⟩
   ·obtain⟨c,d1,_,_,d4⟩:=Qbc (hbx hb');rcases d4 with⟨_,d5,d6⟩|⟨_,d5⟩
    ·exact hR.inj id g.id c b d1 (Z1 G.box) (d5.trans ho) G.own d6 e
    ·rw[ho]at d5;cases d5
   ·obtain⟨c,d1,_,d3,_⟩:=Qbc (hbx hb');exact hR.rbox id c q d1 (d3.trans hq) hqo g.id b (Z1 G.box) G.own e)
  (r:={x:=.v (Z.nv+g.defs.length),x0:=.v (Z.nv+g.defs.length),k:=g.k,elem:=g.elem,own:=true,full:=true }) (v:=.slice (some ⟨(m.rho g.id).1,0,none⟩) g.n g.n)
  ⟨by show Z.nv+g.defs.length<Z.nv+(g.defs.length+1);omega,trivial⟩ ⟨by show Z.nv+g.defs.length<Z.nv+(g.defs.length+1);omega,trivial⟩ rfl
  (by
   show RowAt w0 w _ _ (dec (A.ev e1 (.v (Z.nv+g.defs.length))));rw[hev];refine⟨f1,?_,fun _=>rfl⟩;simp only[if_true];rw[f2,f3];exact⟨hvl,.inr ⟨(m.rho g.id).1,g.n,vs.toArray,rfl,k2,by rw[k3,G.elem],Nat.le_refl _,by have:=G.max;unfold maxLen;omega,by simpa using hvl,by rw[O8 (by rw[<- hvl];simp)]⟩⟩)
  (fun g' _ hg'=>.inl hg')
 have eq:Qdq Z g={(({Z with nv:=Z.nv+(g.defs.length+1),boxes:=Sx.Xiu Z.boxes g.id++List.replicate 1 none }:St).Xik Z.boxes.length (Zf {x:=.v (Z.nv+g.defs.length),x0:=.v (Z.nv+g.defs.length),k:=g.k,elem:=g.elem,own:=true,full:=true }))with tmps:=Z.tmps.set g.slot (.vl (.one (.sl Z.boxes.length))) }:=by
  unfold Qdq St.Xik;rw[W1];have:(Sx.Xiu Z.boxes g.id++List.replicate 1 none).set Z.boxes.length (some (Zf {x:=.v (Z.nv+g.defs.length),x0:=.v (Z.nv+g.defs.length),k:=g.k,elem:=g.elem,own:=true,full:=true }))=Sx.Xiu Z.boxes g.id++[some (Zf {x:=.v (Z.nv+g.defs.length),x0:=.v (Z.nv+g.defs.length),k:=g.k,elem:=g.elem,own:=true,full:=true })]:=by
   rw[List.set_append_right _ _ (by rw[Qa5];exact Nat.le_refl _),Qa5];simp
  simp only[this]
 have hc:=hR.cell G.cell;have hnl:Z.boxes.length<(Sx.Xiu Z.boxes g.id++List.replicate 1 none).length:=by simp[Qa5]
 refine⟨({m with env:=e1 }:M).row Z.boxes.length (.slice (some ⟨(m.rho g.id).1,0,none⟩) g.n g.n),?_,?_,b4⟩
 ·rw[eq];refine MExt.trans (m':={m with env:=e1 }) (nv':=Z.nv+(g.defs.length+1)) (al':=Z.al) ⟨b1,fun _ _=>rfl,rfl,fun _ _=>rfl,by omega,fun _ h=>h⟩ ?_;rw[hal1]at q2;exact q2
 ·rw[eq];refine q1.Xj0 g.slot _ fun v hv=>⟨by rw[Z3,if_pos ⟨rfl,hnl⟩],?_,?_⟩
  ·have he:a.eval (.tmp g.slot)=v:=by simp[Act.eval,hv]
   rw[<- he,hc.2,hat0];simp[M.row]
  ·have he:a.eval (.tmp g.slot)=v:=by simp[Act.eval,hv]
   rw[<- he,hc.2];rfl
end
end Go.Sx
