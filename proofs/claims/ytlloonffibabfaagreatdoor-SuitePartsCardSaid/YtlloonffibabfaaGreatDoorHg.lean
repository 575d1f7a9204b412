/- Part Hg of the proof. -/
import Derived.Test.YtlloonffibabfaaGreatDoorHf
import Derived.Laws.OwnMore
set_option linter.unusedVariables false
set_option linter.unusedSimpArgs false
namespace Go.Sx
open Go Go.RowKit
section
variable {P:Program}{T:List K}{ops:Array Oper}{nv0 len0:Nat}{E:Nat->Int}{w0:World}
theorem Qf9(hT:∀(g:Nat) X,T[g]?=some X->X.Xbm P w0){m:M}{Y Y':St}{a:Act}{w:World}{i:Nat}{o:Oper}(hi:ops[i]?=some o)(h:Rep w0 m Y a w)(hE:m.env=E)(hnv:nv0+ops.size*Qz<=Y.nv)
  (hs:Ve P T ops nv0 len0 E i Y Y') {K:Act->World->Prop} {Q:Exit->Act->World->Prop}
  (hK:∀m' a' w',m'.env=E->MExt m Y.nv Y.al m' Y'.nv Y'.al->Rep w0 m' Y' a' w'->Y'.nv=Y.nv->K a' w'):if Region.wanted o (yielded ops a.tmps)then o.wp P a w K Q else K (a.put o.dst undef) w:=by
 have hlt:=(L9.1 hi).1;have hmul:i*Qz+Qz<=ops.size*Qz:=by
  have:=Ko Qz (show i+1<=ops.size from hlt);rwa[K8,Nat.one_mul]at this
 obtain⟨g1,g2⟩:=Qjt h (all:=ops) (o:=o);unfold Ve at hs;rw[hi]at hs;rcases hs with⟨k1,rfl⟩|⟨k1,p,k2,k3,k4,k5,rfl⟩
 ·rw[if_neg (by rw[g2 k1];simp)];have hp:=h.put (s:=Y3) (v:=undef) ⟨[],rfl,trivial⟩ o.dst;have hal:(Y.put o.dst Y3).al=Y.al:=by funext id;unfold St.al;rw[(Z1 _ _ _).2.1]
  have hn:(Y.put o.dst Y3).nv=Y.nv:=(Z1 _ _ _).1;exact hK m _ _ hE (by rw[hal,hn];exact MExt.refl ..) hp hn
 ·rw[if_pos (g1 k1)];refine(Qol hT h k2 k5 (by rw[hE];exact k4.defs) (by rw[hE];exact k4.post) (by omega) (by rw[hE];exact k4.nz) (by rw[hE];exact k4.req) fun m' a' w' e1 e2 e3=>?_);have hn:(Qaj Y p (len0+i) o.dst).nv=Y.nv:=(Qbf _ _ _ _).2.1;exact hK m' a' w' (e1.trans hE) (by rw[hn];exact e2) e3 hn
def Has(w0:World)(nv1:Nat)(E:Nat->Int)(Y:St):Prop:=∃(m:M) (a:Act) (w:World),m.env=E/\Rep w0 m Y a w/\Y.nv=nv1
theorem Qtc(hT:∀(g:Nat) X,T[g]?=some X->X.Xbm P w0){i:Nat}{nv1:Nat}(hnv:nv0+ops.size*Qz<=nv1){o:Oper}(hi:ops[i]?=some o){Y Y':St}(h:Has w0 nv1 E Y)(hs:Ve P T ops nv0 len0 E i Y Y'):Has w0 nv1 E Y':=by
 obtain⟨m,a,w,e1,e2,e3⟩:=h;have:=Qf9 hT hi e2 e1 (by omega) hs (K:=fun _ _=>Has w0 nv1 E Y') (Q:=fun _ _ _=>False) fun m' a' w' h1 _ h3 h4=>⟨m',a',w',h1,h3,h4.trans e3⟩
 split at this
 ·obtain⟨_,_,h⟩:=Qmg this;exact h
 ·exact this
def Qp6(P:Program)(T:List K)(ops:Array Oper)(nv0 len0:Nat)(E:Nat->Int)(Q:St->Prop):Nat->Array Bool->St->Prop
 |0,listed,Y=>Region.ready .any ops listed=[]/\Q Y
 |fuel+1,listed,Y =>
  (Region.ready .any ops listed=[]->Q Y) /\
  ∀i∈Region.ready .any ops listed,∃Y',Ve P T ops nv0 len0 E i Y Y'/\Qp6 P T ops nv0 len0 E Q fuel (listed.setIfInBounds i true) Y'
theorem Qi0{md:Region.Mode}{i:Nat}{listed:Array Bool}(h:i∈Region.ready md ops listed):∃o,ops[i]?=some o:=by
 obtain⟨_,o,ho,_⟩:=mem_ready.1 h;exact⟨o,ho⟩
theorem Qd0{i j:Nat}{oi oj:Oper}(h:Qod ops.toList=true)(hij:j≠i)(hi:ops[i]?=some oi)(hj:ops[j]?=some oj)
  (h1:∀e∈oj.after,Region.binds .any e=true->e.on≠i) (h2:∀e∈oi.after,Region.binds .any e=true->e.on≠j):Ql7 oi oj=true:=by
 unfold Qod at h;simp only[Ms]at h;have hm:∀ {k:Nat} {o:Oper},ops[k]?=some o->(o,k)∈ops.toList.zipIdx:=fun {k o} hk=>by
  rw[Kr];simpa using hk
 have:=h _ (hm hi) _ (hm hj);have no:∀ {x:Nat} {y:Oper},(∀e∈y.after,Region.binds .any e=true->e.on≠x)->ordered x y=false:=fun {x y} hh=>by
  unfold ordered;rw[H5];intro hany;obtain⟨e,he,hb⟩:=K6.1 hany;simp only[Oo,beq_iff_eq]at hb;exact hh e he hb.1 hb.2
 rw[no h1,no h2]at this;simp only[Oar,Hy,beq_iff_eq]at this;rcases this with this|this
 ·exact absurd this.symm hij
 ·exact this
theorem Zb6{Y:St}{q:Option Plan}{nid:Nat}{d:Option Nat}{t:Nat}(h:d≠some t):(Uq Y q nid d).tmps[t]?=Y.tmps[t]?:=by rw[Jp,Qql h]
theorem Qps(Y:St)(q:Option Plan)(nid:Nat)(d:Option Nat):(Uq Y q nid d).gl=Y.gl:=by rw[Jp];exact(Z1 _ _ _).2.2.2.1
theorem Qnw{i:Nat}{o:Oper}(hi:ops[i]?=some o){Y Y':St}(h:Ve P T ops nv0 len0 E i Y Y'){t:Nat}(ht:o.dst≠some t):Y'.tmps[t]?=Y.tmps[t]?/\Y'.gl=Y.gl:=by
 obtain⟨q,rfl,_⟩:=Jv hi h;exact⟨Zb6 ht,Qps ..⟩
theorem Zpj{Y':St}{t:Nat}:∀(fuel:Nat) (listed:Array Bool) (Y:St),Qp6 P T ops nv0 len0 E (fun s=>s=Y') fuel listed Y->(∀(k:Nat) o,ops[k]?=some o->listed.getD k true=false->o.dst≠some t)->Y.tmps[t]?=Y'.tmps[t]?
 |0,_,Y,h,_=>by rw[h.2]
 |fuel+1,listed,Y,h,ht=>by
  cases hr:Region.ready .any ops listed with
  |nil=>rw[h.1 hr]
  |cons i r =>
   have hi:i∈Region.ready .any ops listed:=by rw[hr];exact Mr ..
   obtain⟨σ2,k1,k2⟩:=h.2 i hi;obtain⟨hun,o,ho,_⟩:=mem_ready.1 hi;have h1:=(Qnw ho k1 (ht i o ho hun)).1;rw[<- h1];refine Zpj fuel _ σ2 k2 fun k ok hk hku=>ht k ok hk ?_
   by_cases hik:i=k
   ·subst hik;exact hun
   ·rw[getD_set_ne true hik]at hku;exact hku
theorem Qzy{Y':St}:∀(fuel:Nat) (listed:Array Bool) (Y:St),Qp6 P T ops nv0 len0 E (fun s=>s=Y') fuel listed Y->Y.gl=Y'.gl
 |0,_,Y,h=>by rw[h.2]
 |fuel+1,listed,Y,h=>by
  cases hr:Region.ready .any ops listed with
  |nil=>rw[h.1 hr]
  |cons i r =>
   have hi:i∈Region.ready .any ops listed:=by rw[hr];exact Mr ..
   obtain⟨σ2,k1,k2⟩:=h.2 i hi;obtain⟨_,o,ho,_⟩:=mem_ready.1 hi;obtain⟨q,rfl,_⟩:=Jv ho k1;have:=Qzy fuel _ _ k2;rw[Qps]at this;exact this
theorem Zjd{Y Y':St}(hg:Y.gl=Y'.gl){z:Operand}(hz:∀t,z=.tmp t->Y.tmps[t]?=Y'.tmps[t]?):Y.val z=Y'.val z:=by
 cases z with
 |tmp t=>simp only[St.val,St.Xbk,Ou,hz t rfl]
 |global g=>simp only[St.val,hg]
 |_=>rfl
theorem Zbq(h:tidy ops.toList=true){k j t:Nat}{ok oj:Oper}(hk:ops[k]?=some ok)(hj:ops[j]?=some oj)(hd:ok.dst=some t)(hz:.tmp t∈oj.op.operands):ordered k oj=true:=by
 unfold tidy at h;simp only[Ms]at h;have hm:∀ {k:Nat} {o:Oper},ops[k]?=some o->(o,k)∈ops.toList.zipIdx:=fun {k o} hk=>by
  rw[Kr];simpa using hk
 have h1:=h _ (hm hk);simp only[hd,Ms]at h1;have h2:=h1 _ (hm hj);have h3:oj.op.operands.any (Zh8 t)=true:=K6.2 ⟨_,hz,by simp[Zh8]⟩;simp only[h3,Oag,Bool.false_or]at h2;exact h2
def Closed(ops:Array Oper)(listed:Array Bool):Prop:=∀(i:Nat) oi,listed.getD i false=true->ops[i]?=some oi->∀e∈oi.after,Region.binds .any e=true->listed.getD e.on false=true
theorem getD_set_true{listed:Array Bool}{i j:Nat}(h:listed.getD j false=true):(listed.setIfInBounds i true).getD j false=true:=by
 by_cases hij:i=j
 ·subst hij;have hlt:i<listed.size:=by
   by_cases hc:i<listed.size
   ·exact hc
   ·rw[Mj,Oad (by omega)]at h;cases h
  simp[Mj,hlt]
 ·simp only[Mj,K4]at h ⊢;rw[if_neg hij];exact h
theorem Closed.set{listed:Array Bool}(h:Closed ops listed){i:Nat}(hi:i∈Region.ready .any ops listed):Closed ops (listed.setIfInBounds i true):=by
 intro j oj hj hoj e he hb;by_cases hij:j=i
 ·subst hij;obtain⟨_,o',ho',hall⟩:=mem_ready.1 hi;rw[hoj]at ho';cases ho';exact getD_set_true (hall e he hb)
 ·refine getD_set_true (h j oj ?_ hoj e he hb);simp only[Mj,K4]at hj ⊢;rw[if_neg (by omega)]at hj;exact hj
theorem Wq{listed:Array Bool}(hc:Closed ops listed){x:Nat}:∀(n:Nat) (y:Oper),(∀e∈y.after,Region.binds .any e=true->listed.getD e.on false=true)->before ops.toList n x y=true->listed.getD x false=true
 |0,y,h,hb=>by
  unfold before ordered at hb;obtain⟨e,he,hbe⟩:=K6.1 hb;simp only[Oo,beq_iff_eq]at hbe;rw[<- hbe.2];exact h e he hbe.1
 |n+1,y,h,hb=>by
  unfold before at hb;rcases Bool.or_eq_true_iff.1 hb with hb|hb
  ·unfold ordered at hb;obtain⟨e,he,hbe⟩:=K6.1 hb;simp only[Oo,beq_iff_eq]at hbe;rw[<- hbe.2];exact h e he hbe.1
  ·obtain⟨e,he,hbe⟩:=K6.1 hb;rw[Oo]at hbe;obtain⟨h1,h2⟩:=hbe;have hl:=h e he h1;cases ho:ops.toList[e.on]? with
   |none=>rw[ho]at h2;cases h2
   |some o =>
    rw[ho]at h2;exact Wq hc n o (hc e.on o hl (by simpa using ho)) h2
theorem Qd4{Y':St}{i j:Nat}{oi oj:Oper}(h:Qqc T Y' ops.toList=true)(hij:j≠i)(hi:ops[i]?=some oi)(hj:ops[j]?=some oj)
  (h1:∀e∈oj.after,Region.binds .any e=true->e.on≠i) (h2:∀e∈oi.after,Region.binds .any e=true->e.on≠j) (h3:before ops.toList 7 i oj=false) (h4:before ops.toList 7 j oi=false):Ql7 oi oj=true∨(Zoc Y' oi oj=true/\(Jc T oi.op || Jc T oj.op)=false):=by
 unfold Qqc at h;simp only[Ms]at h;have hm:∀ {k:Nat} {o:Oper},ops[k]?=some o->(o,k)∈ops.toList.zipIdx:=fun {k o} hk=>by
  rw[Kr];simpa using hk
 have:=h _ (hm hi) _ (hm hj);have no:∀ {x:Nat} {y:Oper},(∀e∈y.after,Region.binds .any e=true->e.on≠x)->ordered x y=false:=fun {x y} hh=>by
  unfold ordered;rw[H5];intro hany;obtain⟨e,he,hb⟩:=K6.1 hany;simp only[Oo,beq_iff_eq]at hb;exact hh e he hb.1 hb.2
 rw[no h1,no h2]at this;rw[h3,h4,Oar,Oar,Oar,Oar]at this;rcases Bool.or_eq_true_iff.1 this with this|this
 ·rcases Bool.or_eq_true_iff.1 this with this|this
  ·exact absurd (beq_iff_eq.1 this).symm hij
  ·exact .inl this
 ·rw[Oo,Hc]at this;exact .inr this
theorem Zdh{Y Y':St}{x y:Oper}(h:Zoc Y' x y=true)(hx:∀z∈x.op.operands,Y.val z=Y'.val z)(hy:∀z∈y.op.operands,Y.val z=Y'.val z):Sep Y x y:=by
 intro zx hzx s hs id hid zy hzy s' hs' hid';rw[hx zx hzx]at hs;rw[hy zy hzy]at hs';unfold Zoc at h;have h1:=Oae.1 h zx hzx;simp only[Ms,Zh3,hs]at h1;have h2:=Oae.1 (h1 id hid) zy hzy;simp only[hs',Hc,List.contains_eq_mem,decide_eq_false_iff_not]at h2;exact h2 hid'
theorem Qu3(hT:∀(g:Nat) X,T[g]?=some X->X.Xbm P w0){nv1:Nat}(hnv:nv0+ops.size*Qz<=nv1){Y':St}(hcalm:Qgm T Y' ops=true){i:Nat}{oi:Oper}(hi:ops[i]?=some oi) :
  ∀(fuel:Nat) (listed:Array Bool) (Y σi:St),
   (∀j oj,ops[j]?=some oj->j≠i->listed.getD j true=false->(∀e∈oj.after,Region.binds .any e=true->e.on≠i)->oi.apart ops oj=true) ->
   i∈Region.ready .any ops listed->Closed ops listed->Has w0 nv1 E Y->Ve P T ops nv0 len0 E i Y σi ->
   Qp6 P T ops nv0 len0 E (fun s=>s=Y') fuel (listed.setIfInBounds i true) σi->Qp6 P T ops nv0 len0 E (fun s=>s=Y') (fuel+1) listed Y:=by
 intro fuel
 induction fuel with
 |zero =>
  intro listed Y σi _ hr _ _ hy H;refine⟨fun h=>(by rw[h]at hr;cases hr),fun j hj=>?_⟩;by_cases hji:j=i
  ·subst hji;exact⟨_,hy,H⟩
  ·have:=ready_mono hj hji;rw[H.1]at this;cases this
 |succ fuel ih =>
  intro listed Y σi hfree hr hC hR hy H;refine⟨fun h=>(by rw[h]at hr;cases hr),fun j hj=>?_⟩;by_cases hji:j=i
  ·subst hji;exact⟨_,hy,H⟩
  ·obtain⟨σij,h1,h2⟩:=H.2 j (ready_mono hj hji);obtain⟨hjun,oj,hoj,hall⟩:=mem_ready.1 hj;have hnot:∀ {x y:Nat} {oy:Oper},listed.getD x true=false->(∀e∈oy.after,Region.binds .any e=true->listed.getD e.on false=true)->∀e∈oy.after,Region.binds .any e=true->e.on≠x:=fun {x y oy} h0 hall e he hb heq=>by
    have h1:=hall e he hb;rw[heq]at h1;rcases Ha x listed.size with h'|h'
    ·simp[h']at h0 h1;rw[h0]at h1;cases h1
    ·simp[Oad h']at h1
   have hnl:∀ {x:Nat},listed.getD x true=false->¬listed.getD x false=true:=fun {x} h0 h1=>by
    rcases Ha x listed.size with h'|h'
    ·simp[h']at h0 h1;rw[h0]at h1;cases h1
    ·simp[Oad h']at h1
   obtain⟨hiun,oi',hoi',halli⟩:=mem_ready.1 hr;rw[hi]at hoi';cases hoi';have same:∀(y:Oper) (yi:Nat),ops[yi]?=some y->(∀e∈y.after,Region.binds .any e=true->listed.getD e.on false=true)->(htidy:tidy ops.toList=true:=by assumption)->∀z∈y.op.operands,Y.val z=Y'.val z:=by
    intro y yi hy' hally htidy z hz;have hgl:Y.gl=Y'.gl:=by
     obtain⟨q,hq,_⟩:=Jv hi hy;have:=Qzy _ _ _ H;rw[hq,Qps]at this;exact this
    refine Zjd hgl fun t ht=>?_
    subst ht;have hno:∀(k:Nat) o,ops[k]?=some o->listed.getD k true=false->o.dst≠some t:=fun k o hk hku hd=>by
     have:=Zbq htidy hk hy' hd hz;unfold ordered at this;obtain⟨e,he,hbe⟩:=K6.1 this;simp only[Oo,beq_iff_eq]at hbe;exact hnot (y:=yi) hku hally e he hbe.1 hbe.2
    rw[<- (Qnw hi hy (hno i oi hi hiun)).1];refine Zpj _ _ _ H fun k o hk hku=>hno k o hk ?_
    by_cases hik:i=k
    ·subst hik;exact hiun
    ·rw[getD_set_ne true hik]at hku;exact hku
   have n1:=hnot (y:=j) hiun hall;have n2:=hnot (y:=i) hjun halli;have hap:=hfree j oj hoj hji hjun n1;have hpair:Ql7 oi oj=true∨Sep Y oi oj:=by
    unfold Qgm at hcalm;rw[Hy,Oo]at hcalm;rcases hcalm with hcalm|⟨htidy,hpairs⟩
    ·exact .inl (Qd0 hcalm hji hi hoj n1 n2)
    ·rcases Qd4 hpairs hji hi hoj n1 n2 (H5.2 fun h=>hnl hiun (Wq hC 7 oj hall h)) (H5.2 fun h=>hnl hjun (Wq hC 7 oi halli h))with h|h
     ·exact .inl h
     ·refine .inr (Zdh h.1 ?_ ?_)
      ·exact same oi i hi halli
      ·exact same oj j hoj hall
   have hll:(Jc T oi.op || Jc T oj.op)=true->Ql7 oi oj=true:=fun hor=>by
    unfold Qgm at hcalm;rw[Hy,Oo]at hcalm;rcases hcalm with hcalm|⟨_,hpairs⟩
    ·exact Qd0 hcalm hji hi hoj n1 n2
    ·rcases Qd4 hpairs hji hi hoj n1 n2 (H5.2 fun h=>hnl hiun (Wq hC 7 oj hall h)) (H5.2 fun h=>hnl hjun (Wq hC 7 oi halli h))with h|h
     ·exact h
     ·rw[h.2]at hor;cases hor
   obtain⟨σj,k1,k2⟩:=exchange (Ne.symm hji) hi hoj hap hpair hll (by obtain⟨_,_,_,_,hr,_⟩:=hR;exact hr.live) hy h1
   have hfree':∀k ok,ops[k]?=some ok->k≠i->(listed.setIfInBounds j true).getD k true=false ->
     (∀e∈ok.after,Region.binds .any e=true->e.on≠i)->oi.apart ops ok=true:=fun k ok hk hki hun hno=>by
    refine hfree k ok hk hki ?_ hno;by_cases hjk:j=k
    ·subst hjk;exact hjun
    ·rw[getD_set_ne true hjk]at hun;exact hun
   refine⟨σj,k1,ih (listed.setIfInBounds j true) σj σij hfree' (ready_mono hr (Ne.symm hji)) (hC.set hj) (Qtc hT hnv hoj hR k1) k2 ?_⟩;rw[Array.setIfInBounds_comm _ _ hji];exact h2
theorem Qkz(hT:∀(g:Nat) X,T[g]?=some X->X.Xbm P w0){nv1:Nat}(hnv:nv0+ops.size*Qz<=nv1){Y':St}(hcalm:Qgm T Y' ops=true):∀(l:List Oper) (k:Nat) (listed:Array Bool) (Y:St),(∀j,l[j]?=ops[k+j]?) ->
  Region.lexFrom .any ops l.length k listed=true->Closed ops listed->Has w0 nv1 E Y->Lex P T ops nv0 len0 E l k Y Y'->Qp6 P T ops nv0 len0 E (fun s=>s=Y') l.length listed Y
 |[],_,_,_,_,hB,_,_,h=>by cases h;exact⟨by simpa[Region.lexFrom]using hB,rfl⟩
 |o::l,k,listed,Y,hl,hB,hC,hR,h=>by
  have h0:ops[k]?=some o:=by simpa using(hl 0).symm
  simp only[Ov,Region.lexFrom,Oo]at hB;obtain⟨⟨hr,hf⟩,hB'⟩:=hB;cases h with
  |cons hs ht =>
   exact Qu3 hT hnv hcalm h0 l.length listed Y _ (Region.free_spec h0 hf) (by simpa using hr) hC hR hs
    (Qkz hT hnv hcalm l (k+1) _ _ (fun j=>by have:=hl (j+1);simpa[Kn,H2 1 j]using this) hB' (hC.set (by simpa using hr)) (Qtc hT hnv h0 hR hs) ht)
theorem Qg9(ops:Array Oper)(n:Nat):Closed ops (Array.replicate n false):=fun i oi hi=>by
 simp[Mj,Array.getElem?_replicate]at hi;split at hi <;> simp at hi
theorem Qgn(hT:∀(g:Nat) X,T[g]?=some X->X.Xbm P w0){nv1:Nat}(hnv:nv0+ops.size*Qz<=nv1){Q:St->Prop}{Q':Exit->Act->World->Prop}{m0:M}{nv:Nat}{al:Nat->Bool}
  (hQ:∀Y' m' a' w',m'.env=E->MExt m0 nv al m' Y'.nv Y'.al->Rep w0 m' Y' a' w'->Q Y'->Q' .normal a' w'):∀(fuel:Nat) (listed:Array Bool) (Y:St) (m:M) (a:Act) (w:World),m.env=E->MExt m0 nv al m Y.nv Y.al->Rep w0 m Y a w->Y.nv=nv1 ->
  Qp6 P T ops nv0 len0 E Q fuel listed Y->wpAny P .any ops Q' fuel listed a w
 |0,_,Y,m,a,w,h1,h2,h3,_,h=>⟨h.1,hQ Y m a w h1 h2 h3 h.2⟩
 | fuel+1,listed,Y,m,a,w,h1,h2,h3,h4,h=>⟨fun h0=>hQ Y m a w h1 h2 h3 (h.1 h0),fun i hi=>by
   obtain⟨o,ho⟩:=Qi0 hi;obtain⟨Y',k1,k2⟩:=h.2 i hi;have:=Qf9 hT ho h3 h1 (by omega) k1 (K:=wpAny P .any ops Q' fuel (listed.setIfInBounds i true)) (Q:=Q') fun m' a' w' e1 e2 e3 e4 =>
    Qgn hT hnv hQ fuel _ Y' m' a' w' e1 (h2.trans e2) e3 (e4.trans h4) k2
   unfold wpOp;rw[ho];simp only;split
   ·rename_i hw;rw[if_pos hw]at this;exact .inl this
   ·rename_i hw;rw[if_neg hw]at this;exact this⟩
theorem Rep.Xb2{w1:World}{m:M}{B:St}{a:Act}{w:World}{kn':List (Nat×Bool)}(h:Rep w1 m B a w)(hk:∀p∈kn',p∈B.kn∨(p.1<B.nv/\decide (m.env p.1≠0)=p.2)):Rep w1 m {B with kn:=kn' } a w :=
 ⟨h.defers,h.size,h.tmp,h.below,h.own,h.ro,h.inj,fun p hp=>(hk p hp).elim (fun hp=>h.kn p hp) id,h.gl,h.rows,h.rbox,h.rsep,h.base⟩
theorem Qrb(hT:∀(g:Nat) X,T[g]?=some X->X.Xbm P w0){m:M}{Y:St}{a:Act}{w:World}{fuel:Nat}{kk:St->Qq}{goal:Gl}(hR:Rep w0 m Y a w)
  (hh:(Qck P T ops Y.nv Y.boxes.length fuel ops.toList 0 {Y with nv:=Y.nv+ops.size*Qz,boxes:=Y.boxes++List.replicate ops.size none } kk).holds T goal m.env) :
  ∃E Y',(kk Y').holds T goal E/\Y'.lvl=Y.lvl/\Y'.nv=Y.nv+ops.size*Qz /\
   Lex P T ops Y.nv Y.boxes.length E ops.toList 0 {Y with nv:=Y.nv+ops.size*Qz,boxes:=Y.boxes++List.replicate ops.size none,kn:=Y'.kn } Y' /\
   Rep w0 {m with env:=E } {Y with nv:=Y.nv+ops.size*Qz,boxes:=Y.boxes++List.replicate ops.size none,kn:=Y'.kn } a {w with drawn:=w.drawn+1 } /\
   MExt m Y.nv Y.al {m with env:=E } (Y.nv+ops.size*Qz) ({Y with boxes:=Y.boxes++List.replicate ops.size none }:St).al:=by
 have hr1:=hR.room ops.size;have hal:({Y with boxes:=Y.boxes++List.replicate ops.size none }:St).al=Y.al:=by
  funext id
  unfold St.al;by_cases hl:id<Y.boxes.length
  ·simp[Mm hl]
  ·rw[Mf (by omega),My (show Y.boxes.length<=id by omega)];by_cases h2:id-Y.boxes.length<ops.size
   ·simp[h2]
   ·rw[My (by simp;omega)]
 obtain⟨E,Y',e1,e2,e3,e4,e5,e6,e7⟩:=Zti (nv0:=Y.nv) (len0:=Y.boxes.length) hT (nv1:=Y.nv+ops.size*Qz) (goal:=goal) fuel ops.toList 0 {Y with nv:=Y.nv+ops.size*Qz,boxes:=Y.boxes++List.replicate ops.size none } (by simp) rfl (by simp)
  (fun k _ hk=>by
   simp only[M5,K1]at hk;show(Y.boxes++List.replicate ops.size none)[Y.boxes.length+k]?=_;rw[Mf (by omega)];simp[hk]) m a w (by simpa using hr1.Xbp (Y.nv+0*Qz) (by show Y.nv<=_;omega)) hh
 have hr2:=(hr1.names E (fun j hj=>e1 j (by simp;exact hj)) (Y.nv+ops.size*Qz) (by show Y.nv<=_;omega)).drew;have hx:MExt m Y.nv Y.al {m with env:=E } (Y.nv+ops.size*Qz) Y.al:=⟨fun j hj=>e1 j (by simpa using hj),fun _ _=>rfl,rfl,fun _ _=>rfl,by omega,fun _ h=>h⟩
 exact⟨E,Y',e3,e5,e4,e2,hr2.Xb2 e7,by rw[hal];exact hx⟩
theorem Zoi(hm:P.follows .mixedOrders=true)(hT:∀(g:Nat) X,T[g]?=some X->X.Xbm P w0){m:M}{Y:St}{a:Act}{w:World}{id fuel:Nat}{kk:St->Qq}{goal:Gl}{Q:Exit->Act->World->Prop}
  (hR:Rep w0 m Y a w) (hd:Qfm ops=true)
  (hh:(Qck P T ops Y.nv Y.boxes.length fuel ops.toList 0 {Y with nv:=Y.nv+ops.size*Qz,boxes:=Y.boxes++List.replicate ops.size none } kk).holds T goal m.env)
  (hK:∀m' a' w' Y',MExt m Y.nv Y.al m' Y'.nv Y'.al->Rep w0 m' Y' a' w'->Y'.lvl=Y.lvl->(kk Y').holds T goal m'.env->Q .normal a' w') (hall:∀Y' E,(kk Y').holds T goal E->Qgm T Y' ops=true):(Code.region id ops true).wp P Q a w:=by
 have hB:=hd;unfold Qfm at hB;simp only[Region.lexB,Oo]at hB;obtain⟨E,Y',e3,e5,e4,e2,hr2,hx⟩:=Qrb hT hR hh;have hcalm:=hall Y' E e3;refine wp_region_any hm (Qgn (len0:=Y.boxes.length) hT (nv1:=Y.nv+ops.size*Qz) (Nat.le_refl _) (Q:=fun s=>s=Y') (fun s m' a' w' h1 h2 h3 h4=>by
  subst h4;exact hK m' a' w' _ h2 h3 e5 (by rw[h1];exact e3)) _ _ _ _ _ _ rfl ?_ hr2 rfl ?_)
 ·exact hx
 ·have:=Qkz hT (nv1:=Y.nv+ops.size*Qz) (Nat.le_refl _) hcalm ops.toList 0 (Array.replicate ops.size false) _ (by simp) (by simpa using hB.2) (Qg9 _ _) ⟨_,_,_,rfl,hr2,rfl⟩ e2;simpa using this
theorem Qtq{k:Nat}(hk:ops.size=k+1)(hb:backOnly ops=true){listed:Array Bool}(hs:listed.size=ops.size):∀(N i:Nat),i<=N->i<=k->listed.getD i true=false->Region.ready .any ops listed≠[]:=by
 intro N
 induction N with
 |zero =>
  intro i hi hik hl hr;have hio:∃o,ops[i]?=some o:=⟨ops[i]'(by omega),M1 _⟩
  obtain⟨o,ho⟩:=hio;have hm:i∈Region.ready .any ops listed:=mem_ready.2 ⟨hl,o,ho,fun e he hbe=>by
   unfold backOnly at hb;simp only[Ms]at hb;have:=hb (o,i) (by rw[Kr];simpa using ho);have:=Oae.1 this e he;simp only[hbe,Oag,Bool.false_or,decide_eq_true_eq]at this;omega⟩
  rw[hr]at hm;cases hm
 |succ N ih =>
  intro i hi hik hl hr;have hio:∃o,ops[i]?=some o:=⟨ops[i]'(by omega),M1 _⟩
  obtain⟨o,ho⟩:=hio;have hm:i∈Region.ready .any ops listed:=mem_ready.2 ⟨hl,o,ho,fun e he hbe=>by
   have hb':=hb;unfold backOnly at hb';simp only[Ms]at hb';have:=hb' (o,i) (by rw[Kr];simpa using ho);have:=Oae.1 this e he;simp only[hbe,Oag,Bool.false_or,decide_eq_true_eq]at this;cases hle:listed.getD e.on false with
   |true=>rfl
   |false =>
    exfalso;have hlt:e.on<listed.size:=by omega
    have:listed.getD e.on true=false:=by
     simp only[Mj,M1 hlt,Kh]at hle ⊢;exact hle
    exact ih e.on (by omega) (by omega) this hr⟩
  rw[hr]at hm;cases hm
theorem Qdi{k:Nat}{o:Oper}{listed:Array Bool}(ho:ops[k]?=some o)(hc:Closed ops listed)(hi:k∈Region.ready .any ops listed)(hord:∀j,j<k->∃i oi,j<i/\i<=k/\ops[i]?=some oi/\ordered j oi=true):∀(N j:Nat),k<=j+N->j<k->listed.getD j false=true:=by
 intro N
 induction N with
 |zero=>intro j h1 h2;omega
 |succ N ih =>
  intro j h1 h2;obtain⟨i,oi,g1,g2,g3,g4⟩:=hord j h2;unfold ordered at g4;obtain⟨e,he,hbe⟩:=K6.1 g4;simp only[Oo,beq_iff_eq]at hbe;rw[<- hbe.2];by_cases hik:i=k
  ·subst hik;obtain⟨_,o',ho',hall⟩:=mem_ready.1 hi;rw[g3]at ho';cases ho';exact hall e he hbe.1
  ·exact hc i oi (ih i (by omega) (by omega)) g3 e he hbe.1
theorem Qdv:∀(l:List Oper) (s j:Nat),(Vy l s)[j]?=if j<s then l[j]? else(l[j]?).map Qc8
 |[],s,j=>by simp[Vy]
 |o::r,0,j=>by
  cases j with
  |zero=>simp[Vy]
  |succ j =>
   have:=Qdv r 0 j;simp only[Nat.not_lt_zero,if_false]at this ⊢;simpa[Vy]using this
 |o::r,s+1,j=>by
  cases j with
  |zero=>simp[Vy]
  |succ j =>
   have:=Qdv r s j;simp only[Nat.succ_lt_succ_iff];simpa[Vy]using this
theorem Qb9(ops:Array Oper)(s j:Nat):(Wn ops s)[j]?=if j<s then ops[j]? else(ops[j]?).map Qc8:=by
 unfold Wn;rw[List.getElem?_toArray,Qdv];simp
theorem Qdu:∀(l:List Oper) (s:Nat),(Vy l s).length=l.length
 |[],s=>by simp[Vy]
 |o::r,0=>by simp[Vy,Qdu r 0]
 |o::r,s+1=>by simp[Vy,Qdu r s]
theorem Qwp(ops:Array Oper)(s:Nat):(Wn ops s).size=ops.size:=by simp[Wn,Qdu]
theorem Zdv(s j:Nat):((Wn ops s)[j]?).bind (·.dst)=(ops[j]?).bind (·.dst):=by
 rw[Qb9];split
 ·rfl
 ·cases ops[j]? <;> rfl
theorem J2{s:Nat}{listed:Array Bool}{i:Nat}:i∈Region.ready .any (Wn ops s) listed↔i∈Region.ready .any ops listed:=by
 rw[mem_ready,mem_ready,Qb9];split
 ·rfl
 ·cases ho:ops[i]? with
  |none=>simp
  |some o=>simp[Qc8]
theorem Qo9{s:Nat}(Y:St)(x:Oper):Zs (Wn ops s) Y x=Zs ops Y x:=by
 rw[Y5,Y5];split
 ·rfl
 ·rw[Zdv]
theorem Qgt:∀(l:List Oper) (i s:Nat),Qey T l i=some s->s<i+l.length
 |[],i,s,h=>by cases h
 |o::r,i,s,h=>by
  simp only[Qey]at h;split at h
  ·cases h;simp
  ·have:=Qgt r (i+1) s h;simp only[Ov];omega
structure TailOk (ops:Array Oper) (s:Nat):Prop where
 lt:s<ops.size
 guard:∀i o,s<=i->ops[i]?=some o->o.guard=none
 ord:∀i,s<=i->i<ops.size->∀j,j<i->∃x ox,j<x/\x<=i/\ops[x]?=some ox/\ordered j ox=true
 back:backOnly ops=true
theorem Qhf{s:Nat}(hlt:s<ops.size)(hc:Qjg ops s=true):TailOk ops s:=by
 simp only[Qjg,Oo,Ms,M3,Hy,decide_eq_true_eq]at hc;refine⟨hlt,fun i o hi ho=>?_,fun i hi hil j hj=>?_,hc.2⟩
 ·rcases hc.1 i (L9.1 ho).1 with h|h
  ·omega
  ·have:=h.2;rw[ho]at this;simpa using this
 ·rcases hc.1 i hil with h|h
  ·omega
  ·have h1:=h.1;simp only[Qm4,Ms,M3]at h1;obtain⟨x,hx,hc2⟩:=List.any_eq_true.1 (h1 j hj);simp only[Oo,decide_eq_true_eq]at hc2;cases hox:ops[x]? with
   |none=>rw[hox]at hc2;simp at hc2
   |some ox=>rw[hox]at hc2;exact⟨x,ox,hc2.1,by have:=M3.1 hx;omega,hox,by simpa using hc2.2⟩
theorem Qe8:∀(l:List Oper) (i s:Nat),Qb8 T ops l i=some s->s<i+l.length/\Qjg ops s=true
 |[],i,s,h=>by cases h
 |o::r,i,s,h=>by
  simp only[Qb8]at h;split at h
  ·rename_i hc;rw[Oo]at hc;cases h;exact⟨by simp,hc.2⟩
  ·have:=Qe8 r (i+1) s h;simp only[Ov];exact⟨by omega,this.2⟩
theorem Qq3{q:List Oper×Array Oper}(h:Qp1 T ops=some q):∃s,q=(ops.toList.drop s,Wn ops s)/\TailOk ops s:=by
 unfold Qp1 at h;split at h
 ·rename_i s hs;split at h
  ·rename_i hc;cases h;have hlt:=Qgt _ _ _ hs;simp only[M5,K1]at hlt;exact⟨s,rfl,Qhf hlt hc⟩
  ·split at h
   ·rename_i s' hs';cases h;have hw:=Qe8 _ _ _ hs';simp only[M5,K1]at hw;exact⟨s',rfl,Qhf hw.1 hw.2⟩
   ·cases h
 ·cases h
noncomputable def Qs6(Y:St)(l:List Oper):St:=l.foldl (fun Y o=>Y.put o.dst (.vl (.one (.bool (.lit 0))))) Y
theorem Qq1{s i:Nat}(ht:TailOk ops s){listed:Array Bool}(hi:s<=i)(hs:listed.size=ops.size)(h1:∀j,j<i->listed.getD j false=true)(h2:∀j,i<=j->j<ops.size->listed.getD j true=false)(hcl:Closed ops listed)(j:Nat) :
  j∈Region.ready .any ops listed↔(j=i/\i<ops.size):=by
 constructor
 ·intro hj;obtain⟨g1,oj,g2,g3⟩:=mem_ready.1 hj;have hjs:=(L9.1 g2).1;have hij:i<=j:=by
   by_cases hc:j<i
   ·have:=h1 j hc;have hjl:j<listed.size:=by omega
    simp only[Mj,M1 hjl,Kh]at g1 this;rw[g1]at this;cases this
   ·omega
  by_cases hji:j=i
  ·exact⟨hji,by omega⟩
  ·exfalso;have hl:=Qdi g2 hcl hj (ht.ord j (by omega) hjs) j i (by omega) (by omega);have hl2:=h2 i (Nat.le_refl _) (by omega);have hil:i<listed.size:=by omega
   simp only[Mj,M1 hil,Kh]at hl hl2;rw[hl2]at hl;cases hl
 ·rintro ⟨rfl,hlt⟩
  refine mem_ready.2 ⟨h2 j (Nat.le_refl _) hlt,ops[j],M1 hlt,fun e he hbe=>h1 _ ?_⟩;have hb:=ht.back;unfold backOnly at hb;simp only[Ms]at hb;have:=hb (ops[j],j) (by rw[Kr];simp[hlt]);have:=Oae.1 this e he;simpa only[hbe,Oag,Bool.false_or,decide_eq_true_eq]using this
theorem Qv6{s:Nat}(ht:TailOk ops s){Q:St->Prop}{Q':Exit->Act->World->Prop}:∀(fuel i:Nat) (listed:Array Bool) (Y:St),s<=i->i<=ops.size->listed.size=ops.size->(∀j,j<i->listed.getD j false=true)->(∀j,i<=j->j<ops.size->listed.getD j true=false)->Closed ops listed ->
  Qp6 P T (Wn ops s) nv0 len0 E Q fuel listed Y->Q (Qs6 Y (ops.toList.drop i))/\∀a w,wpList P ops Q' (ops.toList.drop i) a w->wpAny P .any ops Q' fuel listed a w:=by
 intro fuel
 induction fuel with
 |zero =>
  intro i listed Y hi his hs h1 h2 hcl h;have hr:=Qq1 ht hi hs h1 h2 hcl;by_cases hlt:i<ops.size
  ·exfalso;have:=J2 (s:=s).2 ((hr i).2 ⟨rfl,hlt⟩);rw[h.1]at this;cases this
  ·have hdrop:ops.toList.drop i=[]:=by rw[List.drop_eq_nil_iff];simp;omega
   rw[hdrop];refine⟨h.2,fun a w hw=>⟨?_,hw⟩⟩;apply Hf.2;intro j hj;exact hlt ((hr j).1 hj).2
 |succ fuel ih =>
  intro i listed Y hi his hs h1 h2 hcl h;have hr:=Qq1 ht hi hs h1 h2 hcl;by_cases hlt:i<ops.size
  ·have hmem:=(hr i).2 ⟨rfl,hlt⟩;obtain⟨Y',k1,k2⟩:=h.2 i (J2.2 hmem);have ho:ops[i]?=some ops[i]:=M1 hlt;have hg:=ht.guard i _ hi ho;have hdrop:ops.toList.drop i=ops[i]::ops.toList.drop (i+1):=by
    rw[List.drop_eq_getElem_cons (by simpa using hlt)];rfl
   have hσ':Y'=Y.put ops[i].dst (.vl (.one (.bool (.lit 0)))):=by
    unfold Ve at k1;rw[Qb9,if_neg (by omega),ho]at k1;simp only[L4]at k1;have hgy:Zs (Wn ops s) Y (Qc8 ops[i])=.yes:=by rw[Y5];simp only[Qc8,hg]
    rcases k1 with⟨k1,_⟩|⟨_,p,kp,_,_,_,hs'⟩
    ·rw[hgy]at k1;cases k1
    ·have:p={val:=.vl (.one (.bool (.lit 0))) }:=by
      simp only[Qc8,Qy,St.val,vOf,cOf,L4]at kp;cases kp;rfl
     rw[hs',this];rfl
   have hset:∀j,(listed.setIfInBounds i true).getD j false=true↔(j=i∨listed.getD j false=true):=fun j=>by
    by_cases hij:i=j
    ·subst hij;simp[Mj,hs,hlt]
    ·simp only[Mj,K4];rw[if_neg hij];exact⟨.inr,fun h=>h.resolve_left (fun e=>hij e.symm)⟩
   obtain⟨q1,q2⟩:=ih (i+1) _ Y' (by omega) (by omega) (by simpa using hs) (fun j hj=>(hset j).2 (by
    by_cases hji:j=i
    ·exact .inl hji
    ·exact .inr (h1 j (by omega)))) (fun j hj hjs=>by
    have:=h2 j (by omega) hjs;simp only[Mj,K4]at this ⊢;rw[if_neg (by omega)];exact this) (hcl.set hmem) k2
   rw[hdrop];refine⟨?_,fun a w hw=>⟨fun h0=>?_,fun j hj=>?_⟩⟩
   ·show Q (Qs6 (Y.put ops[i].dst _) (ops.toList.drop (i+1)));rw[hσ']at q1;exact q1
   ·rw[h0]at hmem;cases hmem
   ·obtain⟨rfl,_⟩:=(hr j).1 hj;unfold wpOp;rw[ho];simp only;have hw':(if Region.wanted ops[j] (yielded ops a.tmps)then ops[j].wp P a w (wpList P ops Q' (ops.toList.drop (j+1))) Q'∨(ops[j].asks P a w/\LetsOut Q')else wpList P ops Q' (ops.toList.drop (j+1)) (a.put ops[j].dst undef) w):=hw;split
    ·rename_i hwa;rw[if_pos hwa]at hw';rcases hw' with hw'|hw'
     ·exact .inl (Oper.wp_mono (fun a w=>q2 a w) hw')
     ·exact .inr hw'
    ·rename_i hwa;rw[if_neg hwa]at hw';exact q2 _ _ hw'
  ·have hdrop:ops.toList.drop i=[]:=by rw[List.drop_eq_nil_iff];simp;omega
   have hempty:Region.ready .any ops listed=[]:=by
    apply Hf.2;intro j hj;exact hlt ((hr j).1 hj).2
   rw[hdrop];refine⟨h.1 ?_,fun a w hw=>⟨fun _=>hw,fun j hj=>by rw[hempty]at hj;cases hj⟩⟩;apply Hf.2;intro j hj;have:=J2.1 hj;rw[hempty]at this;cases this
theorem Qog(hT:∀(g:Nat) X,T[g]?=some X->X.Xbm P w0){nv1:Nat}(hnv:nv0+ops.size*Qz<=nv1){s:Nat}(ht:TailOk ops s)
  {Q:St->Prop} {Q':Exit->Act->World->Prop} {m0:M} {nv:Nat} {al:Nat->Bool}
  (hQ:∀σ0 m' a' w',m'.env=E->MExt m0 nv al m' σ0.nv σ0.al->Rep w0 m' σ0 a' w'->σ0.nv=nv1->Q (Qs6 σ0 (ops.toList.drop s))->wpList P ops Q' (ops.toList.drop s) a' w'):∀(fuel:Nat) (listed:Array Bool) (Y:St) (m:M) (a:Act) (w:World),m.env=E->MExt m0 nv al m Y.nv Y.al->Rep w0 m Y a w->Y.nv=nv1 ->
  listed.size=ops.size->Closed ops listed->(∀j,s<=j->j<ops.size->listed.getD j true=false)->Qp6 P T (Wn ops s) nv0 len0 E Q fuel listed Y->wpAny P .any ops Q' fuel listed a w:=by
 intro fuel
 induction fuel with
 |zero =>
  intro listed Y m a w h1 h2 h3 h4 hs hcl hl h;exfalso;have hlt:=ht.lt;have hk:ops.size=(ops.size-1)+1:=by omega
  refine Qtq hk ht.back hs s s (Nat.le_refl _) (by omega) (hl s (Nat.le_refl _) hlt) ?_;apply Hf.2;intro i hi;have hi':=(J2 (s:=s)).2 hi;rw[h.1]at hi';cases hi'
 |succ fuel ih =>
  intro listed Y m a w h1 h2 h3 h4 hs hcl hl h;have hlt:=ht.lt;by_cases hsr:s∈Region.ready .any ops listed
  ·have ho:ops[s]?=some ops[s]:=M1 hlt;have hall:∀j,j<s->listed.getD j false=true:=fun j hj=>Qdi ho hcl hsr (ht.ord s (Nat.le_refl _) hlt) s j (by omega) hj
   obtain⟨q1,q2⟩:=Qv6 ht (Q:=Q) (Q':=Q') (fuel+1) s listed Y (Nat.le_refl _) (by omega) hs hall hl hcl h;exact q2 _ _ (hQ Y m a w h1 h2 h3 h4 q1)
  ·have hk:ops.size=(ops.size-1)+1:=by omega
   refine⟨fun h0=>(Qtq hk ht.back hs s s (Nat.le_refl _) (by omega) (hl s (Nat.le_refl _) hlt) h0).elim,fun i hi=>?_⟩;obtain⟨Y',k1,k2⟩:=h.2 i (J2.2 hi);obtain⟨oi,hoi⟩:=Qi0 hi;have his:i<s:=by
    by_cases hc:i<s
    ·exact hc
    ·exfalso;have hil:=(L9.1 hoi).1;by_cases hei:i=s
     ·subst hei;exact hsr hi
     ·have hl1:=Qdi hoi hcl hi (ht.ord i (by omega) hil) i s (by omega) (by omega);have hl2:=hl s (Nat.le_refl _) hlt;have hsl:s<listed.size:=by omega
      simp only[Mj,M1 hsl,Kh]at hl1 hl2;rw[hl2]at hl1;cases hl1
   have hgi:(Wn ops s)[i]?=some oi:=by rw[Qb9,if_pos his];exact hoi
   have k1':Ve P T ops nv0 len0 E i Y Y':=by
    unfold Ve at k1 ⊢;rw[hgi]at k1;rw[hoi];simp only[Qo9]at k1 ⊢;exact k1
   have:=Qf9 hT hoi h3 h1 (by omega) k1' (K:=wpAny P .any ops Q' fuel (listed.setIfInBounds i true)) (Q:=Q') fun m' a' w' e1 e2 e3 e4 =>
    ih _ Y' m' a' w' e1 (h2.trans e2) e3 (e4.trans h4) (by simpa using hs) (hcl.set hi) (fun j hj hjs=>by
     have:=hl j hj hjs;simp only[Mj,K4]at this ⊢;rw[if_neg (by omega)];exact this) k2
   unfold wpOp;rw[hoi];simp only;split
   ·rename_i hw;rw[if_pos hw]at this;exact .inl this
   ·rename_i hw;rw[if_neg hw]at this;exact this
theorem Qm1(t:Nat)(s:SV):∀(l:List Nat) (Y:St),t∈l->Ye {Y with tmps:=Y.tmps.set t s } l=Ye Y l
 |[],Y,h=>by cases h
 |u::r,Y,h=>by
  simp only[Ye];by_cases htu:t=u
  ·subst htu;simp
  ·have hr:t∈r:=by
    rcases Mh.1 h with h|h
    ·exact absurd h htu
    ·exact h
   have:=Qm1 t s r {Y with tmps:=Y.tmps.set u topS } hr;rw[<- this];simp only;rw[List.set_comm _ _ (fun e=>htu e)]
theorem Za7(Y:St)(s:SV)(l:List Nat):∀(d:Option Nat),(∀t,d=some t->t∈l)->Ye (Y.put d s) l=Ye Y l:=by
 intro d;cases d with
 |none=>intro _;simp[St.Xbd]
 |some t =>
  intro h;simp only[St.Xbd];exact Qm1 t s l Y (h t rfl)
theorem Qkq(L:List Nat):∀(l:List Oper) (Y:St),(∀o∈l,∀t,o.dst=some t->t∈L)->Ye (Qs6 Y l) L=Ye Y L
 |[],Y,_=>rfl
 |o::l,Y,h=>by
  show Ye (Qs6 (Y.put o.dst _) l) L=_;rw[Qkq L l _ fun o' ho'=>h o' (Mq _ ho'),Za7 _ _ _ _ (h o (Mr ..))]
theorem Qmx:∀(l:List Oper) (Y:St),(Qs6 Y l).nv=Y.nv/\(Qs6 Y l).lvl=Y.lvl
 |[],Y=>⟨rfl,rfl⟩
 |o::l,Y=>by
  obtain⟨h1,h2⟩:=Qmx l (Y.put o.dst (.vl (.one (.bool (.lit 0)))));refine⟨h1.trans ?_,h2.trans ?_⟩ <;> cases o.dst <;> rfl
theorem Zby(hm:P.follows .mixedOrders=true)(hT:∀(g:Nat) X,T[g]?=some X->X.Xbm P w0){m:M}{Y:St}{a:Act}{w:World}{id fuel:Nat}{kk:St->Qq}{goal:Gl}{Q:Exit->Act->World->Prop}{q:List Oper×Array Oper}
  (hR:Rep w0 m Y a w) (htl:Qp1 T ops=some q) (hd:Qfm q.2=true)
  (hh:(Qck P T q.2 Y.nv Y.boxes.length fuel q.2.toList 0 {Y with nv:=Y.nv+q.2.size*Qz,boxes:=Y.boxes++List.replicate q.2.size none } kk).holds T goal m.env)
  (hK:∀m' a' w' σ0 Y',MExt m Y.nv Y.al m' σ0.nv σ0.al->Rep w0 m' σ0 a' w'->Qs6 σ0 q.1=Y'->σ0.nv=Y'.nv->Y'.lvl=Y.lvl->(kk Y').holds T goal m'.env->wpList P ops Q q.1 a' w') (hall:∀Y' E,(kk Y').holds T goal E->Qgm T Y' q.2=true):(Code.region id ops true).wp P Q a w:=by
 obtain⟨s,rfl,ht⟩:=Qq3 htl;simp only at hd hK hh hall;have hsz:(Wn ops s).size=ops.size:=Qwp ops s;have hB:=hd;unfold Qfm at hB;simp only[Region.lexB,Oo]at hB;obtain⟨E,Y',e3,e5,hnv',e2,hr2,hx⟩:=Qrb hT hR hh;have hcalm:=hall Y' E e3;refine wp_region_any hm (Qog (len0:=Y.boxes.length) hT (nv0:=Y.nv) (nv1:=Y.nv+(Wn ops s).size*Qz) (by rw[hsz];exact Nat.le_refl _) ht (Q:=fun s=>s=Y') (m0:=m) (nv:=Y.nv) (al:=Y.al) (fun σ0 m' a' w' h1 h2 h3 h5 h4=>by
  exact hK m' a' w' σ0 Y' h2 h3 h4 (h5.trans hnv'.symm) e5 (by rw[h1];exact e3)) _ _ {Y with boxes:=Y.boxes++List.replicate (Wn ops s).size none,nv:=Y.nv+(Wn ops s).size*Qz,kn:=Y'.kn } _ _ _ rfl ?_ hr2 rfl (by simp) (fun i oi hi=>by simp[Mj,Array.getElem?_replicate]at hi;split at hi <;> simp at hi) (fun j _ hj=>by rw[Mj,M1 (by simp;omega)];simp) ?_)
 ·exact hx
 ·have:=Qkz hT (nv1:=Y.nv+(Wn ops s).size*Qz) (Nat.le_refl _) hcalm (Wn ops s).toList 0 (Array.replicate (Wn ops s).size false) _ (fun j=>by rw[Array.getElem?_toList,M5]) (by rw[K1];exact hB.2) (Qg9 _ _) ⟨_,_,_,rfl,hr2,rfl⟩ e2;rw[K1,hsz]at this;rw[hsz];exact this
end
section
variable {P:Program}{T:List K}{w0:World}{m:M}{Y:St}{a:Act}{w:World}
theorem Rep.Xbe(h:Rep w0 m Y a w){v:Nat}{b:Bool}(hv:v<Y.nv)(hb:decide (m.env v≠0)=b):Rep w0 m (Y.Xbe v b) a w :=
 ⟨h.defers,h.size,h.tmp,h.below,h.own,h.ro,h.inj,fun p hp=>by
  rcases Mh.1 hp with rfl|hp
  ·exact⟨hv,hb⟩
  ·exact h.kn p hp,h.gl,h.rows,h.rbox,h.rsep,h.base⟩
theorem Qvo{x:A}{n:Nat}(h:Xa1 Y x=.need n):x=.v n:=by
 cases x with
 |lit k=>simp only[Xa1]at h;split at h <;> cases h
 |v k=>simp only[Xa1]at h;split at h <;> cases h;rfl
 |m a b=>cases h
 |elt k a b=>cases h
theorem Zca(h:Rep w0 m Y a w){r:ResultVar}{v:V}(hr:Qjm P Y r=some v):∃u,((match r with|.tmp t=>pure (a.tmps.getD t undef)|.cell ad t=>do loadVar t (<- asAddr (a.tmps.getD ad undef))):Sem Value).run P w=.ok u w/\v.rel m Y.nv Y.al u:=by
 cases r with
 |tmp t =>
  simp only[Qjm]at hr;have:=h.get t;split at hr
  ·rename_i v' hv;cases hr;rw[hv]at this;exact⟨_,rfl,this⟩
  ·cases hr
 |cell t ty =>
  simp only[Qjm]at hr;have:=h.get t;split at hr
  ·rename_i id off hv;rw[hv]at this;obtain⟨h1,h2⟩:C.rel m Y.nv Y.al (.ptr id off) _:=this;split at hr
   ·rename_i b d n hb hd hn;split at hr
    ·rename_i ha;split at hr
     ·cases hr
     ·rename_i hl;cases hr;obtain⟨vs,hvl,hr,hv⟩:=h.reads hb off n (by omega);refine⟨.agg vs.toArray,?_,vs,rfl,hr⟩;simp only[h2];simp[asAddr,Wy hd ha (by rw[hn,hvl]) hv]
    ·rename_i ha;split at hr
     ·rename_i c hc;cases hr;obtain⟨v,hv,hr⟩:=h.read hb _ _ hc;refine⟨v,?_,hr⟩;simp only[h2];simp[asAddr,Yq hd (by simpa using ha) hv]
     ·cases hr
   ·cases hr
  ·cases hr
theorem Zhl(h:Rep w0 m Y a w):∀(l:List ResultVar) (vs:List V),Zh (Qjm P Y) l=some vs->∃us:List Value,
  ((l.mapM fun(r:ResultVar)=>((match r with|.tmp t=>pure (a.tmps.getD t undef)|.cell ad t=>do loadVar t (<- asAddr (a.tmps.getD ad undef))):Sem Value)):Sem (List Value)).run P w=.ok us w/\Zi m Y.nv Y.al vs us:=by
 intro l
 induction l with
 |nil=>intro vs hvs;simp[Zh]at hvs;subst hvs;exact⟨[],rfl,trivial⟩
 |cons r l ih =>
  intro vs hvs;unfold Zh at hvs;split at hvs
  ·cases hvs
  ·rename_i y hy;split at hvs
   ·cases hvs
   ·rename_i ys hys;cases hvs;obtain⟨u,h1,h2⟩:=Zca h hy;obtain⟨us,h3,h4⟩:=ih ys hys;refine⟨u::us,?_,h2,h4⟩;rw[List.mapM_cons];simp only[Sem.run_bind,h1,Result.andThen_ok,h3,Sem.run_pure]
theorem Zj0(h:Rep w0 m Y a w){fn:Func}{vs:List V}(hr:Qud P Y fn=some vs):∃us:List Value,(results fn a.tmps).run P w=.ok (Qho us) w/\Zi m Y.nv Y.al vs us:=by
 obtain⟨us,h1,h2⟩:=Zhl h _ _ hr;refine⟨us,?_,h2⟩;unfold results;rw[Array.mapM_eq_mapM_toList];rw[bind_map_left,Sem.run_bind];refine(congrArg (fun r=>Result.andThen r _) h1).trans ?_;rw[Result.andThen_ok,Sem.run_pure];cases us with
 |nil=>rfl
 |cons u us=>cases us with
  |nil=>rfl
  |cons u' us=>simp[Qho]
theorem Qn0(h:Rep w0 m Y a w){args:List V}{us:List Value}(hr:Zi m Y.nv Y.al args us)(n:Nat) :
  Rep w0 m {Y with tmps:=args.map SV.vl++List.replicate (n-args.length) Y3 } {tmps:=us.toArray++Array.replicate (n-us.toArray.size) undef,defers:=[] } w:=by
 have hl:=hr.length;refine⟨rfl,by simp[hl],fun i s hi=>?_,h.below,h.own,h.ro,h.inj,h.kn,h.gl,h.rows,h.rbox,h.rsep,h.base⟩;have hi:(args.map SV.vl++List.replicate (n-args.length) Y3)[i]?=some s:=hi;show ∃v,(us.toArray++Array.replicate (n-us.toArray.size) undef)[i]?=some v/\s.rel m Y.nv Y.al v;by_cases hlt:i<args.length
 ·rw[Mm (by simpa using hlt),M2]at hi;cases hai:args[i]? with
  |none=>rw[hai]at hi;cases hi
  |some v =>
   rw[hai]at hi;cases hi;obtain⟨u,hu,hv⟩:=hr.get i v hai;exact⟨u,by rw[Array.getElem?_append_left (by simp;omega)];simpa using hu,hv⟩
 ·rw[Mf (by simp;omega),List.getElem?_replicate]at hi;split at hi
  ·rename_i hlt2;cases hi;refine⟨undef,?_,[],rfl,trivial⟩;rw[Array.getElem?_append_right (by simp;omega),Array.getElem?_replicate,if_pos];simp only[List.size_toArray];simp only[O8]at hlt2;rw[<- hl];exact hlt2
  ·cases hi
theorem Rep.back{Y':St}{m':M}{a':Act}{w':World}(h:Rep w0 m Y a w)(h':Rep w0 m' Y' a' w')(hx:MExt m Y.nv Y.al m' Y'.nv Y'.al):Rep w0 m' {Y' with tmps:=Y.tmps } a w' :=
 ⟨h.defers,h.size,fun i s hi=>by obtain⟨v,hv,hs⟩:=h.tmp i s hi;exact⟨v,hv,SV.Xaz hx hs⟩,h'.below,h'.own,h'.ro,h'.inj,h'.kn,h'.gl,h'.rows,h'.rbox,h'.rsep,h'.base⟩
theorem Zb4{o:Oper}{nn nid f:Nat}{args:List V}(h:Rep w0 m Y a w)(hp:Qy P T Y nn nid o.op=.call f args) :
  ∃us:List Value,Zi m Y.nv Y.al args us/\(execOp a.eval o).run P w=(callFunc f us.toArray).run P w:=by
 cases ho:o.op with
 |call c =>
  rw[ho]at hp;simp only[Qy]at hp;split at hp
  ·cases hp
  ·rename_i args' hargs;have hvr:=Qe2 h _ _ hargs;split at hp
   ·repeat' split at hp
    all_goals (first|(cases hp;done)|(unfold Vj at hp;cases hp;done))
   ·repeat' split at hp
    all_goals (first|(cases hp;done))
   ·repeat' split at hp
    all_goals (first|(cases hp;done))
   ·repeat' split at hp
    all_goals (first|(cases hp;done))
   ·split at hp
    ·cases hp
    ·cases hp
   ·cases hp
   ·cases hp
   ·rename_i x hcal;split at hp
    ·rename_i f' caps hx;have hfx:=h.cell hx;split at hp
     ·repeat' split at hp
      all_goals (cases hp;done)
     ·simp only[Pl.call.injEq]at hp;obtain⟨rfl,rfl⟩:=hp;refine⟨c.args.toList.map a.eval++caps.map fun p=>Value.pointer (some (m.at p.1 p.2)),?_,?_⟩
      ·exact hvr.append (Bn hfx.1)
      ·rw[Qco ho hcal hfx.2];congr 2;apply Array.ext';simp
    ·cases hp
 |binOp op t x y yt =>
  rw[ho]at hp;simp only[Qy]at hp;split at hp
  ·split at hp
   ·cases hp
   rename_i hnone;clear hnone;unfold Jm at hp;split at hp
   ·simp only[U0,Bj]at hp;repeat' split at hp
    all_goals (cases hp;done)
   all_goals
    try simp only[Bj,Vj]at hp
    repeat' split at hp
    all_goals (cases hp;done)
  ·cases hp
 |_ =>
  rw[ho]at hp;simp only[Qy,Vj,Uj,Bj,Ji]at hp;repeat' split at hp
  all_goals (cases hp;done)
theorem Qej{f:FuncId}{fn:Func}{args:Array Value}(hf:P.funcs[f]?=some fn)(hn:(fn.name == "runtime.NumGoroutine")=false){c:Code}(hb:fn.body=some c):(callFunc f args).run P w=.ok (.enter f args) w:=by
 have hn':¬fn.name = "runtime.NumGoroutine":=by simpa using hn
 simp[callFunc,hf,hn',hb]
end
theorem Uy{a b:A}(h:aEq a b=true):a=b:=by
 cases a <;> cases b <;> simp[aEq]at h
 ·rw[h]
 ·rw[h]
 ·rw[h.1,h.2]
 ·rw[h.1.1,h.1.2,h.2]
theorem Qy7{a b:C}(h:Znx a b=true):a=b:=by
 cases a <;> cases b <;> simp only[Znx,Oo,beq_iff_eq,K5]at h <;> first|rfl|skip
 ·obtain⟨h1,h2⟩:=h;first|rw[Qau h1,Uy h2]|rw[h1,Uy h2]
 ·rw[Uy h]
 ·rw[h.1,h.2]
 ·rw[h.1.1.1,h.1.1.2,h.1.2,h.2]
 ·rw[h.1,h.2]
 ·rw[h]
 ·rw[h.1.1.1,h.1.1.2,Uy h.1.2,h.2]
 ·rw[h]
 ·rw[h.1.1,Uy h.1.2,Zx h.2]
 ·rw[h.1.1.1,Uy h.1.1.2,Uy h.1.2,Zx h.2]
 ·rw[Uy h]
 ·rw[h.1.1.1,h.1.1.2,Uy h.1.2,h.2]
 ·rw[Uy h]
 ·rw[Uy h]
theorem Qlg:∀ {a b:List C},Qrk a b=true->a=b
 |[],[],_=>rfl
 |a::as,b::bs,h=>by
  simp only[Qrk,Oo]at h;rw[Qy7 h.1,Qlg h.2]
theorem Qyu{a b:V}(h:Zl0 a b=true):a=b:=by
 cases a <;> cases b <;> simp only[Zl0,K5]at h
 ·rw[Qy7 h]
 ·rw[Qlg h]
theorem Qs4:∀ {a b:List V},Qzx a b=true->a=b
 |[],[],_=>rfl
 |a::as,b::bs,h=>by
  simp only[Qzx,Oo]at h;rw[Qyu h.1,Qs4 h.2]
theorem Qyo{a b:SV}(h:Zne a b=true):a=b:=by
 cases a <;> cases b <;> simp only[Zne,K5]at h
 ·rw[Qyu h]
 ·rw[Qs4 h]
theorem Qm0:∀ {as bs:List SV},Qpj as bs=true->as.length=bs.length/\∀(i:Nat) s,as[i]?=some s->s=topS∨bs[i]?=some s
 |[],[],_=>⟨rfl,by simp⟩
 |a::as,b::bs,h=>by
  simp only[Qpj,Oo,Hy]at h;obtain⟨h1,h2⟩:=Qm0 h.2;refine⟨by simp[h1],fun i s hi=>?_⟩;cases i with
  |zero =>
   simp at hi;subst hi;rcases h.1 with h3|h3
   ·left
    split at h3
    ·rfl
    ·cases h3
   ·right;rw[Qyo h3];rfl
  |succ i=>simpa using h2 i s (by simpa using hi)
theorem Zg8{a b:Option Row}(h:Zil a b=true):a=b:=by
 cases a with
 |none=>cases b with
  |none=>rfl
  |some r=>cases h
 |some q=>cases b with
  |none=>cases h
  |some r =>
   simp only[Zil,Zim,Oo,beq_iff_eq]at h;obtain⟨⟨⟨⟨⟨h1,h2⟩,h3⟩,h4⟩,h5⟩,h6⟩:=h;cases q;cases r;simp only at h1 h2 h3 h4 h5 h6;rw[Qwv h1,Qwv h2,Zx h3,h4,h5,h6]
theorem Zis{a b:Option Box}(h:Zeu a b=true){x:Box}(hx:a=some x):b=some x:=by
 subst hx;cases b with
 |none=>cases h
 |some y =>
  simp only[Zeu,Oo,beq_iff_eq]at h;obtain⟨⟨⟨⟨h1,h5⟩,h2⟩,h3⟩,h4⟩:=h;cases x;cases y;simp only at h1 h2 h3 h4 h5;rw[h1,h2,Qlg h3,Zg8 h4,h5]
theorem Qdn:∀ {as bs:List (Option Box)},Qb4 as bs=true->∀(i:Nat) b,as[i]?=some (some b)->bs[i]?=some (some b)
 |[],_,_=>by simp
 |a::as,b::bs,h=>by
  simp only[Qb4,Oo]at h;intro i x hi;cases i with
  |zero=>simp at hi;have:=Zis h.1 hi;simp[this]
  |succ i=>simpa using Qdn h.2 i x (by simpa using hi)
 |a::as,[],h=>by
  simp only[Qb4,Oo]at h;intro i x hi;cases i with
  |zero=>simp at hi;subst hi;cases h.1
  |succ i=>exact absurd (Qdn h.2 i x (by simpa using hi)) (by simp)
theorem Zli(Y:St)(cs:List C)(h:Hp):(setH Y cs h).al=Y.al:=by
 cases h with
 |slot t=>simp only[setH];split <;> rfl
 |view t =>
  simp only[setH];repeat' split
  all_goals rfl
 |box t =>
  simp only[setH];split
  ·rename_i id _;split
   ·rename_i b hb;have:=Zv Y id {b with cells:=cs }
    funext i
    rw[show({Y with boxes:=Y.boxes.set id (some {b with cells:=cs }) }:St)=Y.Xas id {b with cells:=cs } from rfl,this];split
    ·rename_i hi;rw[hi.1];rw[St.Xa2]at hb;split at hb
     ·rename_i b' hb';exact(Vp.2 ⟨b',hb'⟩).symm
     ·cases hb
    ·rfl
   ·rfl
  ·rfl
theorem Qpm:∀(hav:List (Hp×List L)) (nn:Nat) (Y:St),(J6 Y nn hav).al=Y.al
 |[],_,_=>rfl
 |(h,ls)::r,nn,Y=>by simp only[J6];rw[Qpm r,Zli]
theorem Qka:∀(hav:List (Hp×List L)) (nn:Nat) (Y:St),(J6 Y nn hav).tmps.length=Y.tmps.length
 |[],_,_=>rfl
 |(h,ls)::r,nn,Y=>by simp only[J6];rw[Qka r,Zem]
theorem Zb9(Y:St)(cs:List C)(h:Hp):(setH Y cs h).kn=Y.kn/\(setH Y cs h).gl=Y.gl:=by
 cases h <;> simp only[setH] <;> (repeat' split) <;> exact⟨rfl,rfl⟩
theorem Qcg:∀(hav:List (Hp×List L)) (nn:Nat) (Y:St),(J6 Y nn hav).kn=Y.kn/\(J6 Y nn hav).gl=Y.gl
 |[],_,_=>⟨rfl,rfl⟩
 |(h,ls)::r,nn,Y=>by simp only[J6];rw[(Qcg r _ _).1,(Qcg r _ _).2];exact Zb9 ..
theorem Qip{hav:List (Hp×List L)}(ha:Qei hav=true):∀q∈hav,∀t,q.1=.box t->∀q'∈hav,q'.1≠.slot t/\q'.1≠.view t:=by
 simp only[Qei,Ms,Oo]at ha;intro q hq t hqt q' hq';have:=(ha q hq).2;rw[hqt]at this;simp only[Hc,List.any_eq_false]at this;have:=this q' hq';refine⟨fun hs=>?_,fun hs=>?_⟩ <;> (rw[hs]at this;simp[Qlj]at this)
structure HeadOk (σh:St) (N:Nat) (hav:List (Hp×List L)):Prop where
 tmp:∀(i:Nat) s,σh.tmps[i]?=some s->s=topS∨(∃q∈hav,q.1=.slot i)∨((∃q∈hav,q.1=.view i)/\s.okV N σh.al)∨s.okN N σh.al
 box:∀(id:Nat) b,σh.boxes[id]?=some (some b)->(∃(j:Nat) (t:Nat) (ls:List L),hav[j]?=some (.box t,ls)/\σh.get t=.vl (.one (.ptr id 0)))∨∀c∈b.cells,C.okN N σh.al c
 row:∀(id:Nat) (b:Box) (r:Row),σh.boxes[id]?=some (some b)->b.row=some r->r.x.ok N/\r.x0.ok N
theorem C.Xbb{N N':Nat}{al:Nat->Bool}{c:C}(h:c.okN N al)(hn:N<=N'):c.okN N' al:=by
 cases c <;> simp only[C.okN]at h ⊢ <;> first|exact A.Xar h hn|exact h|exact⟨h.1,A.Xar h.2.1 hn,A.Xar h.2.2 hn⟩|exact⟨h.1,A.Xar h.2 hn⟩|exact⟨A.Xar h.1 hn,A.Xar h.2 hn⟩
theorem SV.Xbb{N N':Nat}{al:Nat->Bool}{s:SV}(h:s.okN N al)(hn:N<=N'):s.okN N' al:=by
 cases s with
 |vl v=>exact fun c hc=>C.Xbb (h c hc) hn
 |tup l=>exact fun v hv c hc=>C.Xbb (h v hv c hc) hn
section
variable {P:Program}{T:List K}{w0:World}{m:M}{Y:St}{a:Act}{w:World}
theorem Zmz(h:Rep w0 m Y a w){n0 nv' lv:Nat}{hav:List (Hp×List L)}(ha:Qei hav=true)(hn:Y.nv<=n0):HeadOk {J6 Y n0 hav with nv:=nv',lvl:=lv } n0 hav:=by
 have hal:({J6 Y n0 hav with nv:=nv',lvl:=lv }:St).al=Y.al:=Qpm hav n0 Y;refine⟨fun i s hi=>?_,fun id b hb=>?_,fun id b r hb hr=>?_⟩
 ·rcases Qfc hav n0 Y i s (Qqf ha) hi with⟨h1,_⟩|⟨j,ls,h1,_⟩|⟨j,h1,id,lo,hi',k,h2,h3⟩
  ·obtain⟨v,_,hr⟩:=h.tmp i s h1;exact .inr (.inr (.inr (by rw[hal];exact SV.Xbb (SV.Xa4 hr) hn)))
  ·exact .inr (.inl ⟨_,Mu h1,rfl⟩)
  ·obtain⟨v,_,hr⟩:=h.tmp i _ h2;obtain⟨b1,b2,b3,_⟩:=(show C.rel m Y.nv Y.al (.slv id lo hi' k) v from hr)
   exact .inr (.inr (.inl ⟨⟨_,Mu h1,rfl⟩,id,_,hi',k,h3,by rw[hal];exact b1,A.Xar b3.1 hn⟩))
 ·have hsl:=Qip ha;obtain⟨b0,h1,h2,h3,h4⟩:=Yn hav n0 Y id b hsl hb;rcases h4 with⟨rfl,_⟩|⟨j,t,ls,h5,h6,_⟩
  ·right
   rw[hal];cases ho:b.own with
   |true=>obtain⟨_,_,vs,_,hr⟩:=h.own id b h1 ho;exact fun c hc=>C.Xbb (Rels.okN hr c hc) hn
   |false =>
    intro c hc;rcases h.ro id b h1 ho with h0|⟨_,hr⟩
    ·rw[h0]at hc;cases hc
    obtain⟨j,hj⟩:=Ht.1 hc;obtain⟨v,_,hv⟩:=hr j c hj;exact C.Xbb (C.Xa4 hv) hn
  ·refine .inl ⟨j,t,ls,h5,?_⟩;show(J6 Y n0 hav).get t=_;rw[Qr8 hav n0 Y t (hsl _ (Mu h5) t rfl)];exact h6
 ·obtain⟨b0,g1,g2⟩:=Vs hav n0 Y id b hb;obtain⟨r1,r2,_⟩:=h.rows id b0 r g1 (g2.symm.trans hr);exact⟨A.Xar r1.1 hn,A.Xar r2.1 hn⟩
theorem Qfd:∀(l:List Nat) {Y:St},Rep w0 m Y a w->Rep w0 m (Ye Y l) a w
 |[],_,h=>h
 |t::r,Y,h=>by
  refine Qfd r ?_;refine⟨h.defers,by simp[h.size],fun i s hi=>?_,h.below,h.own,h.ro,h.inj,h.kn,h.gl,h.rows,h.rbox,h.rsep,h.base⟩;have hi:(Y.tmps.set t topS)[i]?=some s:=hi;by_cases hti:t=i
  ·subst hti;have hlt:t<Y.tmps.length:=by simpa using(Ow.1 hi).1
   rw[Ls hlt]at hi;cases hi;obtain⟨v,hv,_⟩:=h.tmp t _ (O1 hlt);exact⟨v,hv,trivial⟩
  ·rw[O7 hti]at hi;exact h.tmp i s hi
theorem Qde:∀(l:List Nat) (Y:St),(Ye Y l).nv=Y.nv/\(Ye Y l).boxes=Y.boxes/\(Ye Y l).kn=Y.kn/\(Ye Y l).gl=Y.gl/\(Ye Y l).lvl=Y.lvl/\(Ye Y l).tmps.length=Y.tmps.length
 |[],_=>⟨rfl,rfl,rfl,rfl,rfl,rfl⟩
 |t::r,Y=>by
  obtain⟨h1,h2,h3,h4,h5,h6⟩:=Qde r {Y with tmps:=Y.tmps.set t topS };exact⟨h1,h2,h3,h4,h5,h6.trans (by simp)⟩
theorem Qwd{c:Code}{Q:Exit->Act->World->Prop}(J:Nat->Act->World->Prop){n0:Nat}(h₀:J n0 a w)
  (round:∀n a w,J n a w->c.wp P (Exit.then (fun a' w'=>∃n',n'<n/\J n' a' w') Q) a w):(Code.loop c).wp P Q a w:=by
 intro b k cs;have key:∀n a w,J n a w->∃e a' w',Q e a' w'/\Arrives P (lone (b.at a (.code c :: .inLoop c::k)) cs w) b k cs e a' w':=by
  intro n
  induction n using Nat.strongRecOn with
  |_ n ih =>
   intro a w hI;obtain⟨e,a₁,w₁,hq,harr⟩:=round n a w hI b (.inLoop c::k) cs;cases e with
   |normal =>
    obtain⟨n',hlt,hI₁⟩:=hq;obtain⟨e₂,a₂,w₂,hq₂,harr₂⟩:=ih n' hlt a₁ w₁ hI₁;exact⟨e₂,a₂,w₂,hq₂,.of_steps (Steps.trans harr (.one step_inLoop)) harr₂⟩
   |exit id=>exact⟨_,a₁,w₁,hq,.pass (x:=.inLoop c) rfl (fun _ _=>.inl (by simp)) harr⟩
   |goto l=>exact⟨_,a₁,w₁,hq,.pass (x:=.inLoop c) rfl (fun _ _=>.inl (by simp)) harr⟩
   |ret=>exact⟨_,a₁,w₁,hq,.pass (x:=.inLoop c) rfl (fun _ _=>.inl (by simp)) harr⟩
   |panic ch=>exact⟨_,a₁,w₁,hq,.pass (x:=.inLoop c) rfl (fun _ _=>.inl (by simp)) harr⟩
   |outgrown=>exact⟨_,a₁,w₁,hq,.pass (x:=.inLoop c) rfl (fun _ _=>.inl (by simp)) harr⟩
 obtain⟨e,a',w',hq,harr⟩:=key _ a w h₀;exact⟨e,a',w',hq,.of_steps (.one step_loop) harr⟩
theorem Vo:∀(vs:List Int) (e:Nat->Int) (n i:Nat),i<n->Qag e n vs i=e i
 |[],_,_,_,_=>rfl
 |v::vs,e,n,i,h=>by
  simp only[Qag];rw[Vo vs _ _ _ (by omega)];simp[upd];omega
theorem Qbn:∀(vs:List Int) (e:Nat->Int) (n i:Nat) (x:Int),vs[i]?=some x->Qag e n vs (n+i)=x
 |[],_,_,_,_,h=>by simp at h
 |v::vs,e,n,0,x,h=>by
  simp at h;subst h;simp only[Qag];rw[Vo vs _ _ _ (by omega)];simp[upd]
 |v::vs,e,n,i+1,x,h=>by
  simp only[Qag];have:=Qbn vs (upd e n v) (n+1) i x (by simpa using h);rwa[show n+1+i=n+(i+1) by omega]at this
def Ub(g g':Gl):Prop:=g'.goal=g.goal/\∃r,g'.stk=g.stk++r
theorem Ub.refl(g:Gl):Ub g g:=⟨rfl,[],by simp⟩
theorem Ub.trans{g g' g'':Gl}(h:Ub g g')(k:Ub g' g''):Ub g g'':=by
 obtain⟨h1,r,h2⟩:=h;obtain⟨k1,s,k2⟩:=k;exact⟨k1.trans h1,r++s,by rw[k2,h2,M8]⟩
def Qf4:Ex->Exit|.normal=>.normal|.exit id=>.exit id|.ret=>.ret
end
section
variable {P:Program}{T:List K}{w0:World}{m:M}{Y:St}{a:Act}{w:World}{o:Oper}
theorem Zc8(k:LK)(l:List Int)(x:Int):flat k (l++[x])=flat k l++k.Xa9 x:=by simp[flat]
structure GrowSpec (P:Program) (Y:St) (nn:Nat) (o:Oper) (g:Grow) (s x:Operand) (t:TypeId) (i:TypeInfo) (z:Value) (id off cap:Nat) (b:Box):Prop where
 op:o.op=.call {callee:=.builtin .append,args:=#[s,x],argTypes:=#[t,t] }
 und:P.underlying t=some (.slice g.elem)
 info:P.info? g.elem=some i
 zero:i.zero=some z
 zs:z.cells.size=i.size
 size:i.size=g.k.sz
 bytes:i.bytes<=16384
 cell:Y.cell x=some (.slice id off 1 cap)
 box:Y.box id=some b
 len:g.k.sz<=(b.cells.drop off).length
 take:takeK nn g.k ((b.cells.drop off).take g.k.sz)=some (g.defs,g.a)
 old:(g.old=none/\g.x0=.lit 0/\Y.cell s=some .nilslice)∨∃id' r,g.old=some id'/\g.x0=r.x/\Y.cell s=some (.sl id')/\Y.row id'=some r/\r.own=true/\r.elem=g.elem/\r.k=g.k
theorem Zcg{nn:Nat}{g:Grow}(h:Qnm P Y nn o.op=some g):∃s x t i z id off cap b,GrowSpec P Y nn o g s x t i z id off cap b:=by
 unfold Qnm at h;split at h
 ·rename_i c hop;split at h
  ·rename_i t t' s x hc ht hx;split at h
   ·rename_i htt;split at h
    ·rename_i e hu;split at h
     ·rename_i i k hi hk;split at h
      ·rename_i z hz;split at h
       ·rename_i hcond;simp only[Oo,beq_iff_eq,decide_eq_true_eq]at hcond;split at h
        ·rename_i id off cap hcx;split at h
         ·rename_i b hb;split at h
          ·rename_i hlen;split at h
           ·rename_i ds y htk;have hop':o.op=.call {callee:=.builtin .append,args:=#[s,x],argTypes:=#[t,t] }:=by
             have htt':t=t':=by simpa using htt
             subst htt';rw[hop];obtain⟨callee,args,tys⟩:=c;simp only at hc ht hx;subst hc;have ea:args=#[s,x]:=Array.ext' (by simpa using hx);have et:tys=#[t,t]:=Array.ext' (by simpa using ht);rw[ea,et]
            split at h
            ·rename_i hs;cases h;exact⟨s,x,t,i,z,id,off,cap,b,⟨hop',hu,hi,hz,hcond.1.1,hcond.1.2,hcond.2,hcx,hb,by simpa using hlen,htk,.inl ⟨rfl,rfl,hs⟩⟩⟩
            ·rename_i id' hs;split at h
             ·rename_i r hr;split at h
              ·rename_i hrc;simp only[Oo,beq_iff_eq]at hrc;cases h;exact⟨s,x,t,i,z,id,off,cap,b,⟨hop',hu,hi,hz,hcond.1.1,hcond.1.2,hcond.2,hcx,hb,by simpa using hlen,htk,.inr ⟨id',r,rfl,rfl,hs,hr,hrc.1.1,hrc.1.2,Zx hrc.2⟩⟩⟩
              ·cases h
             ·cases h
            ·cases h
           ·cases h
          ·cases h
         ·cases h
        ·cases h
       ·cases h
      ·cases h
     ·cases h
    ·cases h
   ·cases h
  ·cases h
 ·cases h
theorem Zn7(hR:Rep w0 m Y a w){nid:Nat}(hn:Y.boxes[nid]?=some none){g:Grow}(hg:Qnm P Y Y.nv o.op=some g){goal:Gl}{t:Qq}{K:Act->World->Prop}{Q:Exit->Act->World->Prop}
  (hh:(Vw Y.nv (g.defs++[(.int .i64,.llen g.x0),(.bit,.cmp .lss (.v (Y.nv+g.defs.length)) (.lit 4294967296))]) (.nz (.v (Y.nv+(g.defs.length+1))) (.l (Y.nv+(g.defs.length+2)) (.lst g.k) (.lapp g.x0 [g.a]) t))).holds T goal m.env)
  (hK:∀m' a' w',MExt m Y.nv Y.al m' (Qg0 Y nid g o.dst).nv (Qg0 Y nid g o.dst).al->Rep w0 m' (Qg0 Y nid g o.dst) a' w'->t.holds T goal m'.env->K a' w'):o.wp P a w K Q:=by
 obtain⟨s,x,ty,i,z,id,off,cap,b,G⟩:=Zcg hg;obtain⟨vs,hvl,hr,hv⟩:=hR.reads G.box off g.k.sz G.len;obtain⟨k1,k3⟩:=Qe1 (T:=T) G.take m Y.nv vs hr;obtain⟨k1,k4⟩:=k1 (Nat.le_refl _)
 have hx0:g.x0.wf Y.nv m.env/\g.k.hasL (dec (g.x0.ev m.env))/\w.ownsRow w0.heap.size g.elem g.k.sz (a.eval s) (dec (g.x0.ev m.env)).length (flat g.k (dec (g.x0.ev m.env))) /\
   (match g.old with|none=>(a.eval s).ownBlock=none|some id=>∃b q,Y.boxes[id]?=some (some b)/\b.row=some q/\q.own=true/\m.sv id=a.eval s):=by
  rcases G.old with⟨h1,h2,h3⟩|⟨id',r,h1,h2,h3,h4,h5,h6,h7⟩
  ·have hs:a.eval s=.slice none 0 0:=hR.cell h3;rw[h1,h2,hs];simp only[A.ev,Qv];exact⟨⟨trivial,trivial⟩,⟨by simp,by simp⟩,World.ownsRow_nil ..,rfl⟩
  ·have hs:Y.al id'=true/\a.eval s=m.sv id'/\(a.eval s).oneCell'=true:=hR.cell h3;obtain⟨q1,q2,_,_,q3⟩:=hR.Xav h4;obtain⟨bx,hbx,hbr⟩:=Qdz h4;have q4:=q3.2.1;rw[h5]at q4;simp only[if_true]at q4;rw[h1,h2,<- h6,<- h7,hs.2.1];exact⟨q2,q3.1,q4,bx,r,hbx,hbr,h5,rfl⟩
 obtain⟨x1,x2,x3,x4⟩:=hx0;generalize hl:dec (g.x0.ev m.env)=l at x2 x3;have gen:Zf T m.env Y.nv (g.defs++[(.int .i64,.llen g.x0),(.bit,.cmp .lss (.v (Y.nv+g.defs.length)) (.lit 4294967296))]):=by
  refine Q5 _ _ _ _ k1 fun e' he _=>⟨A.Xar x1.1 (by omega),?_,⟨Hn _,trivial⟩,Q2 _,trivial⟩
  simp only[KK.has,D.ev];rw[A.Xaq x1.1 he,hl];have:=x2.1;simp only[has,lo,hi];omega
 obtain⟨e1,b1,b2,b3,b4⟩:=Xe _ _ _ hh gen;obtain⟨c1,c2⟩:=(Told.append).1 b3;have hx0e:g.x0.ev e1=g.x0.ev m.env:=A.Xaq x1.1 b1;have d0:e1 (Y.nv+g.defs.length)=(l.length:Int):=by
  have:=(c2 0 _ _ rfl).1;simpa[D.ev,hx0e,hl]using this
 have d1:e1 (Y.nv+g.defs.length+1)=Xo (decide (e1 (Y.nv+g.defs.length)<4294967296)):=(c2 1 _ _ rfl).1;obtain⟨nzf,lt⟩:=b4;have hlen:l.length<4294967296:=by
  have:e1 (Y.nv+g.defs.length+1)≠0:=nzf;rw[d1,d0]at this;by_cases hc:(l.length:Int)<4294967296
  ·omega
  ·simp[hc,Xo]at this
 obtain⟨v1,v2⟩:=k3 e1 b1 c1;generalize hy:g.a.ev e1=y at v1 v2;have hd:D.ev T e1 (.lapp g.x0 [g.a])=enc (l++[y]):=by simp only[D.ev,hx0e,hl,Mn,M7,hy]
 have hhas:g.k.hasL (l++[y]):=⟨by simp;omega,fun q hq=>by
  rcases L5.1 hq with hq|hq
  ·exact x2.2 q hq
  ·rw[Me.1 hq];exact v2⟩
 have t1:=lt (enc (l++[y])) hd.symm (by simp only[KK.has,Qu];exact hhas);have henv:∀j,j<Y.nv->upd e1 (Y.nv+(g.defs.length+2)) (enc (l++[y])) j=m.env j:=fun j hj=>by
  simp only[upd];rw[if_neg (by omega)];exact b1 j hj
 have hnm:=hR.names _ henv (Y.nv+(g.defs.length+3)) (by omega);have hxc:=hR.cell G.cell
 refine wp_append_lies w s x ty G.op w0.heap.size g.elem i z g.k.sz i.bytes G.und G.info G.zero G.size rfl (G.zs.trans G.size) (Xbi _) (a.eval s) l.length (flat g.k l) rfl x3 (m.at id off) 1 cap vs hxc.2 (by rw[hvl,Nat.one_mul]) hv
  (by rw[<- v1];exact Xbf _ _) (by omega) (by simp only[maxLen];omega) ?_ hR.below.size w.heap.size rfl fun gb cap' w' hown' hgrow hat hlt=>?_
 ·have:=G.bytes;have h1:(l.length+1)*i.bytes<=4294967296*16384:=Nat.mul_le_mul (by omega) this;omega
 ·have hn':({Y with nv:=Y.nv+(g.defs.length+3) }:St).boxes[nid]?=some none:=hn;have hev:dec (A.ev (upd e1 (Y.nv+(g.defs.length+2)) (enc (l++[y]))) (.v (Y.nv+(g.defs.length+2))))=l++[y]:=by simp[A.ev,upd,Qu]
  obtain⟨r1,r2⟩:=Qls hnm hn' (old:=g.old) (v0:=a.eval s) (v:=.slice (some ⟨gb,0,none⟩) (l.length+1) cap') (w':=w') (r:={x:=.v (Y.nv+(g.defs.length+2)),x0:=.v (Y.nv+(g.defs.length+2)),k:=g.k,elem:=g.elem,own:=true,full:=false }) hgrow
   (by rw[hev];exact⟨hhas,by simp only[if_true];rw[Zc8,v1,O2];exact hown',fun h=>by cases h⟩) ⟨by show Y.nv+(g.defs.length+2)<Y.nv+(g.defs.length+3);omega,trivial⟩ rfl x4 (fun g hg=>by cases hg;exact hat)
  have eq:Qg0 Y nid g o.dst=(({Y with nv:=Y.nv+(g.defs.length+3),boxes:=Sx.Xax Y.boxes g.old.toList }:St).Xas nid (Zc {x:=.v (Y.nv+(g.defs.length+2)),x0:=.v (Y.nv+(g.defs.length+2)),k:=g.k,elem:=g.elem,own:=true,full:=false })).put o.dst (.vl (.one (.sl nid))):=by
   unfold Qg0;rw[Vn];rfl
  have hnl:nid<(Sx.Xax Y.boxes g.old.toList).length:=by rw[Uo];exact(Ow.1 hn).1
  have Jd:=r1.put (s:=.vl (.one (.sl nid))) (v:=.slice (some ⟨gb,0,none⟩) (l.length+1) cap') ⟨by
   rw[Zv];simp[hnl],by simp[M.row],rfl⟩ o.dst
  have hal:∀(B:St) (d:Option Nat) (q:SV),(B.put d q).al=B.al/\(B.put d q).nv=B.nv:=fun B d q=>by cases d <;> exact⟨rfl,rfl⟩
  refine hK _ _ _ ?_ (by rw[eq];exact Jd) t1;rw[eq,(hal _ _ _).1,(hal _ _ _).2];refine MExt.trans (m':={m with env:=upd e1 (Y.nv+(g.defs.length+2)) (enc (l++[y])) }) (nv':=Y.nv+(g.defs.length+3)) (al':=Y.al) ⟨henv,fun _ _=>rfl,rfl,fun _ _=>rfl,by omega,fun _ h=>h⟩ r2
end
theorem Qdw{α β:Type}{f:α->Option β}:∀ {l:List α} {q:List β},Zh f l=some q->q.length=l.length/\∀(j:Nat) x,l[j]?=some x->∃y,q[j]?=some y/\f x=some y
 |[],q,h=>by simp[Zh]at h;subst h;exact⟨rfl,by simp⟩
 |x::l,q,h=>by
  unfold Zh at h;split at h
  ·cases h
  ·rename_i y hy;split at h
   ·cases h
   ·rename_i ys hys;cases h;obtain⟨h1,h2⟩:=Qdw hys;refine⟨by simp[h1],fun j z hz=>?_⟩;cases j with
    |zero=>simp at hz;subst hz;exact⟨y,rfl,hy⟩
    |succ j=>simpa using h2 j z (by simpa using hz)
theorem Qkw:∀ {q:List (A×Option Nat)} {j:Nat} {x:A} {id:Nat},q[j]?=some (x,some id)->id∈Us q:=fun {q j x id} h =>
 List.mem_filterMap.2 ⟨(x,some id),Mu h,rfl⟩
theorem Qk6:∀(q:List (A×Option Nat)),Bg (Us q)=true->∀(j j':Nat) x x' id id',q[j]?=some (x,some id)->q[j']?=some (x',some id')->j≠j'->id≠id'
 |[],_,j,j',x,x',id,id',h,_,_=>by simp at h
 |(x0,none)::q,hu,j,j',x,x',id,id',h,h',hne=>by
  have hu:Bg (Us q)=true:=hu;cases j with
  |zero=>simp at h
  |succ j=>cases j' with
   |zero=>simp at h'
   |succ j'=>exact Qk6 q hu j j' x x' id id' (by simpa using h) (by simpa using h') (by omega)
 |(x0,some i)::q,hu,j,j',x,x',id,id',h,h',hne=>by
  have hu:Bg (i::Us q)=true:=hu;simp only[Bg,Oo,Hc,List.contains_eq_mem,decide_eq_false_iff_not]at hu;cases j with
  |zero=>cases j' with
   |zero=>exact absurd rfl hne
   |succ j' =>
    simp at h;have:=Qkw (show q[j']?=some (x',some id') by simpa using h');intro e;exact hu.1 (by rw[h.2,e];exact this)
  |succ j=>cases j' with
   |zero =>
    simp at h';have:=Qkw (show q[j]?=some (x,some id) by simpa using h);intro e;exact hu.1 (by rw[h'.2,<- e];exact this)
   |succ j'=>exact Qk6 q hu.2 j j' x x' id id' (by simpa using h) (by simpa using h') (by omega)
theorem Qx9(Y:St)(n:Nat):({Y with boxes:=Y.boxes++List.replicate n none }:St).al=Y.al:=by
 funext id
 unfold St.al;by_cases hl:id<Y.boxes.length
 ·simp[Mm hl]
 ·rw[Mf (by omega),My (show Y.boxes.length<=id by omega)];by_cases h2:id-Y.boxes.length<n
  ·simp[h2]
  ·rw[My (by simp;omega)]
theorem Qtw{Y:St}{i:Nat}:Y.boxes[i]?=some none↔i<Y.boxes.length/\Y.al i=false:=by
 unfold St.al;constructor
 ·intro h;exact⟨(Ow.1 h).1,by rw[h]⟩
 ·rintro ⟨h1,h2⟩
  rw[O1 h1]at h2 ⊢;cases hb:Y.boxes[i]with
  |none=>rfl
  |some b=>rw[hb]at h2;cases h2
theorem Zbu(Y:St)(cs:List C)(h:Hp):(setH Y cs h).boxes.length=Y.boxes.length:=by
 cases h <;> simp only[setH] <;> (repeat' split) <;> simp
theorem Qnt:∀(hav:List (Hp×List L)) (nn:Nat) (Y:St),(J6 Y nn hav).boxes.length=Y.boxes.length
 |[],_,_=>rfl
 |(h,ls)::r,nn,Y=>by simp only[J6];rw[Qnt r,Zbu]
theorem Qs2:∀(l:List LH) (xs:List Int),xs.length=l.length->(∀(j:Nat) h x,l[j]?=some h->xs[j]?=some x->h.k.hasL (dec x))->Q0 (l.map fun h=>.lst h.k) xs
 |[],[],_,_=>trivial
 |h::l,x::xs,hl,hx=>⟨hx 0 h x rfl rfl,Qs2 l xs (by simpa using hl) fun j h' x' h1 h2=>hx (j+1) h' x' (by simpa using h1) (by simpa using h2)⟩
 |[],_::_,hl,_=>by simp at hl
 |_::_,[],hl,_=>by simp at hl
theorem Qm9:∀(l:List LH) (Y:St) (id nn:Nat),(Qma Y id nn l).nv=Y.nv/\(Qma Y id nn l).kn=Y.kn/\(Qma Y id nn l).gl=Y.gl/\(Qma Y id nn l).lvl=Y.lvl
 |[],_,_,_=>⟨rfl,rfl,rfl,rfl⟩
 |h::l,Y,id,nn=>Qm9 l _ _ _
section
variable {T:List K}{w0:World}{m:M}{Y:St}{a:Act}{w:World}
theorem Rep.Xb4(h:Rep w0 m Y a w){t:Nat}{s:SV}{v:Value}(hv:a.tmps[t]?=some v)(hs:s.rel m Y.nv Y.al v):Rep w0 m {Y with tmps:=Y.tmps.set t s } a w:=by
 refine⟨h.defers,by simp[h.size],fun i u hi=>?_,h.below,h.own,h.ro,h.inj,h.kn,h.gl,h.rows,h.rbox,h.rsep,h.base⟩;have hi:(Y.tmps.set t s)[i]?=some u:=hi;by_cases hti:t=i
 ·subst hti;have hlt:t<Y.tmps.length:=by simpa using(Ow.1 hi).1
  rw[Ls hlt]at hi;cases hi;exact⟨v,hv,hs⟩
 ·rw[O7 hti]at hi;exact h.tmp i u hi
def Apart(m:M)(Y:St)(g:Nat):Prop :=
 (∀(id:Nat) (b:Box),Y.boxes[id]?=some (some b)->b.own=true->(m.rho id).1≠g) /\
 ∀(id:Nat) (b:Box) (r:Row),Y.boxes[id]?=some (some b)->b.row=some r->r.own=true->(m.sv id).ownBlock≠some g
def Zxp(vs:List Value):Prop:=∀(j j':Nat) v v' g,j≠j'->vs[j]?=some v->vs[j']?=some v'->v.ownBlock=some g->v'.ownBlock≠some g
theorem Zhu:∀(l:List LH) (Y:St) (id nn:Nat) (m:M) (vs:List Value),Rep w0 m Y a w->(∀j,j<l.length->Y.boxes[id+j]?=some none)->vs.length=l.length ->
  (∀ (j:Nat) h v,l[j]?=some h->vs[j]?=some v->a.tmps[h.slot]?=some v/\nn+j<Y.nv/\h.k.hasL (dec (m.env (nn+j))) /\
   w.ownsRow w0.heap.size h.elem h.k.sz v (dec (m.env (nn+j))).length (flat h.k (dec (m.env (nn+j))))/\(h.full=true->Qjq v)/\∀g,v.ownBlock=some g->Apart m Y g)->Zxp vs ->
  ∃m',m'.env=m.env/\MExt m Y.nv Y.al m' (Qma Y id nn l).nv (Qma Y id nn l).al/\Rep w0 m' (Qma Y id nn l) a w:=by
 intro l
 induction l with
 |nil=>intro Y id nn m vs h _ _ _ _;exact⟨m,rfl,MExt.refl ..,h⟩
 |cons hd l ih =>
  intro Y id nn m vs h hbx hlen hx hsep;cases vs with
  |nil=>simp at hlen
  |cons v vs =>
   obtain⟨x1,x2,x3,x4,xf,x5⟩:=hx 0 hd v rfl rfl;simp only[Mk]at x2 x3 x4;have hn:Y.boxes[id]?=some none:=hbx 0 (by simp);have hnl:id<Y.boxes.length:=(Ow.1 hn).1;obtain⟨bb,cap,hform⟩:=Qgd x4
   obtain⟨r1,r2⟩:=h.Xbr (nid:=id) hn (row:=v.ownBlock) (w':=w) ⟨rfl,rfl,rfl,Nat.le_refl _,fun _ _ _=>rfl⟩
    (fun k hk=>⟨(x4.lt k hk).1,(x5 k hk).1,(x5 k hk).2⟩) (r:={x:=.v nn,x0:=.v nn,k:=hd.k,elem:=hd.elem,own:=true,full:=hd.full }) (v:=v)
    ⟨x2,trivial⟩ ⟨x2,trivial⟩ rfl ⟨x3,by simp only[if_true];exact x4,xf⟩ (fun g _ hg=>.inl hg)
   have r3:=r1.Xb4 (t:=hd.slot) (s:=.vl (.one (.sl id))) x1 ⟨by rw[Zv];simp[hnl],by simp[M.row],by rw[hform];rfl⟩;have hih:=ih _ (id+1) (nn+1) (m.row id v) vs r3 (fun j hj=>?_) (by simpa using hlen) (fun j h' v' hh hv=>?_) (fun j j' u u' g hne hu hu'=>hsep (j+1) (j'+1) u u' g (by omega) (by simpa using hu) (by simpa using hu'))
   ·obtain⟨m',e1,e2,e3⟩:=hih;exact⟨m',e1,r2.trans e2,e3⟩
   ·have:=hbx (j+1) (by simpa using hj);rw[show id+(j+1)=id+1+j by omega]at this;show(Y.boxes.set id _)[id+1+j]?=_;rw[O7 (by omega)];exact this
   ·obtain⟨y1,y2,y3,y4,yf,y5⟩:=hx (j+1) h' v' (by simpa using hh) (by simpa using hv);rw[show nn+(j+1)=nn+1+j by omega]at y2 y3 y4;refine⟨y1,y2,y3,y4,yf,fun g hg=>⟨fun i b hi hbo=>?_,fun i b r hi hr hro=>?_⟩⟩
    ·have hi:(Y.boxes.set id (some (Zc {x:=.v nn,x0:=.v nn,k:=hd.k,elem:=hd.elem,own:=true,full:=hd.full })))[i]?=some (some b):=hi;by_cases hin:id=i
     ·subst hin;rw[Ls hnl]at hi;cases hi;cases hbo
     ·rw[O7 hin]at hi;exact(y5 g hg).1 i b hi hbo
    ·have hi:(Y.boxes.set id (some (Zc {x:=.v nn,x0:=.v nn,k:=hd.k,elem:=hd.elem,own:=true,full:=hd.full })))[i]?=some (some b):=hi;by_cases hin:id=i
     ·subst hin;have:(m.row id v).sv id=v:=by simp[M.row]
      rw[this];intro e;exact hsep 0 (j+1) v v' g (by omega) rfl (by simpa using hv) e hg
     ·rw[O7 hin]at hi;have:(m.row id v).sv i=m.sv i:=by simp[M.row,Ne.symm hin]
      rw[this];exact(y5 g hg).2 i b r hi hr hro
theorem Zkb(h:Rep w0 m Y a w){l:LH}{x:A}{o:Option Nat}(ht:Qir Y l=some (x,o)) :
  ∃v,a.tmps[l.slot]?=some v/\x.wf Y.nv m.env/\l.k.hasL (dec (x.ev m.env))/\w.ownsRow w0.heap.size l.elem l.k.sz v (dec (x.ev m.env)).length (flat l.k (dec (x.ev m.env)))/\(l.full=true->Qjq v) /\
   ((o=none->v.ownBlock=none)/\∀id,o=some id->∃b r,Y.boxes[id]?=some (some b)/\b.row=some r/\r.own=true/\v=m.sv id):=by
 unfold Qir at ht;split at ht
 ·rename_i hs;cases ht;obtain⟨v,hv,hr⟩:=h.tmp _ _ hs;have hr:v=.slice none 0 0:=hr;subst hr;refine⟨_,hv,⟨trivial,trivial⟩,?_,?_,fun _=>rfl,fun _=>rfl,fun _ h=>by cases h⟩
  ·simp only[A.ev,Qv];exact⟨by simp,by simp⟩
  ·simp only[A.ev,Qv];exact World.ownsRow_nil ..
 ·rename_i id hs;split at ht
  ·rename_i r hr;split at ht
   ·rename_i hc;simp only[Oo,beq_iff_eq]at hc;obtain⟨⟨⟨hc1,hc2⟩,hc3⟩,hc4⟩:=hc;cases ht;obtain⟨v,hv,hrel⟩:=h.tmp _ _ hs;have hrel:Y.al id=true/\v=m.sv id/\v.oneCell'=true:=hrel;obtain⟨b,hb,hbr⟩:=Qdz hr;obtain⟨q1,q2,_,_,q3⟩:=h.Xav hr;have q4:=q3.2.1;rw[hc1]at q4;simp only[if_true]at q4;have hk:=Zx hc3;refine⟨v,hv,q2,by rw[<- hk];exact q3.1,by rw[<- hk,<- hc2,hrel.2.1];exact q4,fun hf=>by rw[hrel.2.1];exact q3.2.2 (by simpa[hf]using hc4),(fun h=>by cases h),fun i hi=>?_⟩;cases hi;exact⟨b,r,hb,hbr,hc1,hrel.2.1⟩
   ·cases ht
  ·cases ht
 ·cases ht
structure FromRow (ms mt:M) (σs σt:St) (ids:List Nat):Prop where
 box:∀(id:Nat) (b:Box),σt.boxes[id]?=some (some b)->b.own=true->∃b',σs.boxes[id]?=some (some b')/\b'.own=true/\mt.rho id=ms.rho id
 row:∀(id:Nat) (b:Box) (r:Row),σt.boxes[id]?=some (some b)->b.row=some r->r.own=true->id ∉ ids/\(∃b',σs.boxes[id]?=some (some b')/\b'.row=some r)/\mt.sv id=ms.sv id
theorem Zj8{mt:M}{σt:St}{ids:List Nat}(h:Rep w0 m Y a w)(hf:FromRow m mt Y σt ids){id:Nat}{b:Box}{r:Row}(hb:Y.boxes[id]?=some (some b))(hr:b.row=some r)(ho:r.own=true)(hid:id∈ids){g:Nat}(hg:(m.sv id).ownBlock=some g):Apart mt σt g:=by
 refine⟨fun i c hi hc=>?_,fun i c q hi hq hqo=>?_⟩
 ·obtain⟨b',k1,k2,k3⟩:=hf.box i c hi hc;intro e;exact h.rbox id b r hb hr ho i b' k1 k2 (by rw[hg,<- k3,e])
 ·obtain⟨k1,⟨b',k2,k3⟩,k4⟩:=hf.row i c q hi hq hqo;rw[k4];rcases h.rsep id b r i b' q hb hr k2 k3 ho hqo (fun e=>k1 (e▸hid))with h1|h1
  ·rw[hg]at h1;cases h1
  ·rw[hg]at h1;exact h1
theorem Zgo(h:Rep w0 m Y a w){l:List LH}{q:List (A×Option Nat)}(hq:Zh (Qir Y) l=some q)(hu:Bg (Us q)=true){mt:M}{σt:St}(hf:FromRow m mt Y σt (Us q)) :
  ∃vs:List Value,vs.length=l.length/\Zxp vs/\∀(j:Nat) hj v,l[j]?=some hj->vs[j]?=some v->∃x o,q[j]?=some (x,o)/\a.tmps[hj.slot]?=some v/\x.wf Y.nv m.env/\hj.k.hasL (dec (x.ev m.env)) /\
   w.ownsRow w0.heap.size hj.elem hj.k.sz v (dec (x.ev m.env)).length (flat hj.k (dec (x.ev m.env)))/\(hj.full=true->Qjq v)/\∀g,v.ownBlock=some g->Apart mt σt g:=by
 obtain⟨q1,q2⟩:=Qdw hq
 have fact:∀(j:Nat) hj v,l[j]?=some hj->(l.map fun h=>(a.tmps[h.slot]?).getD default)[j]?=some v->∃x o,q[j]?=some (x,o)/\a.tmps[hj.slot]?=some v/\x.wf Y.nv m.env/\hj.k.hasL (dec (x.ev m.env)) /\
   w.ownsRow w0.heap.size hj.elem hj.k.sz v (dec (x.ev m.env)).length (flat hj.k (dec (x.ev m.env)))/\(hj.full=true->Qjq v)/\((o=none->v.ownBlock=none)/\∀id,o=some id->∃b r,Y.boxes[id]?=some (some b)/\b.row=some r/\r.own=true/\v=m.sv id):=by
  intro j hj v h1 h2;obtain⟨⟨x,o⟩,h3,h4⟩:=q2 j hj h1;obtain⟨v',k1,k2,k3,k4,kf,k5⟩:=Zkb h h4;have:v'=v:=by
   rw[M2,h1]at h2;simp[k1]at h2;exact h2
  subst this;exact⟨x,o,h3,k1,k2,k3,k4,kf,k5⟩
 refine⟨l.map fun h=>(a.tmps[h.slot]?).getD default,by simp,fun j j' v v' g hne h1 h2 hg hg'=>?_,fun j hj v h1 h2=>?_⟩
 ·have l1:j<l.length:=by simpa using(Ow.1 h1).1
  have l2:j'<l.length:=by simpa using(Ow.1 h2).1
  obtain⟨x,o,k1,k2,_,_,_,_,k3⟩:=fact j _ v (O1 l1) h1;obtain⟨x',o',k1',k2',_,_,_,_,k3'⟩:=fact j' _ v' (O1 l2) h2;cases o with
  |none=>rw[k3.1 rfl]at hg;cases hg
  |some id=>cases o' with
   |none=>rw[k3'.1 rfl]at hg';cases hg'
   |some id' =>
    obtain⟨b,r,c1,c2,c3,c4⟩:=k3.2 id rfl;obtain⟨b',r',d1,d2,d3,d4⟩:=k3'.2 id' rfl;rcases h.rsep id b r id' b' r' c1 c2 d1 d2 c3 d3 (Qk6 q hu j j' x x' id id' k1 k1' hne)with e|e
    ·rw[<- c4,hg]at e;cases e
    ·rw[<- c4,<- d4,hg,hg']at e;exact e rfl
 ·obtain⟨x,o,k1,k2,k3,k4,k5,kf,k6⟩:=fact j hj v h1 h2;refine⟨x,o,k1,k2,k3,k4,k5,kf,fun g hg=>?_⟩;cases o with
  |none=>rw[k6.1 rfl]at hg;cases hg
  |some id =>
   obtain⟨b,r,c1,c2,c3,c4⟩:=k6.2 id rfl;exact Zj8 h hf c1 c2 c3 (Qkw k1) (by rw[<- c4];exact hg)
end
section
variable {P:Program}{T:List K}{w0:World}{m:M}{Y:St}{a:Act}{w:World}{o:Oper}
theorem Qtm{k:LK}{z:Value}(h:zeroK k z=true):z.cells.toList=k.Xa9 0/\∀l ls,k≠.tup l ls:=by
 unfold zeroK at h;split at h
 ·cases h
 ·cases h
 ·rename_i hk _;split at h
  ·rename_i v hv;split at h
   ·rename_i n htk;have hn:n=0:=by simpa using h
    subst hn;obtain⟨r1,r2⟩:=Jl (m:=⟨fun _=>0,fun _=>(0,0),{base:=default },fun _=>.nilFunc⟩) (nv:=0) (al:=fun _=>false) hv;obtain⟨vs,g1,g2,_⟩:=V.Xa0 r1 r2;obtain⟨_,_,k3⟩:=Xm (T:=[]) _ _ _ _ _ htk _ 0 vs g2;have:=(k3 (fun _=>0) (fun _ _=>rfl) (fun i kk d hi=>by simp at hi)).1;rw[Mn,M7,Zdl hk]at this;rw[g1];exact⟨by simpa[A.ev]using this.symm,hk⟩
   ·cases h
  ·cases h
theorem Zci{k:LK}{z:Value}(hz:z.cells.toList=k.Xa9 0)(n:Nat):(madeCells z.cells (n*k.sz)).toList=flat k (List.replicate n 0):=by
 have h1:flat k (List.replicate n 0)=(List.replicate n (k.Xa9 0)).flatten:=by
  simp[flat,List.flatMap,List.map_replicate]
 have hl:(k.Xa9 0).length=k.sz:=Xay k 0;have hs:z.cells.size=(k.Xa9 0).length:=by rw[<- hz];simp
 rw[h1,<- Qnr,hl];unfold madeCells;rw[Array.toList_map,Array.toList_range];refine H7 fun i _=>?_
 rw[hs,hl,<- hz];simp[Array.getElem!_eq_getD,Mj,Ou]
structure MakeSpec (P:Program) (Y:St) (o:Oper) (g:Made) (t:TypeId) (l c:Operand) (i:TypeInfo) (z:Value) (kl kc:IntKind):Prop where
 op:o.op=.makeSlice t l c
 und:P.underlying t=some (.slice g.elem)
 info:P.info? g.elem=some i
 zero:i.zero=some z
 size:i.size=g.k.sz
 bytes:i.bytes<=16384
 zk:zeroK g.k z=true
 cl:Y.cell l=some (.int kl g.a)
 cc:Y.cell c=some (.int kc g.a)
theorem Zd3{g:Made}(h:Qmi P Y o.op=some g):∃t l c i z kl kc,MakeSpec P Y o g t l c i z kl kc:=by
 unfold Qmi at h;split at h
 ·rename_i t l c hop;split at h
  ·rename_i e hu;split at h
   ·rename_i i k hi hk;split at h
    ·rename_i z hz;split at h
     ·rename_i hcond;simp only[Oo,beq_iff_eq,decide_eq_true_eq]at hcond;split at h
      ·rename_i kl a' kc b' hl hc;split at h
       ·rename_i hab;have:=Qwv hab;subst this;cases h;exact⟨t,l,c,i,z,kl,kc,hop,hu,hi,hz,hcond.1.1.2,hcond.1.2,hcond.2,hl,hc⟩
       ·cases h
      ·cases h
     ·cases h
    ·cases h
   ·cases h
  ·cases h
 ·cases h
theorem LK.Xba(k:LK)(hk:∀l ls,k≠.tup l ls):k.has 0:=by
 cases k with
 |num=>simp[LK.has,Qw]
 |int k=>exact Sx.Xba k
 |tup l ls=>exact absurd rfl (hk l ls)
 |byt=>simp[LK.has,Qv]
theorem Zol(hR:Rep w0 m Y a w){nid:Nat}(hn:Y.boxes[nid]?=some none){g:Made}(hg:Qmi P Y o.op=some g){goal:Gl}{t:Qq}{K:Act->World->Prop}{Q:Exit->Act->World->Prop}
  (hh:(Vw Y.nv [(.bit,.cmp .leq (.lit 0) g.a),(.bit,.cmp .lss g.a (.lit 4294967296))] (.nz (.v Y.nv) (.nz (.v (Y.nv+1)) (.l (Y.nv+2) (.lst g.k) (.lrep g.a (.lit 0)) t)))).holds T goal m.env)
  (hK:∀m' a' w',MExt m Y.nv Y.al m' (Qgx Y nid g o.dst).nv (Qgx Y nid g o.dst).al->Rep w0 m' (Qgx Y nid g o.dst) a' w'->t.holds T goal m'.env->K a' w'):o.wp P a w K Q:=by
 obtain⟨ty,l,c,i,z,kl,kc,G⟩:=Zd3 hg;obtain⟨l1,l2,l3⟩:=hR.cell G.cl;obtain⟨c1,c2,c3⟩:=hR.cell G.cc
 have gen:Zf T m.env Y.nv [(.bit,.cmp .leq (.lit 0) g.a),(.bit,.cmp .lss g.a (.lit 4294967296))] :=
  ⟨⟨trivial,l1.1⟩,Q2 _,⟨A.Xar l1.1 (by omega),trivial⟩,Q2 _,trivial⟩
 obtain⟨e1,b1,b2,b3,b4⟩:=Xe _ _ _ hh gen;have hae:g.a.ev e1=g.a.ev m.env:=A.Xaq l1.1 b1;have d0:e1 Y.nv=Xo (decide (0<=g.a.ev e1)):=(b3 0 _ _ rfl).1;have d1:e1 (Y.nv+1)=Xo (decide (g.a.ev e1<4294967296)):=(b3 1 _ _ rfl).1;obtain⟨z0,z1,lt⟩:=b4;have z0:e1 Y.nv≠0:=z0;have z1:e1 (Y.nv+1)≠0:=z1;have y0:0<=g.a.ev e1:=Wg (by rw[<- d0];exact z0);have y1:g.a.ev e1<4294967296:=Wg (by rw[<- d1];exact z1);rw[hae]at y0 y1;obtain⟨n,hnn⟩:=Oz y0;have hd:D.ev T e1 (.lrep g.a (.lit 0))=enc (List.replicate n 0):=by
  show enc (List.replicate (g.a.ev e1).toNat 0)=_;rw[hae,hnn];rfl
 have hhas:g.k.hasL (List.replicate n 0):=⟨by rw[Mz];omega,fun q hq=>by rw[(List.mem_replicate.1 hq).2];exact g.k.Xba (Qtm G.zk).2⟩
 have t1:=lt (enc (List.replicate n 0)) hd.symm (by simp only[KK.has,Qu];exact hhas);have henv:∀j,j<Y.nv->upd e1 (Y.nv+2) (enc (List.replicate n 0)) j=m.env j:=fun j hj=>by
  simp only[upd];rw[if_neg (by omega)];exact b1 j hj
 have hnm:=hR.names _ henv (Y.nv+3) (by omega);have hbytes:i.bytes*n<=281474976710656:=by
  have h1:i.bytes*n<=16384*4294967296:=Nat.mul_le_mul G.bytes (by omega);omega
 obtain⟨w',hrun,hown,hgrow⟩:=run_make_full (P:=P) w w0.heap.size ty g.elem i z g.k.sz G.und G.info G.zero G.size kl kc n hbytes (by simp only[maxLen];omega) hR.below.size;rw[Zci (Qtm G.zk).1]at hown;have hbel:Below w.heap.size w w':=⟨hgrow.os,hgrow.tape,hgrow.output,hgrow.size,fun k hk=>hgrow.block k hk (by simp)⟩
 have hn':({Y with nv:=Y.nv+3 }:St).boxes[nid]?=some none:=hn;have hev:dec (A.ev (upd e1 (Y.nv+2) (enc (List.replicate n 0))) (.v (Y.nv+2)))=List.replicate n 0:=by simp[A.ev,upd,Qu]
 obtain⟨r1,r2⟩:=hnm.newRow hn' hbel (r:={x:=.v (Y.nv+2),x0:=.v (Y.nv+2),k:=g.k,elem:=g.elem,own:=true,full:=true }) (v:=.slice (some ⟨w.heap.size,0,none⟩) n n)
  ⟨by show Y.nv+2<Y.nv+3;omega,trivial⟩ ⟨by show Y.nv+2<Y.nv+3;omega,trivial⟩ rfl
  (by simp only[hev];exact⟨hhas,by simp only[if_true,Mz];exact hown,fun _=>rfl⟩) (fun b _ hb=>by cases hb;exact Nat.le_refl _)
 have hnl:nid<Y.boxes.length:=(Ow.1 hn).1;have eq:Qgx Y nid g o.dst=(({Y with nv:=Y.nv+3 }:St).Xas nid (Zc {x:=.v (Y.nv+2),x0:=.v (Y.nv+2),k:=g.k,elem:=g.elem,own:=true,full:=true })).put o.dst (.vl (.one (.sl nid))):=by
  unfold Qgx;rw[Vn];rfl
 have Jd:=r1.put (s:=.vl (.one (.sl nid))) (v:=.slice (some ⟨w.heap.size,0,none⟩) n n) ⟨by
  rw[Zv];simp[hnl],by simp[M.row],rfl⟩ o.dst
 have hal:∀(B:St) (d:Option Nat) (q:SV),(B.put d q).al=B.al/\(B.put d q).nv=B.nv:=fun B d q=>by cases d <;> exact⟨rfl,rfl⟩
 unfold Oper.wp;have hex:(execOp a.eval o).run P w=.ok (.value (.slice (some ⟨w.heap.size,0,none⟩) n n)) w':=by
  simp only[execOp,G.op,l3,c3,hnn];simp[hrun]
 rw[hex];refine hK _ _ _ ?_ (by rw[eq];exact Jd) t1;rw[eq,(hal _ _ _).1,(hal _ _ _).2];exact MExt.trans (m':={m with env:=upd e1 (Y.nv+2) (enc (List.replicate n 0)) }) (nv':=Y.nv+3) (al':=Y.al) ⟨henv,fun _ _=>rfl,rfl,fun _ _=>rfl,by omega,fun _ h=>h⟩ r2
theorem Qo6(w:World)(dT sT ty elem:TypeId)(g dLen dCap:Nat)(ad:Addr)(sLen sCap sz:Nat)(cur:Array Value)(t:TypeId)(cs:List Value)
  (hu:P.underlying dT=some (.slice elem)) (hs:szOf P elem=some sz) (hg:w.heap[g]?=some (.cells cur t (0,0))) (hn:cs.length=Nat.min sLen dLen*sz)
  (hsrc:∀j v,cs[j]?=some v->w.cell? (ad.add j)=some v) (hfit:cs.length<=cur.size) (h1:∀v∈cs,v.oneCell'=true) :
  (Builtin.copy_ #[dT,sT] ty #[.slice (some ⟨g,0,none⟩) dLen dCap,.slice (some ad) sLen sCap]).run P w =
   .ok (goInt (Nat.min sLen dLen)) (w.setRow g (cs++cur.toList.drop cs.length).toArray):=by
 have hl:=run_loadCells_list (P:=P) w ad cs hsrc;have hst:=run_storeCells_at P g 0 t cs 0 cur w hg (by simpa using hfit) h1;simp only[Mk,M5,List.take_zero,Ox]at hst;simp[Builtin.copy_,run_underlying hu,Builtin.lenOf,Builtin.firstCells,run_sizeOf hs,<- hn,hl,hst]
theorem Ql5(w:World)(dT sT ty elem:TypeId)(ad:Addr)(dLen dCap sz:Nat)(hu:P.underlying dT=some (.slice elem))(hs:szOf P elem=some sz) :
  (Builtin.copy_ #[dT,sT] ty #[.slice (some ad) dLen dCap,.slice none 0 0]).run P w=.ok (goInt 0) w:=by
 simp[Builtin.copy_,run_underlying hu,Builtin.lenOf,Builtin.firstCells,run_sizeOf hs,storeCells]
structure CopySpec (P:Program) (Y:St) (nn:Nat) (o:Oper) (g:Copy) (t t':TypeId) (d s:Operand) (e:TypeId) (v:V):Prop where
 op:o.op=.call {callee:=.builtin .copy,args:=#[d,s],argTypes:=#[t,t'] }
 und:P.underlying t=some (.slice e)
 cell:Y.cell d=some (.sl g.id)
 box:Y.boxes[g.id]?=some (some g.b)
 row:g.b.row=some g.r
 own:g.r.own=true
 size:szOf P e=some g.r.k.sz
 src:Y.v s=some v
 take:takeSh Y nn (.lst g.r.k) v=some (g.defs,[g.y])
theorem Zb8{nn:Nat}{g:Copy}(h:Qtj P Y nn o.op=some g):∃t t' d s e v,CopySpec P Y nn o g t t' d s e v:=by
 unfold Qtj at h;split at h
 ·rename_i c hop;split at h
  ·rename_i t t' d s hc ht hx;split at h
   ·rename_i e id hu hcd;split at h
    ·rename_i b z hb hz;split at h
     ·rename_i r hr;split at h
      ·rename_i hcond;simp only[Oo,beq_iff_eq]at hcond;split at h
       ·rename_i ds y hsrc;cases h;unfold Qhx at hsrc;split at hsrc
        ·rename_i v hv;split at hsrc
         ·rename_i ds' y' htk;cases hsrc;refine⟨t,t',d,s,e,v,?_,hu,hcd,Zu hb,hr,hcond.1,by rw[hz,hcond.2],hv,htk⟩;rw[hop];obtain⟨callee,args,tys⟩:=c;simp only at hc ht hx;subst hc;have ea:args=#[d,s]:=Array.ext' (by simpa using hx);have et:tys=#[t,t']:=Array.ext' (by simpa using ht);rw[ea,et]
         ·cases hsrc
        ·cases hsrc
       ·cases h
      ·cases h
     ·cases h
    ·cases h
   ·cases h
  ·cases h
 ·cases h
theorem Zlq(hR:Rep w0 m Y a w){g:Copy}(hg:Qtj P Y Y.nv o.op=some g){goal:Gl}{t:Qq}{K:Act->World->Prop}{Q:Exit->Act->World->Prop}
  (hh:(Vw Y.nv (g.defs++[(.int .i64,.llen g.r.x0),(.bit,.cmp .lss (.lit 0) (.v (Y.nv+g.defs.length)))]) (.nz (.v (Y.nv+(g.defs.length+1)))
 (.l (Y.nv+(g.defs.length+2)) (.lst g.r.k) (.lcpy g.r.x g.y) t))).holds T goal m.env)
  (hK:∀m' a' w',MExt m Y.nv Y.al m' (Qhh Y g o.dst).nv (Qhh Y g o.dst).al->Rep w0 m' (Qhh Y g o.dst) a' w'->t.holds T goal m'.env->K a' w'):o.wp P a w K Q:=by
 obtain⟨ty,ty',d,s,e,v,G⟩:=Zb8 hg;obtain⟨q1,q2,q6,q3⟩:=hR.rows g.id g.b g.r G.box G.row;have hd:Y.al g.id=true/\a.eval d=m.sv g.id/\(a.eval d).oneCell'=true:=hR.cell G.cell;obtain⟨k1,k2,k3⟩:=Vg (T:=T) G.take hR (hR.v_ G.src);obtain⟨k1,k4⟩:=k1 (Nat.le_refl _);generalize hl:dec (g.r.x.ev m.env)=l at q3 q6;have hlmax:=q3.1.1;have gen:Zf T m.env Y.nv (g.defs++[(.int .i64,.llen g.r.x0),(.bit,.cmp .lss (.lit 0) (.v (Y.nv+g.defs.length)))]):=by
  refine Q5 _ _ _ _ k1 fun e' he _=>⟨A.Xar q2.1 (by omega),?_,⟨trivial,Hn _⟩,Q2 _,trivial⟩
  simp only[KK.has,D.ev];rw[A.Xaq q2.1 he,q6];simp only[has,lo,hi];omega
 obtain⟨e1,b1,b2,b3,b4⟩:=Xe _ _ _ hh gen;obtain⟨c1,c2⟩:=(Told.append).1 b3;have hxe:g.r.x.ev e1=g.r.x.ev m.env:=A.Xaq q1.1 b1;have hx0e:g.r.x0.ev e1=g.r.x0.ev m.env:=A.Xaq q2.1 b1;have d0:e1 (Y.nv+g.defs.length)=(l.length:Int):=by
  have:=(c2 0 _ _ rfl).1;simpa[D.ev,hx0e,q6]using this
 have d1:e1 (Y.nv+g.defs.length+1)=Xo (decide (0<e1 (Y.nv+g.defs.length))):=(c2 1 _ _ rfl).1;obtain⟨nzf,lt⟩:=b4;have hpos:0<l.length:=by
  have h0:e1 (Y.nv+g.defs.length+1)≠0:=nzf;have:=Wg (b:=0<e1 (Y.nv+g.defs.length)) (by rw[<- d1];exact h0);omega
 obtain⟨hy1,hy2⟩:=k3 e1 b1 c1;simp only[Mn,M7,Sh.leaves,Xq,Sh.rel,Lq]at hy1 hy2;generalize hye:dec (g.y.ev e1)=y at hy1 hy2;have hde:D.ev T e1 (.lcpy g.r.x g.y)=enc (y.take l.length++l.drop y.length):=by simp only[D.ev,hxe,hl,hye]
 have hhas:g.r.k.hasL (y.take l.length++l.drop y.length):=by
  refine⟨?_,fun q hq=>?_⟩
  ·simp only[O2,O6,Mp];omega
  ·rcases L5.1 hq with hq|hq
   ·exact hy1.1.2 q (H4 hq)
   ·exact q3.1.2 q (List.mem_of_mem_drop hq)
 have hlen':(y.take l.length++l.drop y.length).length=l.length:=by
  simp only[O2,O6,Mp];omega
 have t1:=lt (enc (y.take l.length++l.drop y.length)) hde.symm (by simp only[KK.has,Qu];exact hhas);have henv:∀j,j<Y.nv->upd e1 (Y.nv+(g.defs.length+2)) (enc (y.take l.length++l.drop y.length)) j=m.env j:=fun j hj=>by
  simp only[upd];rw[if_neg (by omega)];exact b1 j hj
 have hnm:=hR.names _ henv (Y.nv+(g.defs.length+3)) (by omega);have hev:dec (A.ev (upd e1 (Y.nv+(g.defs.length+2)) (enc (y.take l.length++l.drop y.length))) (.v (Y.nv+(g.defs.length+2))))=y.take l.length++l.drop y.length:=by simp[A.ev,upd,Qu]
 have hxn:g.r.x.ev (upd e1 (Y.nv+(g.defs.length+2)) (enc (y.take l.length++l.drop y.length)))=g.r.x.ev m.env:=A.Xaq q1.1 henv;have q4:=q3.2.1;rw[G.own]at q4;simp only[if_true]at q4;rcases q4.2 with⟨hv,hn⟩|⟨gb,cap,cur,hv,hbase,hgb,hc1,hc2,hc3,hc4⟩
 ·omega
 have hfl:(flat g.r.k l).length=l.length*g.r.k.sz:=Um _ _;have hcs:(flat g.r.k (y.take l.length)).length=Nat.min y.length l.length*g.r.k.sz:=by
  rw[Um,O6,Nat.min_comm]
 have hfit:(flat g.r.k (y.take l.length)).length<=cur.size:=by
  rw[hcs,hc3];exact Ko _ (Nat.le_trans (Nat.min_le_right _ _) hc1)
 have hrun:(Builtin.copy_ #[ty,ty'] o.type #[a.eval d,a.eval s]).run P w=.ok (goInt (Nat.min y.length l.length)) (w.setRow gb (flat g.r.k (y.take l.length)++cur.toList.drop (flat g.r.k (y.take l.length)).length).toArray):=by
  rw[hd.2.1,hv];rcases hy2 with⟨hs,hy0⟩|⟨ad,scap,hs,hb,hsc,hcell⟩
  ·rw[hs,hy0];have:=Ql5 (P:=P) w ty ty' o.type e ⟨gb,0,none⟩ l.length cap g.r.k.sz G.und G.size;simp only[O5,List.take_nil];rw[this];have e2:flat g.r.k ([]:List Int)=[]:=rfl;rw[e2];simp only[O5,K3,Ox,Array.toArray_toList];rw[setRow_self w gb cur _ (0,0) hgb];simp
  ·rw[hs];refine Qo6 (P:=P) w ty ty' o.type e gb l.length cap ad y.length scap g.r.k.sz cur g.r.elem _ G.und G.size hgb hcs (fun j u hj=>?_) hfit (Qrn _ _);refine hcell j u ?_;rw[Bo,Ku]at hj;split at hj
   ·exact hj
   ·cases hj
 have hex:(execOp a.eval o).run P w=.ok (.value (goInt (Nat.min y.length l.length))) (w.setRow gb (flat g.r.k (y.take l.length)++cur.toList.drop (flat g.r.k (y.take l.length)).length).toArray):=by
  simp only[execOp,G.op,resolve];simp only[invoke,builtin,Sem.run_bind,Sem.run_pure,Result.andThen_ok,List.map_toArray,Mn,M7,hrun]
 unfold Oper.wp;rw[hex];have hbox':({Y with nv:=Y.nv+(g.defs.length+3) }:St).boxes[g.id]?=some (some g.b):=G.box;have hat:RowAt w0 (w.setRow gb (flat g.r.k (y.take l.length)++cur.toList.drop (flat g.r.k (y.take l.length)).length).toArray) {g.r with x:=.v (Y.nv+(g.defs.length+2)) } (m.sv g.id) (y.take l.length++l.drop y.length):=by
  refine⟨hhas,?_,q3.2.2⟩;simp only[G.own,if_true];refine⟨by rw[Um],.inr ⟨gb,cap,_,by rw[hlen'];exact hv,hbase,setRow_heap w _ _ _ _ _ hgb,by rw[hlen'];exact hc1,hc2,?_,?_⟩⟩
  ·simp only[List.size_toArray,O2,Mp,K1];omega
  ·rw[hlen',List.toList_toArray,Qg1,Qfy,<- hc4];have hle:(flat g.r.k (y.take l.length)).length<=l.length*g.r.k.sz:=by rw[hcs];exact Ko _ (Nat.min_le_right _ _)
   rw[List.take_append,Mg hle];congr 1;rw[hcs,<- List.drop_take];by_cases hyl:y.length<=l.length
   ·rw[show Nat.min y.length l.length=y.length from Hw hyl]
   ·have e1:Nat.min y.length l.length=l.length:=Nat.min_eq_right (by omega);rw[e1,Kp (by rw[O6];omega),Kp];rw[O6];have:=Ko g.r.k.sz (show l.length<=y.length by omega);omega
 have r1:=hnm.Xb1 hbox' G.row G.own (g:=gb) (x:=.v (Y.nv+(g.defs.length+2))) (by show(m.sv g.id).ownBlock=some gb;rw[hv];rfl) ⟨by show Y.nv+(g.defs.length+2)<Y.nv+(g.defs.length+3);omega,trivial⟩
  (by rw[hev,hlen'];simp only[hxn,hl]) (by rw[hev];exact hat)
 have Jd:=r1.put (s:=.vl (.one .top)) (v:=goInt (Nat.min y.length l.length)) trivial o.dst;have eq:Qhh Y g o.dst=(({Y with nv:=Y.nv+(g.defs.length+3) }:St).Xas g.id (g.b.upd (.row (.v (Y.nv+(g.defs.length+2)))))).put o.dst (.vl (.one .top)):=by
  unfold Qhh;rw[Vn];rfl
 have hal:∀(B:St) (d:Option Nat) (q:SV),(B.put d q).al=B.al/\(B.put d q).nv=B.nv:=fun B d q=>by cases d <;> exact⟨rfl,rfl⟩
 have hals:(({Y with nv:=Y.nv+(g.defs.length+3) }:St).Xas g.id (g.b.upd (.row (.v (Y.nv+(g.defs.length+2)))))).al=Y.al:=by
  funext i
  rw[Zv];split
  ·rename_i hi;rw[hi.1];exact(Vp.2 ⟨g.b,G.box⟩).symm
  ·rfl
 refine hK _ _ _ ?_ (by rw[eq];exact Jd) t1;rw[eq,(hal _ _ _).1,(hal _ _ _).2,hals];exact⟨henv,fun _ _=>rfl,rfl,fun _ _=>rfl,by show Y.nv<=Y.nv+(g.defs.length+3);omega,fun _ h=>h⟩
end
section
variable {P:Program}{T:List K}{w0:World}{m:M}{Y:St}{a:Act}{w:World}
theorem Bw{bs:List (Option Box)}{id i:Nat}{b:Box}(h:(Xa3 bs id)[i]?=some (some b)):∃b',bs[i]?=some (some b')/\b'.elem=b.elem/\b'.row=b.row/\(b'.cells=b.cells/\b'.own=b.own/\i≠id∨b.cells=[]/\b.own=false):=by
 unfold Xa3 at h;rw[lget?_eq]at h;split at h
 ·rename_i b0 hb0;rw[Vn]at h;by_cases hi:id=i
  ·subst hi;have hl:id<bs.length:=(Ow.1 hb0).1;simp[hl]at h;subst h;exact⟨b0,hb0,rfl,rfl,.inr ⟨rfl,rfl⟩⟩
  ·rw[O7 hi]at h;exact⟨b,h,rfl,rfl,.inl ⟨rfl,rfl,fun e=>hi e.symm⟩⟩
 ·rename_i hn;exact⟨b,h,rfl,rfl,.inl ⟨rfl,rfl,fun e=>hn b (by rw[<- e];exact h)⟩⟩
theorem Zja{bs:List (Option Box)}{id i:Nat}{b:Box}(h:(Xa3 bs id)[i]?=some (some b)):∃b',bs[i]?=some (some b')/\b'.fz=b.fz:=by
 unfold Xa3 at h;simp only[lget?_eq,Vn]at h;split at h
 ·rename_i c hc;by_cases hi:id=i
  ·subst hi;rw[Ls (Ow.1 hc).1]at h;cases h;exact⟨c,hc,rfl⟩
  ·rw[O7 hi]at h;exact⟨b,h,rfl⟩
 ·exact⟨b,h,rfl⟩
theorem Bm(bs:List (Option Box))(id:Nat):(Xa3 bs id).length=bs.length:=by
 unfold Xa3;split
 ·rw[Vn];simp
 ·rfl
theorem Qra(Y:St)(id:Nat):({Y with boxes:=Xa3 Y.boxes id }:St).al=Y.al:=by
 funext i
 unfold St.al Xa3;simp only[lget?_eq,Vn];cases hb0:Y.boxes[id]? with
 |none=>rfl
 |some ob=>cases ob with
  |none=>rfl
  |some b0 =>
   simp only;by_cases hi:id=i
   ·subst hi;have hl:id<Y.boxes.length:=(Ow.1 hb0).1;rw[Ls hl,hb0]
   ·rw[O7 hi]
theorem Rep.Xa3(h:Rep w0 m Y a w)(id:Nat):Rep w0 m {Y with boxes:=Sx.Xa3 Y.boxes id } a w:=by
 have hal:=Qra Y id;have own':∀ {i:Nat} {b:Box},(Sx.Xa3 Y.boxes id)[i]?=some (some b)->b.own=true->∃b',Y.boxes[i]?=some (some b')/\b'.own=true/\b'.elem=b.elem/\b'.cells=b.cells:=by
  intro i b hi ho;obtain⟨b',h1,h2,_,h4⟩:=Bw hi;rcases h4 with⟨h4,h5,_⟩|⟨_,h5⟩
  ·exact⟨b',h1,h5.trans ho,h2,h4⟩
  ·rw[ho]at h5;cases h5
 have row':∀ {i:Nat} {b:Box} {r:Row},(Sx.Xa3 Y.boxes id)[i]?=some (some b)->b.row=some r->∃b',Y.boxes[i]?=some (some b')/\b'.row=some r:=by
  intro i b r hi hr;obtain⟨b',h1,_,h3,_⟩:=Bw hi;exact⟨b',h1,h3.trans hr⟩
 refine⟨h.defers,h.size,?_,h.below,?_,?_,?_,h.kn,?_,?_,?_,?_,h.base⟩
 ·rw[hal];exact h.tmp
 ·rw[hal];intro i b hi ho;obtain⟨b',h1,h2,h3,h4⟩:=own' hi ho;obtain⟨g1,g2,vs,g3,g4⟩:=h.own i b' h1 h2;obtain⟨b2,q1,q2⟩:=Zja hi;have hbb:b2=b':=by rw[h1]at q1;cases q1;rfl
  exact⟨g1,g2,vs,by rw[<- h3,<- q2,hbb];exact g3,by rw[<- h4];exact g4⟩
 ·rw[hal];intro i b hi ho;obtain⟨b',h1,h2,_,h4⟩:=Bw hi;rcases h4 with⟨h4,h5,_⟩|⟨h4,_⟩
  ·have:=h.ro i b' h1 (h5.trans ho);rw[h4]at this;exact this
  ·exact .inl h4
 ·intro i i' b b' hi hi' ho ho' hd;obtain⟨c,h1,h2,_⟩:=own' hi ho;obtain⟨c',k1,k2,_⟩:=own' hi' ho';exact h.inj i i' c c' h1 k1 h2 k2 hd
 ·rw[hal];exact h.gl
 ·intro i b r hi hr;obtain⟨b',h1,h2⟩:=row' hi hr;exact h.rows i b' r h1 h2
 ·intro i b r hi hr ho i' b' hi' hbo;obtain⟨c,h1,h2⟩:=row' hi hr;obtain⟨c',k1,k2,_⟩:=own' hi' hbo;exact h.rbox i c r h1 h2 ho i' c' k1 k2
 ·intro i b r i' b' r' hi hr hi' hr' ho ho' hd;obtain⟨c,h1,h2⟩:=row' hi hr;obtain⟨c',k1,k2⟩:=row' hi' hr';exact h.rsep i c r i' c' r' h1 h2 k1 k2 ho ho' hd
theorem Rep.Xb3(h:Rep w0 m Y a w)(t:Nat)(s:SV)(hs:∀v,a.tmps[t]?=some v->s.rel m Y.nv Y.al v):Rep w0 m {Y with tmps:=Y.tmps.set t s } a w:=by
 refine⟨h.defers,by simp[h.size],fun i s' hi=>?_,h.below,h.own,h.ro,h.inj,h.kn,h.gl,h.rows,h.rbox,h.rsep,h.base⟩;simp only[List.getElem?_set]at hi;split at hi
 ·rename_i he;subst he;split at hi
  ·rename_i hl;cases hi;have:t<a.tmps.size:=by rw[h.size];exact hl
   exact⟨a.tmps[t],M1 this,hs _ (M1 this)⟩
  ·cases hi
 ·exact h.tmp i s' hi
structure FrzSpec (P:Program) (Y:St) (nn:Nat) (g:Frz) (b:Box):Prop where
 cell:Y.cell (.tmp g.slot)=some (.slice g.id 0 g.n g.n)
 box:Y.box g.id=some b
 own:b.own=true
 fz:b.fz=(0,0)
 elem:b.elem=g.elem
 pos:0<g.n
 max:g.n<=1024
 len:b.cells.length=g.n*g.k.sz
 take:takeNK g.k nn g.n b.cells=some (g.defs,g.as)
theorem Qqo{nn:Nat}{op:Op}{g:Frz}(h:Qd9 P Y nn op=some g):∃b,FrzSpec P Y nn g b:=by
 unfold Qd9 at h;split at h
 ·split at h
  ·split at h
   ·rename_i id n cap hc;split at h
    ·split at h
     ·rename_i k b hk hb;split at h
      ·rename_i hcond;simp only[Oo,beq_iff_eq,decide_eq_true_eq]at hcond;obtain⟨⟨⟨⟨⟨⟨⟨c1,c0⟩,c2⟩,c3⟩,c4⟩,c5⟩,c6⟩,c7⟩:=hcond;split at h
       ·rename_i ds as ht;cases h;subst c4;exact⟨b,hc,hb,c1,c0,c3,c5,c6,c7,ht⟩
       ·cases h
      ·cases h
     ·cases h
    ·cases h
   ·cases h
  ·cases h
 ·cases h
theorem Zdn(hR:Rep w0 m Y a w){op:Op}{g:Frz}(hg:Qd9 P Y Y.nv op=some g){goal:Gl}{t:Qq}
  (hh:(Vw Y.nv (g.defs++[(.lst g.k,.lapp (.lit 0) g.as)]) t).holds T goal m.env) :
  ∃m',MExt m Y.nv Y.al m' (Qb5 Y g).nv (Qb5 Y g).al/\Rep w0 m' (Qb5 Y g) a w/\t.holds T goal m'.env:=by
 obtain⟨b,G⟩:=Qqo hg;obtain⟨k1,k2,vs,k3,k4⟩:=hR.own g.id b (Zu G.box) G.own;rw[G.fz]at k3;obtain⟨g1,g3,g4⟩:=V8 (T:=T) _ _ _ _ _ G.take m Y.nv vs k4;have hvl:vs.length=g.n*g.k.sz:=by rw[<- k4.length,G.len]
 have Jd:∀e',(∀i,i<Y.nv->e' i=m.env i)->Told T e' Y.nv g.defs->g.k.hasL (g.as.map (·.ev e'))/\flat g.k (g.as.map (·.ev e'))=vs/\(g.as.map (·.ev e')).length=g.n:=fun e' he ht=>by
  obtain⟨v1,v2⟩:=g4 e' he ht;have hl:(g.as.map (·.ev e')).length=g.n:=by rw[O8,g3]
  exact⟨⟨by rw[hl];have:=G.max;omega,v2⟩,v1,hl⟩
 have gen:Zf T m.env Y.nv (g.defs++[(.lst g.k,.lapp (.lit 0) g.as)]):=by
  refine Q5 _ _ _ _ (g1 (Nat.le_refl _)).1 fun e1 he1 ht1=>⟨⟨trivial,(g1 (Nat.le_refl _)).2⟩,?_,trivial⟩
  simp only[KK.has,D.ev,A.ev,Qv,Qu,Ox];exact(Jd e1 he1 ht1).1
 obtain⟨e1,b1,b2,b3,b4⟩:=Xe _ _ _ hh gen;obtain⟨c1,c2⟩:=(Told.append).1 b3;obtain⟨f1,f2,f3⟩:=Jd e1 b1 c1;have h0:e1 (Y.nv+g.defs.length)=enc (g.as.map (·.ev e1)):=by
  have h1:e1 (Y.nv+g.defs.length+0)=enc (dec 0++g.as.map (·.ev e1)):=(c2 0 _ _ rfl).1;rwa[Qv,Ox]at h1
 generalize hl:g.as.map (·.ev e1)=l at f1 f2 f3 h0;have hnm:=hR.names e1 b1 (Y.nv+(g.defs.length+1)) (by omega);have hdr:=(hnm.Xa3 g.id).room 1;have hal1:({Y with nv:=Y.nv+(g.defs.length+1),boxes:=Sx.Xa3 Y.boxes g.id++List.replicate 1 none }:St).al=Y.al:=by
  rw[<- Qra Y g.id];exact Qx9 {Y with boxes:=Sx.Xa3 Y.boxes g.id } 1
 have hbx:∀ {i:Nat} {bx:Box},(Sx.Xa3 Y.boxes g.id++List.replicate 1 none)[i]?=some (some bx)->(Sx.Xa3 Y.boxes g.id)[i]?=some (some bx):=by
  intro i bx hi;rcases Ha i (Sx.Xa3 Y.boxes g.id).length with h|h
  ·rwa[Mm h]at hi
  ·rw[Mf h]at hi;have:=Mu hi;rw[List.mem_replicate]at this;cases this.2
 have hev:dec (A.ev e1 (.v (Y.nv+g.defs.length)))=l:=by
  show dec (e1 (Y.nv+g.defs.length))=l;rw[h0,Qu]
 have hn1:(Sx.Xa3 Y.boxes g.id++List.replicate 1 none)[Y.boxes.length]?=some none:=by
  rw[Mf (by rw[Bm];exact Nat.le_refl _),Bm];simp
 have hat0:m.at g.id 0=⟨(m.rho g.id).1,0,none⟩:=by simp[M.at,k1]
 obtain⟨q1,q2⟩:=hdr.Xbr (nid:=Y.boxes.length) hn1 (row:=some (m.rho g.id).1) (w':=w) ⟨rfl,rfl,rfl,Nat.le_refl _,fun _ _ _=>rfl⟩
  (fun k hk=>by
   cases hk;refine⟨k2,fun id b' hb' ho e=>?_,fun id b' q hb' hq hqo e=>?_⟩
   ·obtain⟨c,d1,_,_,d4⟩:=Bw (hbx hb');rcases d4 with⟨_,d5,d6⟩|⟨_,d5⟩
    ·exact hR.inj id g.id c b d1 (Zu G.box) (d5.trans ho) G.own d6 e
    ·rw[ho]at d5;cases d5
   ·obtain⟨c,d1,_,d3,_⟩:=Bw (hbx hb');exact hR.rbox id c q d1 (d3.trans hq) hqo g.id b (Zu G.box) G.own e)
  (r:={x:=.v (Y.nv+g.defs.length),x0:=.v (Y.nv+g.defs.length),k:=g.k,elem:=g.elem,own:=true,full:=true }) (v:=.slice (some ⟨(m.rho g.id).1,0,none⟩) g.n g.n)
  ⟨by show Y.nv+g.defs.length<Y.nv+(g.defs.length+1);omega,trivial⟩ ⟨by show Y.nv+g.defs.length<Y.nv+(g.defs.length+1);omega,trivial⟩ rfl
  (by
   show RowAt w0 w _ _ (dec (A.ev e1 (.v (Y.nv+g.defs.length))));rw[hev];refine⟨f1,?_,fun _=>rfl⟩;simp only[if_true];rw[f2,f3];exact⟨hvl,.inr ⟨(m.rho g.id).1,g.n,vs.toArray,rfl,k2,by rw[k3,G.elem],Nat.le_refl _,by have:=G.max;unfold maxLen;omega,by simpa using hvl,by rw[Mg (by rw[<- hvl];simp)]⟩⟩)
  (fun g' _ hg'=>.inl hg')
 have eq:Qb5 Y g={(({Y with nv:=Y.nv+(g.defs.length+1),boxes:=Sx.Xa3 Y.boxes g.id++List.replicate 1 none }:St).Xas Y.boxes.length (Zc {x:=.v (Y.nv+g.defs.length),x0:=.v (Y.nv+g.defs.length),k:=g.k,elem:=g.elem,own:=true,full:=true }))with tmps:=Y.tmps.set g.slot (.vl (.one (.sl Y.boxes.length))) }:=by
  unfold Qb5 St.Xas;rw[Vn];have:(Sx.Xa3 Y.boxes g.id++List.replicate 1 none).set Y.boxes.length (some (Zc {x:=.v (Y.nv+g.defs.length),x0:=.v (Y.nv+g.defs.length),k:=g.k,elem:=g.elem,own:=true,full:=true }))=Sx.Xa3 Y.boxes g.id++[some (Zc {x:=.v (Y.nv+g.defs.length),x0:=.v (Y.nv+g.defs.length),k:=g.k,elem:=g.elem,own:=true,full:=true })]:=by
   rw[List.set_append_right _ _ (by rw[Bm];exact Nat.le_refl _),Bm];simp
  simp only[this]
 have hc:=hR.cell G.cell;have hnl:Y.boxes.length<(Sx.Xa3 Y.boxes g.id++List.replicate 1 none).length:=by simp[Bm]
 refine⟨({m with env:=e1 }:M).row Y.boxes.length (.slice (some ⟨(m.rho g.id).1,0,none⟩) g.n g.n),?_,?_,b4⟩
 ·rw[eq];refine MExt.trans (m':={m with env:=e1 }) (nv':=Y.nv+(g.defs.length+1)) (al':=Y.al) ⟨b1,fun _ _=>rfl,rfl,fun _ _=>rfl,by omega,fun _ h=>h⟩ ?_;rw[hal1]at q2;exact q2
 ·rw[eq];refine q1.Xb3 g.slot _ fun v hv=>⟨by rw[Zv,if_pos ⟨rfl,hnl⟩],?_,?_⟩
  ·have he:a.eval (.tmp g.slot)=v:=by simp[Act.eval,hv]
   rw[<- he,hc.2,hat0];simp[M.row]
  ·have he:a.eval (.tmp g.slot)=v:=by simp[Act.eval,hv]
   rw[<- he,hc.2];rfl
end
end Go.Sx
