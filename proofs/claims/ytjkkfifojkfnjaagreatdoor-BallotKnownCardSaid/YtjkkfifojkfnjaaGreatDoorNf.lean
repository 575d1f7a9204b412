/- Part Nf of the proof. -/
import Derived.Test.YtjkkfifojkfnjaaGreatDoorNe
import Derived.Still
set_option linter.unusedVariables false
set_option linter.unusedSimpArgs false
namespace Go.Sx
open Go Go.RowKit
theorem gen_ok {T:List K}:∀ (ds:Defs) (e:Nat->Int) (nn:Nat),GenOk T e nn ds->∀ (i:Nat) kk d,ds[i]?=some (kk,d)->d.ok (nn+i):=by
 intro ds
 induction ds with
 | nil=>intro e nn _ i kk d h;simp at h
 | cons x ds ih =>
  intro e nn h i kk d hi
  obtain ⟨k0,d0⟩:=x
  cases i with
  | zero=>simp at hi;obtain ⟨rfl,rfl⟩:=hi;exact h.1
  | succ i=>have:=ih _ _ h.2.2 i kk d (by simpa using hi);rwa [show nn+1+i=nn+(i+1) by omega] at this
theorem told_congr {T:List K} {ds:Defs} {e e':Nat->Int} {nn:Nat} (hok:∀ (i:Nat) kk d,ds[i]?=some (kk,d)->d.ok (nn+i)) (h:Told T e nn ds) (he:∀ i,i<nn+ds.length->e' i=e i):Told T e' nn ds:=by
 intro i kk d hi
 have hl:=(List.getElem?_eq_some_iff.1 hi).1
 have h1:=h i kk d hi
 rw [he (nn+i) (by omega),D.ev_congr (hok i kk d hi) fun j hj=>he j (by omega)]
 exact h1
section
variable {P:Program} {T:List K} {w0:World} {m:M} {Y:St} {a:Act} {w:World} {o:Oper} {nn nid:Nat} {p:Plan} {K:Act->World->Prop} {Q:Exit->Act->World->Prop} {goal:Gl} {t:Tree}
theorem takeSh_nv (nv':Nat) (nn:Nat) (s:Sh) (v:V):takeSh {Y with nv:=nv' } nn s v=takeSh Y nn s v:=by
 cases s <;> cases v <;> (try rfl)
theorem takeRs_nv (nv':Nat):∀ (cs:List C) (nn:Nat),takeRs {Y with nv:=nv' } nn cs=takeRs Y nn cs
 | [],_=>rfl
 | c::cs,nn=>by
  unfold takeRs
  rw [takeSh_nv]
  split
  ·rw [takeRs_nv nv' cs]
  ·rfl
theorem takeArg_nv (nv':Nat) (nn:Nat) (s:Sh) (v:V):takeArg {Y with nv:=nv' } nn s v=takeArg Y nn s v:=by
 unfold takeArg
 rw [takeSh_nv]
 split
 ·unfold takeLl
  split
  ·rfl
  ·rfl
  ·rename_i id off n c
   have e:({Y with nv:=nv' }:St).box id=Y.box id:=rfl
   rw [e]
   split
   ·rfl
   ·rw [takeRs_nv]
  ·rfl
 ·rfl
theorem takeIns_nv (nv':Nat):∀ (ss:List Sh) (vs:List V) (nn:Nat),takeIns {Y with nv:=nv' } nn ss vs=takeIns Y nn ss vs:=by
 intro ss
 induction ss with
 | nil=>intro vs nn;cases vs <;> rfl
 | cons s ss ih=>intro vs nn;cases vs with
  | nil=>rfl
  | cons v vs=>simp only [takeIns,takeArg_nv,ih]
theorem catP_nv (nv':Nat) (op:Op):catP P {Y with nv:=nv' } nn op=catP P Y nn op:=by
 simp only [catP,srcK,takeSh_nv];rfl
theorem plan_nv (nv':Nat) (op:Op):plan P T {Y with nv:=nv' } nn nid op=plan P T Y nn nid op:=by
 cases op with
 | call c=>simp only [plan,takeIns_nv,catP_nv];rfl
 | _=>rfl
theorem plan_atoms (h:Rep w0 m Y a w) (hp:plan P T Y nn nid o.op=.ok p) (hnn:Y.nv<=nn):(∀ q∈p.reqs,∀ x∈q.2,x.ok (nn+p.defs.length))/\∀ x∈p.nz,x.ok (nn+p.defs.length):=by
 have non:p.reqs=[]->p.nz=[]->(∀ q∈p.reqs,∀ x∈q.2,x.ok (nn+p.defs.length))/\∀ x∈p.nz,x.ok (nn+p.defs.length):=fun e1 e2=>by rw [e1,e2];simp
 cases ho:o.op with
 | call c =>
  rw [ho] at hp
  simp only [plan] at hp
  split at hp
  ·cases hp
  ·rename_i args hargs
   have hvr:=args_ok h _ _ hargs
   split at hp
   ·repeat' split at hp
    all_goals (first | (cases hp;done) | (unfold okP at hp;cases hp;simp) | (cases hp;simp))
   ·repeat' split at hp
    all_goals (first | (cases hp;done) | (cases hp;simp))
   ·repeat' split at hp
    all_goals (first | (cases hp;done) | (cases hp;simp))
   ·repeat' split at hp
    all_goals (first | (cases hp;done) | (cases hp;simp))
   ·split at hp
    ·rename_i g hg
     cases hp
     refine ⟨by simp [catPl],fun x hx=>?_⟩
     simp only [catPl,List.mem_cons,List.not_mem_nil,or_false] at hx
     rcases hx with rfl | rfl <;> (simp only [A.ok,catPl,catD,List.length_append,List.length_cons,List.length_nil];omega)
    ·cases hp
   ·cases hp
   ·cases hp
   ·split at hp
    ·rename_i f caps hx
     have hfx:=h.cell hx
     split at hp
     ·split at hp
      ·cases hp
      split at hp
      ·cases hp
      ·rename_i d hdi
       split at hp
       ·cases hp
       ·cases hp
        have hall:VRels m Y.nv Y.al (args++caps.map fun p=>V.one (.ptr p.1 p.2)) (c.args.toList.map a.eval++caps.map fun p=>Value.pointer (some (m.at p.1 p.2))):=by
         exact hvr.append (caps_rel hfx.1)
        refine ⟨fun q hq=>?_,by simp⟩
        rw [List.mem_singleton.1 hq]
        exact ((takeIns_ok (T:=T) _ _ _ _ _ hdi h hall).1 hnn).2
     ·cases hp
    ·cases hp
 | binOp op t x y yt =>
  rw [ho] at hp
  simp only [plan] at hp
  split at hp
  ·rename_i u v hu hv
   have h1:=h.v_ hu
   have h2:=h.v_ hv
   split at hp
   ·rename_i q hq
    cases hp
    obtain ⟨id,r,e,n,rfl,rfl,hr,hut,hn,rfl⟩:=rowNil_spec hq
    exact ⟨by simp,by simp [A.ok]⟩
   rename_i hnone
   clear hnone
   unfold planBin at hp
   split at hp
   ·rename_i k a k' b
    have w1:∀ z,b.ok (nn+z):=fun z=>A.ok_mono h2.1.1 (by omega)
    simp only [binInt,mkP] at hp
    repeat' split at hp
    all_goals (first | (cases hp;done) | (cases hp;exact non rfl rfl) | (cases hp;exact ⟨by simp,by simpa using w1 _⟩) | (cases hp;exact ⟨by simp,by simp [A.ok]⟩))
   all_goals
    try simp only [mkP,okP] at hp
    repeat' split at hp
    all_goals (first | (cases hp;done) | (cases hp;exact non rfl rfl))
  ·cases hp
 | indexAddr t x i =>
  rw [ho] at hp
  simp only [plan,okP] at hp
  repeat' split at hp
  all_goals (first | (cases hp;done) | (cases hp;exact non rfl rfl) | (cases hp;exact ⟨by simp,by simp [inRange,inRow,inView,inPart,A.ok]⟩))
 | index t x i =>
  rw [ho] at hp
  simp only [plan,okP,partC] at hp
  repeat' split at hp
  all_goals (first | (cases hp;done) | (cases hp;exact non rfl rfl) | (cases hp;exact ⟨by simp,by simp [inRange,A.ok]⟩))
 | slice t x lo hi mx =>
  rw [ho] at hp
  simp only [plan,okP,partP,partV] at hp
  repeat' split at hp
  all_goals (first | (cases hp;done) | (cases hp;exact non rfl rfl) | (cases hp;exact ⟨by simp,by simp [A.ok,inView']⟩))
 | buildSlice t len ps =>
  refine (fun (q:p.reqs=[]/\p.nz=[])=>non q.1 q.2) ?_
  rw [ho] at hp
  simp only [plan] at hp
  split at hp
  ·rename_i q he
   cases hp
   obtain ⟨_,_,_,_,_,_,_,_,rfl⟩:=empty_spec he
   exact ⟨rfl,rfl⟩
  ·repeat' split at hp
   all_goals (first | (cases hp;done) | (cases hp;exact ⟨rfl,rfl⟩))
 | _ =>
  rw [ho] at hp
  simp only [plan,okP,partC,mkP,loadRow] at hp
  repeat' split at hp
  all_goals (first | (cases hp;done) | (cases hp;exact non rfl rfl) | (cases hp;rename_i hq;obtain ⟨_,_,_,_,_,_,_,_,_,_,_,_,_,rfl⟩:=markP_spec hq;exact non rfl rfl))
theorem reqs_holds {e:Nat->Int}:∀ (l:List (Nat×List A)),(reqs l t).holds T goal e->(∀ q∈l,match T[q.1]? with | some X=>X.pre (q.2.map (·.ev e)) | none=>False)/\t.holds T goal e:=by
 intro l
 induction l with
 | nil=>intro h;exact ⟨by simp,h⟩
 | cons q l ih =>
  intro h
  obtain ⟨g,as⟩:=q
  obtain ⟨h1,h2⟩:=h
  obtain ⟨g1,g2⟩:=ih h2
  exact ⟨by simp only [List.mem_cons,forall_eq_or_imp];exact ⟨h1,g1⟩,g2⟩
theorem nzs_holds {e:Nat->Int}:∀ (l:List A),(nzs l t).holds T goal e->(∀ x∈l,x.ev e≠0)/\t.holds T goal e:=by
 intro l
 induction l with
 | nil=>intro h;exact ⟨by simp,h⟩
 | cons q l ih =>
  intro h
  obtain ⟨h1,h2⟩:=h
  obtain ⟨g1,g2⟩:=ih h2
  exact ⟨by simp only [List.mem_cons,forall_eq_or_imp];exact ⟨h1,g1⟩,g2⟩
structure Fine (T:List Sx.K) (e:Nat->Int) (nn:Nat) (p:Plan):Prop where
 defs:Told T e nn p.defs
 post:Told T e (nn+p.defs.length) p.post
 nz:∀ x∈p.nz,x.ev e≠0
 req:∀ q∈p.reqs,match T[q.1]? with | some X=>X.pre (q.2.map (·.ev e)) | none=>False
theorem plan_env (hT:∀ (g:Nat) X,T[g]?=some X->X.okAt P w0) (h:Rep w0 m Y a w) (hp:plan P T Y nn nid o.op=.ok p) (hnn:Y.nv<=nn) (hh:(planT nn p t).holds T goal m.env) :
  ∃ e,(∀ i,i<nn->e i=m.env i)/\Fine T e nn p/\t.holds T goal e/\(∀ i,nn+p.defs.length+p.post.length<=i->e i=m.env i):=by
 unfold planT at hh
 have g1:=plan_gen h hp hnn
 obtain ⟨e1,a1,a2,a3,a4⟩:=letts_holds _ _ _ hh g1
 obtain ⟨r1,r2⟩:=reqs_holds _ a4
 obtain ⟨z1,z2⟩:=nzs_holds _ r2
 have g2:=plan_post hT h hp hnn a1 a3 r1 z1
 obtain ⟨e2,b1,b2,b3,b4⟩:=letts_holds _ _ _ z2 g2
 obtain ⟨at1,at2⟩:=plan_atoms h hp hnn
 refine ⟨e2,fun i hi=>(b1 i (by omega)).trans (a1 i hi),⟨told_congr (gen_ok _ _ _ g1) a3 fun i hi=>b1 i hi,b3,fun x hx=>?_,fun q hq=>?_⟩,b4,fun i hi=>(b2 i hi).trans (a2 i (by omega))⟩
 ·rw [A.ev_congr (at2 x hx) fun i hi=>b1 i (by omega)];exact z1 x hx
 ·have:=r1 q hq
  rw [map_ev_congr (at1 q hq) fun i hi=>b1 i hi];exact this
theorem op_step (hT:∀ (g:Nat) X,T[g]?=some X->X.okAt P w0) (h:Rep w0 m Y a w) (hp:plan P T Y nn nid o.op=.ok p) (hnn:Y.nv<=nn) (hn:isNew p.eff=true->Y.boxes[nid]?=some none)
  (nv':Nat) (hnv:nn+p.defs.length+p.post.length<=nv') (hh:(planT nn p t).holds T goal m.env)
  (hK:∀ m' a' w',(∀ i,i<nn->m'.env i=m.env i)->Fine T m'.env nn p->MExt m Y.nv Y.al m' nv' (applyP {Y with nv:=nv' } p nid o.dst).al->Rep w0 m' (applyP {Y with nv:=nv' } p nid o.dst) a' w'->t.holds T goal m'.env->K a' w'):o.wp P a w K Q:=by
 obtain ⟨e,he,hf,ht,_⟩:=plan_env hT h hp hnn hh
 have hr:=h.names e (fun i hi=>he i (by omega)) nv' (by omega)
 have hx:MExt m Y.nv Y.al {m with env:=e } nv' Y.al:=⟨fun i hi=>he i (by omega),fun _ _=>rfl,rfl,fun _ _=>rfl,by omega,fun _ h=>h⟩
 refine op_exec hT hr (by rw [plan_nv];exact hp) hn hf.defs hf.post hnv hf.nz hf.req fun m' a' w' h1 h2 h3=>?_
 have h1':m'.env=e:=h1
 exact hK m' a' w' (by rw [h1'];exact he) (by rw [h1'];exact hf) (hx.trans h2) h3 (by rw [h1'];exact ht)
end
def C.okN (N:Nat) (al:Nat->Bool):C->Prop
 | .int _ a=>a.ok N
 | .bool a=>a.ok N
 | .ptr id _=>al id=true
 | .slice id _ _ _=>al id=true
 | .fn _ caps=>∀ p∈caps,al p.1=true
 | .ptrS id _ i _=>al id=true/\i.ok N
 | .sl id=>al id=true
 | .lp id i _=>al id=true/\i.ok N
 | .slv id lo hi _=>al id=true/\lo.ok N/\hi.ok N
 | .sv a=>a.ok N
 | .slS id _ hi _=>al id=true/\hi.ok N
 | .ll a=>a.ok N
 | .rol a=>a.ok N
 | .llp a i=>a.ok N/\i.ok N
 | _=>True
def V.okN (N:Nat) (al:Nat->Bool) (v:V):Prop:=∀ c∈v.cells,C.okN N al c
def SV.okN (N:Nat) (al:Nat->Bool):SV->Prop
 | .vl v=>v.okN N al
 | .tup l=>∀ v∈l,v.okN N al
section
variable {m:M} {nv:Nat} {al:Nat->Bool}
theorem C.rel_okN {c:C} {v:Value} (h:c.rel m nv al v):c.okN nv al:=by
 cases c <;> simp only [C.rel] at h <;> simp only [C.okN]
 case int=>exact h.1.1
 case bool=>exact h.1.1
 case ptr=>exact h.1
 case slice=>exact h.1
 case fn=>exact h.1
 case ptrS=>exact ⟨h.1,h.2.1.1⟩
 case sl=>exact h.1
 case lp=>exact ⟨h.1,h.2.1.1⟩
 case slv=>exact ⟨h.1,h.2.1.1,h.2.2.1.1⟩
 case sv=>exact h.1.1
 case slS=>exact ⟨h.1,h.2.1.1⟩
 case ll=>exact h.1.1
 case rol=>exact h.1.1
 case llp=>exact ⟨h.1.1,h.2.1.1⟩
theorem Rels.okN:∀ {cs:List C} {vs:List Value},Rels m nv al cs vs->∀ c∈cs,C.okN nv al c
 | [],[],_,c,hc=>by cases hc
 | c::cs,v::vs,h,d,hd=>by
  rcases List.mem_cons.1 hd with rfl | hd
  ·exact C.rel_okN h.1
  ·exact Rels.okN h.2 d hd
theorem V.rel_okN {x:V} {v:Value} (h:x.rel m nv al v):x.okN nv al:=by
 cases x with
 | one c=>intro d hd;simp only [V.cells,List.mem_singleton] at hd;subst hd;exact C.rel_okN h
 | agg cs=>obtain ⟨vs,_,hr⟩:=h;exact Rels.okN hr
theorem VRels.okN:∀ {l:List V} {vs:List Value},VRels m nv al l vs->∀ v∈l,v.okN nv al
 | [],[],_,c,hc=>by cases hc
 | c::cs,v::vs,h,d,hd=>by
  rcases List.mem_cons.1 hd with rfl | hd
  ·exact V.rel_okN h.1
  ·exact VRels.okN h.2 d hd
theorem SV.rel_okN {x:SV} {v:Value} (h:x.rel m nv al v):x.okN nv al:=by
 cases x with
 | vl x=>exact V.rel_okN h
 | tup l=>obtain ⟨vs,_,hr⟩:=h;exact VRels.okN hr
variable {N nv':Nat} {al':Nat->Bool} {E:Nat->Int}
theorem C.rel_cut {c:C} {v:Value} (h:c.rel m nv al v) (hk:c.okN N al') (hE:∀ i,i<N->E i=m.env i) (hN:N<=nv'):c.rel {m with env:=E } nv' al' v:=by
 cases c <;> simp only [C.rel] at h ⊢ <;> simp only [C.okN] at hk
 case int k a =>
  obtain ⟨h1,h2,h3⟩:=h
  rw [A.ev_congr hk hE]
  exact ⟨A.wf_congr (nv:=N) ⟨hk,h1.2⟩ hE hN,h2,h3⟩
 case bool a =>
  obtain ⟨h1,h2,h3⟩:=h
  rw [A.ev_congr hk hE]
  exact ⟨A.wf_congr (nv:=N) ⟨hk,h1.2⟩ hE hN,h2,h3⟩
 case sv a =>
  obtain ⟨h1,h2,h3⟩:=h
  rw [A.ev_congr hk hE]
  exact ⟨A.wf_congr (nv:=N) ⟨hk,h1.2⟩ hE hN,h2,h3⟩
 case ptr=>exact ⟨hk,h.2⟩
 case slice=>exact ⟨hk,h.2⟩
 case sl=>exact ⟨hk,h.2⟩
 case lp id i k =>
  obtain ⟨h1,h2,h3,h4⟩:=h
  rw [A.ev_congr hk.2 hE]
  exact ⟨hk.1,A.wf_congr (nv:=N) ⟨hk.2,h2.2⟩ hE hN,h3,h4⟩
 case slv id lo hi k =>
  obtain ⟨h1,h2,h3,h4,h5⟩:=h
  rw [A.ev_congr hk.2.1 hE,A.ev_congr hk.2.2 hE]
  exact ⟨hk.1,A.wf_congr (nv:=N) ⟨hk.2.1,h2.2⟩ hE hN,A.wf_congr (nv:=N) ⟨hk.2.2,h3.2⟩ hE hN,h4,h5⟩
 case fn=>exact ⟨hk,h.2⟩
 case ptrS=>rw [A.ev_congr hk.2 hE];exact ⟨hk.1,A.wf_congr (nv:=N) ⟨hk.2,h.2.1.2⟩ hE hN,h.2.2⟩
 case slS=>rw [A.ev_congr hk.2 hE];exact ⟨hk.1,A.wf_congr (nv:=N) ⟨hk.2,h.2.1.2⟩ hE hN,h.2.2⟩
 case ll a =>
  obtain ⟨h1,h2⟩:=h
  rw [A.ev_congr hk hE]
  exact ⟨A.wf_congr (nv:=N) ⟨hk,h1.2⟩ hE hN,h2⟩
 case rol a =>
  obtain ⟨h1,h2⟩:=h
  rw [A.ev_congr hk hE]
  exact ⟨A.wf_congr (nv:=N) ⟨hk,h1.2⟩ hE hN,h2⟩
 case llp a i =>
  obtain ⟨h1,h2,h3⟩:=h
  rw [A.ev_congr hk.1 hE,A.ev_congr hk.2 hE]
  exact ⟨A.wf_congr (nv:=N) ⟨hk.1,h1.2⟩ hE hN,A.wf_congr (nv:=N) ⟨hk.2,h2.2⟩ hE hN,h3⟩
 all_goals exact h
theorem Rels.cut (hE:∀ i,i<N->E i=m.env i) (hN:N<=nv'):∀ {cs:List C} {vs:List Value},Rels m nv al cs vs->(∀ c∈cs,C.okN N al' c)->Rels {m with env:=E } nv' al' cs vs
 | [],[],_,_=>trivial
 | c::_,_::_,h,hk=>⟨C.rel_cut h.1 (hk c (List.mem_cons_self ..)) hE hN,Rels.cut hE hN h.2 fun d hd=>hk d (List.mem_cons_of_mem _ hd)⟩
theorem V.rel_cut {x:V} {v:Value} (h:x.rel m nv al v) (hk:x.okN N al') (hE:∀ i,i<N->E i=m.env i) (hN:N<=nv'):x.rel {m with env:=E } nv' al' v:=by
 cases x with
 | one c=>exact C.rel_cut h (hk c (List.mem_singleton.2 rfl)) hE hN
 | agg cs=>obtain ⟨vs,rfl,hr⟩:=h;exact ⟨vs,rfl,hr.cut hE hN hk⟩
theorem SV.rel_cut {x:SV} {v:Value} (h:x.rel m nv al v) (hk:x.okN N al') (hE:∀ i,i<N->E i=m.env i) (hN:N<=nv'):x.rel {m with env:=E } nv' al' v:=by
 cases x with
 | vl x=>exact V.rel_cut h hk hE hN
 | tup l =>
  obtain ⟨vs,rfl,hr⟩:=h
  refine ⟨vs,rfl,?_⟩
  have key:∀ (l:List V) (vs:List Value),VRels m nv al l vs->(∀ v∈l,v.okN N al')->VRels {m with env:=E } nv' al' l vs:=by
   intro l
   induction l with
   | nil=>intro vs h _;match vs,h with | [],_=>trivial
   | cons x l ih=>intro vs h hk;match vs,h with
    | u::us,h=>exact ⟨V.rel_cut h.1 (hk x (List.mem_cons_self ..)) hE hN,ih us h.2 fun v hv=>hk v (List.mem_cons_of_mem _ hv)⟩
  exact key l vs hr hk
end
def okL:L->Bool | .cst c=>cstB c | _=>true
theorem okL_of {ls:List L} (h:ls.all noCst=true):ls.all okL=true:=by
 rw [List.all_eq_true] at *
 intro l hl
 have:=h l hl
 cases l <;> first | rfl | (simp [noCst] at this)
theorem in_rel {m:M} {nv:Nat} {al:Nat->Bool}:∀ (ls:List L) (nn:Nat) (xs:List Int),ls.all okL=true->lhas ls xs->(∀ (i:Nat) x,xs[i]?=some x->m.env (nn+i)=x)->nn+lcount ls<=nv ->
  Rels m nv al (inLs nn ls) (lvals ls xs):=by
 intro ls
 induction ls with
 | nil=>intro nn xs _ _ _ _;trivial
 | cons l ls ih =>
  intro nn xs hc hh he hle
  simp only [List.all_cons,Bool.and_eq_true] at hc
  have tail:∀ (y:Int) (ys:List Int),lhas ls ys->(∀ (i:Nat) x,(y::ys)[i]?=some x->m.env (nn+i)=x)->nn+1+lcount ls<=nv->m.env nn=y/\Rels m nv al (inLs (nn+1) ls) (lvals ls ys):=by
   intro y ys h1 h2 h3
   refine ⟨h2 0 y rfl,ih (nn+1) ys hc.2 h1 (fun i x hi=>?_) h3⟩
   have:=h2 (i+1) x (by simpa using hi)
   rwa [show nn+(i+1)=nn+1+i by omega] at this
  cases l with
  | cst c =>
   have hcr:=cst_rel (m:=m) (nv:=nv) (al:=al) c
   rw [if_pos (show cstB c=true from hc.1)] at hcr
   exact ⟨hcr,ih nn xs hc.2 hh he (by simpa [lcount,L.n] using hle)⟩
  | int k=>cases xs with
   | nil=>cases hh
   | cons y ys =>
    have hle':nn+1+lcount ls<=nv:=by simp [lcount,L.n] at hle;omega
    obtain ⟨h2,h3⟩:=tail y ys hh.2 he hle'
    exact ⟨⟨⟨show nn<nv by omega,trivial⟩,by simp only [A.ev,h2];exact hh.1,by simp only [A.ev,h2]⟩,h3⟩
  | bool=>cases xs with
   | nil=>cases hh
   | cons y ys =>
    have hle':nn+1+lcount ls<=nv:=by simp [lcount,L.n] at hle;omega
    obtain ⟨h2,h3⟩:=tail y ys hh.2 he hle'
    exact ⟨⟨⟨show nn<nv by omega,trivial⟩,by simp only [A.ev,h2];exact hh.1,by simp only [A.ev,h2]⟩,h3⟩
  | num=>cases xs with
   | nil=>cases hh
   | cons y ys =>
    have hle':nn+1+lcount ls<=nv:=by simp [lcount,L.n] at hle;omega
    obtain ⟨h2,h3⟩:=tail y ys hh.2 he hle'
    have hl:∀ q:Nat,C.rel m nv al (.int .u64 (.limb nn q)) (.int .u64 (y/p64 q%18446744073709551616)):=by
     intro q
     refine ⟨⟨show nn<nv by omega,by simp only [A.good,h2];exact hh.1⟩,?_,by simp only [A.ev,h2]⟩
     simp only [A.ev,has,lo,hi];omega
    exact Rels.append (vs:=limbs y) ⟨hl 0,hl 1,hl 2,hl 3,hl 4,hl 5,trivial⟩ h3
  | lst k=>cases xs with
   | nil=>cases hh
   | cons y ys =>
    have hle':nn+1+lcount ls<=nv:=by simp [lcount,L.n] at hle;omega
    exact (tail y ys hh.2 he hle').2
  | arr k n=>cases xs with
   | nil=>cases hh
   | cons y ys =>
    have hle':nn+1+lcount ls<=nv:=by simp [lcount,L.n] at hle;omega
    obtain ⟨h2,h3⟩:=tail y ys hh.2 he hle'
    exact Rels.append (elt_rels h2 hh.1.1 hh.1.2 (by omega)) h3
theorem eltCs_mem {k:IntKind} {nn:Nat}:∀ (n j:Nat) (c:C),c∈eltCs k nn n j->∃ i,c=.int k (.elt k nn i)
 | 0,_,c,h=>by cases h
 | n+1,j,c,h=>by
  rcases List.mem_cons.1 h with rfl | h
  ·exact ⟨_,rfl⟩
  ·exact eltCs_mem n (j+1) c h
def V.with (v:V) (cs:List C):V:=match v with | .one _=>.one (cs.headD .top) | .agg _=>.agg cs
theorem setH_tmps {Y:St} {cs:List C} {h:Hp} {i:Nat} {s:SV} (hi:(setH Y cs h).tmps[i]?=some s) :
  (Y.tmps[i]?=some s/\(h=.slot i->∀ v,s≠.vl v)/\(h=.view i->∀ a,cs=[.int .i64 a]->∀ id lo hi k,s≠.vl (.one (.slv id lo hi k))))∨(h=.slot i/\∃ v,Y.tmps[i]?=some (.vl v)/\s=.vl (v.with cs)) ∨
   (h=.view i/\∃ id lo hi k a,Y.tmps[i]?=some (.vl (.one (.slv id lo hi k)))/\cs=[.int .i64 a]/\s=.vl (.one (.slv id a hi k))):=by
 cases h with
 | view t =>
  simp only [setH] at hi
  by_cases ht:t=i
  ·subst ht
   split at hi
   ·rename_i id lo hi' k hc
    have hl:=(List.getElem?_eq_some_iff.1 hc).1
    split at hi
    ·rename_i a
     simp [hl] at hi
     exact .inr (.inr ⟨rfl,id,lo,hi',k,a,hc,rfl,hi.symm⟩)
    ·rename_i hcs
     exact .inl ⟨hi,by simp,fun _ a he=>absurd he (hcs a)⟩
   ·rename_i hc
    exact .inl ⟨hi,by simp,fun _ _ _ id lo hi' k e=>hc id lo hi' k (by rw [hi,e])⟩
  ·left
   refine ⟨?_,by simp,fun h=>absurd (by injection h) ht⟩
   split at hi
   ·split at hi
    ·rwa [List.getElem?_set_ne ht] at hi
    ·exact hi
   ·exact hi
 | box t =>
  left
  refine ⟨?_,by simp,by simp⟩
  simp only [setH] at hi
  split at hi
  ·split at hi <;> exact hi
  ·exact hi
 | slot t =>
  simp only [setH] at hi
  by_cases ht:t=i
  ·subst ht
   split at hi
   ·rename_i c hc
    have hl:=(List.getElem?_eq_some_iff.1 hc).1
    simp [hl] at hi
    exact .inr (.inl ⟨rfl,_,hc,by rw [<- hi];simp [V.with]⟩)
   ·rename_i c hc
    have hl:=(List.getElem?_eq_some_iff.1 hc).1
    simp [hl] at hi
    exact .inr (.inl ⟨rfl,_,hc,hi.symm⟩)
   ·rename_i h1 h2
    left
    refine ⟨hi,fun _ v hv=>?_,by simp⟩
    subst hv
    cases v with
    | one c=>exact h1 _ hi
    | agg cs=>exact h2 _ hi
  ·left
   refine ⟨?_,fun h=>absurd (by injection h) ht,by simp⟩
   split at hi
   ·rwa [List.getElem?_set_ne ht] at hi
   ·rwa [List.getElem?_set_ne ht] at hi
   ·exact hi
theorem setH_len (Y:St) (cs:List C) (h:Hp):(setH Y cs h).tmps.length=Y.tmps.length:=by
 cases h <;> simp only [setH] <;> (repeat' split) <;> simp
def HavS (hav:List (Hp×List L)):Prop:=∀ q∈hav,q.2.all noCst=true/\∀ t,q.1=.view t->q.2=[.int .i64]
theorem isI64_ok {l:List L} (h:isI64 l=true):l=[.int .i64]:=by
 unfold isI64 at h
 split at h
 ·rfl
 ·cases h
theorem havS_of {hav:List (Hp×List L)} (ha:havOk hav=true):HavS hav:=by
 intro q hq
 simp only [havOk,List.all_eq_true,Bool.and_eq_true] at ha
 obtain ⟨h1,h2⟩:=ha q hq
 refine ⟨by simpa [List.all_eq_true] using h1,fun t ht=>?_⟩
 rw [ht] at h2
 simp only [Bool.and_eq_true] at h2
 exact isI64_ok h2.1
theorem inLs_noSlv:∀ (ls:List L) (nn:Nat),ls.all noCst=true->∀ c∈inLs nn ls,∀ id lo hi k,c≠.slv id lo hi k:=by
  intro ls
  induction ls with
  | nil=>intro nn _ c hc;cases hc
  | cons l ls ih =>
    intro nn ha c hc id lo hi k
    simp only [List.all_cons,Bool.and_eq_true] at ha
    cases l with
    | cst c=>simp [noCst] at ha
    | int k =>
               rcases List.mem_cons.1 hc with rfl | hc
               · simp
               · exact ih _ ha.2 c hc _ _ _ _
    | bool =>
              rcases List.mem_cons.1 hc with rfl | hc
              · simp
              · exact ih _ ha.2 c hc _ _ _ _
    | num =>
             rcases List.mem_append.1 hc with hc | hc
             · simp only [List.mem_cons,List.not_mem_nil,or_false] at hc
               rcases hc with rfl | rfl | rfl | rfl | rfl | rfl <;> simp
             · exact ih _ ha.2 c hc _ _ _ _
    | lst k=>exact ih _ ha.2 c hc _ _ _ _
    | arr k' n =>
                  rcases List.mem_append.1 hc with hc | hc
                  · obtain ⟨i,rfl⟩:=eltCs_mem _ _ _ hc;simp
                  · exact ih _ ha.2 c hc _ _ _ _
theorem putH_tmps:∀ (hav:List (Hp×List L)) (nn:Nat) (Y:St) (i:Nat) (s:SV),HavS hav->(putH Y nn hav).tmps[i]?=some s ->
  (Y.tmps[i]?=some s/\((∃ q∈hav,q.1=.slot i)->∀ v,s≠.vl v)/\((∃ q∈hav,q.1=.view i)->∀ id lo hi k,s≠.vl (.one (.slv id lo hi k)))) ∨
  (∃ (j:Nat) (ls:List L),hav[j]?=some (.slot i,ls)/\∃ v,Y.tmps[i]?=some (.vl v)/\s=.vl (v.with (inLs (nn+hcount (hav.take j)) ls))) ∨
  ∃ (j:Nat),hav[j]?=some (.view i,[.int .i64])/\∃ id lo hi k,Y.tmps[i]?=some (.vl (.one (.slv id lo hi k)))/\s=.vl (.one (.slv id (.var (nn+hcount (hav.take j))) hi k)):=by
 intro hav
 induction hav with
 | nil=>intro nn Y i s _ h;exact .inl ⟨h,by simp,by simp⟩
 | cons q hav ih =>
  intro nn Y i s hS h
  obtain ⟨hp,ls⟩:=q
  have hS':HavS hav:=fun q hq=>hS q (List.mem_cons_of_mem _ hq)
  obtain ⟨hn,hvw⟩:=hS (hp,ls) (List.mem_cons_self ..)
  have e:∀ j,nn+lcount ls+hcount (hav.take j)=nn+hcount (((hp,ls)::hav).take (j+1)):=fun j=>by simp [hcount];omega
  rcases ih _ _ _ _ hS' h with ⟨h1,h2,h2'⟩ | ⟨j,ls',h1,v,h2,h3⟩ | ⟨j,h1,id,lo,hi,k,h2,h3⟩
  ·rcases setH_tmps h1 with ⟨h3,h4,h4'⟩ | ⟨h3,v,h4,h5⟩ | ⟨h3,id,lo,hi,k,a,h4,h5,h6⟩
   ·left
    refine ⟨h3,fun hex v=>?_,fun hex id lo hi k=>?_⟩
    ·obtain ⟨q,hq,hq2⟩:=hex
     rcases List.mem_cons.1 hq with rfl | hq
     ·exact h4 hq2 v
     ·exact h2 ⟨q,hq,hq2⟩ v
    ·obtain ⟨q,hq,hq2⟩:=hex
     rcases List.mem_cons.1 hq with rfl | hq
     ·have:=hvw _ hq2
      simp only at this
      subst this
      exact h4' hq2 _ rfl id lo hi k
     ·exact h2' ⟨q,hq,hq2⟩ id lo hi k
   ·right;left
    exact ⟨0,ls,by simp [h3],v,h4,by simpa [hcount] using h5⟩
   ·right;right
    have:=hvw _ h3
    simp only at this
    subst this
    refine ⟨0,by simp [h3],id,lo,hi,k,h4,?_⟩
    simp only [inLs,List.cons.injEq,C.int.injEq,true_and,and_true] at h5
    rw [h6,<- h5];simp [hcount]
  ·right;left
   refine ⟨j+1,ls',by simpa using h1,?_⟩
   rw [e] at h3
   rcases setH_tmps h2 with ⟨h4,_⟩ | ⟨h4,v',h5,h6⟩ | ⟨h4,id,lo,hi,k,a,h5,h6,h7⟩
   ·exact ⟨v,h4,h3⟩
   ·injection h6 with h6
    subst h6
    refine ⟨v',h5,?_⟩
    rw [h3]
    cases v' <;> rfl
   ·injection h7 with h7
    subst h7
    exact ⟨_,h5,h3⟩
  ·right;right
   refine ⟨j+1,by simpa using h1,?_⟩
   rw [e] at h3
   rcases setH_tmps h2 with ⟨h4,_⟩ | ⟨h4,v',h5,h6⟩ | ⟨h4,id',lo',hi',k',a,h5,h6,h7⟩
   ·exact ⟨id,lo,hi,k,h4,h3⟩
   ·exfalso
    injection h6 with h6
    cases v' with
    | agg cs=>simp [V.with] at h6
    | one c =>
     simp only [V.with,V.one.injEq] at h6
     cases hl:inLs nn ls with
     | nil=>rw [hl] at h6;cases h6
     | cons c cs=>rw [hl] at h6;exact inLs_noSlv ls nn hn c (by rw [hl];exact List.mem_cons_self ..) _ _ _ _ h6.symm
   ·injection h7 with h7
    injection h7 with h7
    injection h7 with e1 e2 e3 e4
    subst e1 e3 e4
    exact ⟨id,lo',hi,k,h5,h3⟩
theorem setH_boxes {Y:St} {cs:List C} {h:Hp} {id:Nat} {b:Box} (hi:(setH Y cs h).boxes[id]?=some (some b)) :
  Y.boxes[id]?=some (some b)∨∃ t b0,h=.box t/\Y.get t=.vl (.one (.ptr id 0))/\Y.boxes[id]?=some (some b0)/\b={b0 with cells:=cs }:=by
 cases h with
 | slot t =>
  left
  simp only [setH] at hi
  repeat' split at hi
  all_goals exact hi
 | view t =>
  left
  simp only [setH] at hi
  repeat' split at hi
  all_goals exact hi
 | box t =>
  simp only [setH] at hi
  split at hi
  ·rename_i id' hg
   split at hi
   ·rename_i b0 hb
    have hb':=box_some hb
    have hl:=(List.getElem?_eq_some_iff.1 hb').1
    by_cases he:id'=id
    ·subst he
     simp [hl] at hi
     exact .inr ⟨t,b0,rfl,hg,hb',hi.symm⟩
    ·rw [List.getElem?_set_ne he] at hi
     exact .inl hi
   ·exact .inl hi
  ·exact .inl hi
theorem putH_row:∀ (hav:List (Hp×List L)) (nn:Nat) (Y:St) (id:Nat) (b:Box),(putH Y nn hav).boxes[id]?=some (some b)->∃ b0,Y.boxes[id]?=some (some b0)/\b.row=b0.row
 | [],nn,Y,id,b,h=>⟨b,h,rfl⟩
 | (hp,ls)::hav,nn,Y,id,b,h=>by
  obtain ⟨b1,h1,h2⟩:=putH_row hav _ _ _ _ h
  rcases setH_boxes h1 with h3 | ⟨t,b0,_,_,h3,h4⟩
  ·exact ⟨b1,h3,h2⟩
  ·exact ⟨b0,h3,by rw [h2,h4]⟩
theorem putH_fz:∀ (hav:List (Hp×List L)) (nn:Nat) (Y:St) (id:Nat) (b:Box),(putH Y nn hav).boxes[id]?=some (some b)->∃ b0,Y.boxes[id]?=some (some b0)/\b.fz=b0.fz
 | [],nn,Y,id,b,h=>⟨b,h,rfl⟩
 | (hp,ls)::hav,nn,Y,id,b,h=>by
  obtain ⟨b1,h1,h2⟩:=putH_fz hav _ _ _ _ h
  rcases setH_boxes h1 with h3 | ⟨t,b0,_,_,h3,h4⟩
  ·exact ⟨b1,h3,h2⟩
  ·exact ⟨b0,h3,by rw [h2,h4]⟩
theorem setH_get_eq {Y:St} {cs:List C} {h:Hp} {t:Nat} (hne:h≠.slot t) (hne':h≠.view t):(setH Y cs h).get t=Y.get t:=by
 simp only [St.get_def]
 cases h with
 | box u =>
  simp only [setH];repeat' split
  all_goals rfl
 | slot u =>
  have hut:u≠t:=fun e=>hne (by rw [e])
  simp only [setH]
  repeat' split
  all_goals simp [List.getD_eq_getElem?_getD,List.getElem?_set_ne hut]
 | view u =>
  have hut:u≠t:=fun e=>hne' (by rw [e])
  simp only [setH]
  repeat' split
  all_goals simp [List.getD_eq_getElem?_getD,List.getElem?_set_ne hut]
theorem putH_get_eq:∀ (hav:List (Hp×List L)) (nn:Nat) (Y:St) (t:Nat),(∀ q∈hav,q.1≠.slot t/\q.1≠.view t)->(putH Y nn hav).get t=Y.get t:=by
 intro hav
 induction hav with
 | nil=>intro nn Y t _;rfl
 | cons q hav ih =>
  intro nn Y t h
  obtain ⟨hp,ls⟩:=q
  simp only [putH]
  rw [ih _ _ _ fun q hq=>h q (List.mem_cons_of_mem _ hq),setH_get_eq (h (hp,ls) (List.mem_cons_self ..)).1 (h (hp,ls) (List.mem_cons_self ..)).2]
theorem putH_boxes:∀ (hav:List (Hp×List L)) (nn:Nat) (Y:St) (id:Nat) (b:Box),(∀ q∈hav,∀ t,q.1=.box t->∀ q'∈hav,q'.1≠.slot t/\q'.1≠.view t)->(putH Y nn hav).boxes[id]?=some (some b) ->
  ∃ b0,Y.boxes[id]?=some (some b0)/\b.own=b0.own/\b.elem=b0.elem/\((b=b0/\∀ (j:Nat) t ls,hav[j]?=some (.box t,ls)->Y.get t≠.vl (.one (.ptr id 0))) ∨
   ∃ (j:Nat) (t:Nat) (ls:List L),hav[j]?=some (.box t,ls)/\Y.get t=.vl (.one (.ptr id 0))/\b.cells=inLs (nn+hcount (hav.take j)) ls):=by
 intro hav
 induction hav with
 | nil=>intro nn Y id b _ h;exact ⟨b,h,rfl,rfl,.inl ⟨rfl,by simp⟩⟩
 | cons q hav ih =>
  intro nn Y id b ha h
  obtain ⟨hp,ls⟩:=q
  have ha':∀ q∈hav,∀ t,q.1=.box t->∀ q'∈hav,q'.1≠.slot t/\q'.1≠.view t:=fun q hq t ht q' hq'=>ha q (List.mem_cons_of_mem _ hq) t ht q' (List.mem_cons_of_mem _ hq')
  obtain ⟨b1,h1,h2,h3,h4⟩:=ih _ _ _ _ ha' h
  have e:∀ j,nn+lcount ls+hcount (hav.take j)=nn+hcount (((hp,ls)::hav).take (j+1)):=by intro j;simp [hcount];omega
  have geq:∀ (j:Nat) t ls',hav[j]?=some (.box t,ls')->(setH Y (inLs nn ls) hp).get t=Y.get t:=fun j t ls' hj =>
   have:=ha (.box t,ls') (List.mem_cons_of_mem _ (List.mem_of_getElem? hj)) t rfl (hp,ls) (List.mem_cons_self ..)
   setH_get_eq this.1 this.2
  rcases setH_boxes h1 with h5 | ⟨t,b0,h5,h6,h7,h8⟩
  ·refine ⟨b1,h5,h2,h3,?_⟩
   rcases h4 with ⟨h4,h4'⟩ | ⟨j,t,ls',g1,g2,g3⟩
   ·by_cases hc:∃ t,hp=.box t/\Y.get t=.vl (.one (.ptr id 0))
    ·obtain ⟨t,rfl,ht⟩:=hc
     right
     refine ⟨0,t,ls,rfl,ht,?_⟩
     subst h4
     simp only [setH,ht] at h1
     have hbx:Y.box id=some b:=by simp [St.box_def,h5]
     simp only [hbx] at h1
     have hl:=(List.getElem?_eq_some_iff.1 h5).1
     simp [hl] at h1
     rw [<- h1]
     simp [hcount]
    ·left
     refine ⟨h4,fun j t ls' hj=>?_⟩
     cases j with
     | zero=>simp at hj;intro ht;exact hc ⟨t,hj.1,ht⟩
     | succ j=>rw [<- geq j t ls' (by simpa using hj)];exact h4' j t ls' (by simpa using hj)
   ·exact .inr ⟨j+1,t,ls',by simpa using g1,by rw [<- geq j t ls' g1];exact g2,by rw [<- e];exact g3⟩
  ·subst h8
   refine ⟨b0,h7,h2,h3,.inr ?_⟩
   rcases h4 with ⟨h4,_⟩ | ⟨j,t',ls',g1,g2,g3⟩
   ·exact ⟨0,t,ls,by simp [h5],h6,by rw [h4];simp [hcount]⟩
   ·exact ⟨j+1,t',ls',by simpa using g1,by rw [<- geq j t' ls' g1];exact g2,by rw [<- e];exact g3⟩
section
variable {T:List K} {w0:World} {m:M} {Y:St} {a:Act} {w:World}
theorem getH_rel (h:Rep w0 m Y a w) {hp:Hp} {cs:List C} (hg:getH Y hp=some cs):∃ vs:List Value,Rels m Y.nv Y.al cs vs:=by
 cases hp with
 | slot t =>
  simp only [getH] at hg
  split at hg
  ·rename_i v hv
   cases hg
   obtain ⟨u,_,hr⟩:=h.tmp t _ hv
   cases v with
   | one c=>exact ⟨[u],hr,trivial⟩
   | agg cs=>obtain ⟨vs,_,hr⟩:=hr;exact ⟨vs,hr⟩
  ·cases hg
 | view t =>
  simp only [getH] at hg
  split at hg
  ·rename_i id lo hi k hv
   cases hg
   obtain ⟨u,_,hr⟩:=h.tmp t _ hv
   obtain ⟨b1,b2,b3,b4,b5,b6⟩:=(show C.rel m Y.nv Y.al (.slv id lo hi k) u from hr)
   exact ⟨[.int .i64 (lo.ev m.env)],⟨b2,by simp only [has,Sx.lo,Sx.hi];omega,rfl⟩,trivial⟩
  ·cases hg
 | box t =>
  simp only [getH] at hg
  split at hg
  ·split at hg
   ·rename_i b hb
    split at hg
    ·rename_i ho
     cases hg
     obtain ⟨_,_,vs,_,hr⟩:=h.own _ _ (box_some hb) ho
     exact ⟨vs,hr⟩
    ·cases hg
   ·cases hg
  ·cases hg
theorem kk_of_lhas:∀ (ls:List L) (xs:List Int),lhas ls xs->kkHas (kksOf ls) xs:=by
 intro ls
 induction ls with
 | nil=>intro xs h;cases xs with
  | nil=>trivial
  | cons x xs=>cases h
 | cons l ls ih =>
  intro xs h
  cases l with
  | cst c=>exact ih xs h
  | int k=>cases xs with
   | nil=>cases h
   | cons x xs=>exact ⟨h.1,ih xs h.2⟩
  | bool=>cases xs with
   | nil=>cases h
   | cons x xs=>exact ⟨h.1,ih xs h.2⟩
  | num=>cases xs with
   | nil=>cases h
   | cons x xs=>exact ⟨h.1,ih xs h.2⟩
  | lst k=>cases xs with
   | nil=>cases h
   | cons x xs=>exact ⟨h.1,ih xs h.2⟩
  | arr k n=>cases xs with
   | nil=>cases h
   | cons x xs=>exact ⟨h.1,ih xs h.2⟩
theorem kk_append:∀ {ks ks':List KK} {xs ys:List Int},kkHas ks xs->kkHas ks' ys->kkHas (ks++ks') (xs++ys)
 | [],_,[],_,_,h=>h
 | _::_,_,_::_,_,h,h'=>⟨h.1,kk_append h.2 h'⟩
theorem takeH_ok (hR:Rep w0 m Y a w):∀ (hav:List (Hp×List L)) (nn:Nat) (ds:Defs) (as:List A),takeH Y nn hav=some (ds,as) ->
  (Y.nv<=nn->GenOk T m.env nn ds/\∀ x∈as,x.ok (nn+ds.length))/\as.length=hcount hav /\
  ∀ e,(∀ i,i<Y.nv->e i=m.env i)->Told T e nn ds->kkHas (hkks hav) (as.map (·.ev e)) /\
   ∀ (j:Nat) h ls,hav[j]?=some (h,ls)->∃ cs xs,getH Y h=some cs/\(∀ (i:Nat) x,xs[i]?=some x->(as.map (·.ev e))[hcount (hav.take j)+i]?=some x)/\lhas ls xs /\
    ∀ vs,Rels m Y.nv Y.al cs vs->lvals ls xs=vs:=by
 intro hav
 induction hav with
 | nil =>
  intro nn ds as h
  simp [takeH] at h
  obtain ⟨rfl,rfl⟩:=h
  exact ⟨fun _=>⟨trivial,by simp⟩,rfl,fun e _ _=>⟨trivial,by simp⟩⟩
 | cons q hav ih =>
  intro nn ds as h
  obtain ⟨hp,ls⟩:=q
  simp only [takeH] at h
  split at h
  ·cases h
  ·rename_i cs hcs
   split at h
   ·cases h
   ·rename_i d hd
    obtain ⟨d1,d2⟩:=d
    simp only at h
    split at h
    ·cases h
    ·rename_i r hr
     obtain ⟨r1,r2⟩:=r
     simp at h
     obtain ⟨rfl,rfl⟩:=h
     obtain ⟨vs0,hvs0⟩:=getH_rel hR hcs
     obtain ⟨g1,g2,g3⟩:=takeLs_ok (T:=T) _ _ _ _ _ hd m Y.nv vs0 hvs0
     obtain ⟨t1,t2,t3⟩:=ih _ _ _ hr
     refine ⟨fun hn=>⟨gen_append _ _ _ _ (g1 hn).1 fun e1 he1 _=>?_,fun x hx=>?_⟩,by simp [hcount,g2,t2],fun e he ht=>?_⟩
     ·have hR1:=hR.names e1 (fun i hi=>he1 i (by omega)) Y.nv (Nat.le_refl _)
      have key:∀ (m':M),Rep w0 m' Y a w->Y.nv<=nn+d1.length->GenOk T m'.env (nn+d1.length) r1:=by
       intro m' hm' hn'
       have:∀ (hav:List (Hp×List L)) (nn:Nat) (ds:Defs) (as:List A),takeH Y nn hav=some (ds,as)->∀ m',Rep w0 m' Y a w->Y.nv<=nn->GenOk T m'.env nn ds:=by
        intro hav
        induction hav with
        | nil=>intro nn ds as h m' _ _;simp [takeH] at h;obtain ⟨rfl,rfl⟩:=h;trivial
        | cons q hav ih =>
         intro nn ds as h m' hm' hn'
         obtain ⟨hp,ls⟩:=q
         simp only [takeH] at h
         split at h
         ·cases h
         ·rename_i cs hcs
          split at h
          ·cases h
          ·rename_i d hd
           obtain ⟨d1,d2⟩:=d
           simp only at h
           split at h
           ·cases h
           ·rename_i r hr
            obtain ⟨r1,r2⟩:=r
            simp at h
            obtain ⟨rfl,rfl⟩:=h
            obtain ⟨vs0,hvs0⟩:=getH_rel hm' hcs
            obtain ⟨g1,g2,g3⟩:=takeLs_ok (T:=T) _ _ _ _ _ hd m' Y.nv vs0 hvs0
            refine gen_append _ _ _ _ (g1 hn').1 fun e1 he1 _=>?_
            exact ih _ _ _ hr {m' with env:=e1 } (hm'.names e1 (fun i hi=>he1 i (by omega)) Y.nv (Nat.le_refl _)) (by omega)
       exact this _ _ _ _ hr m' hm' hn'
      exact key {m with env:=e1 } hR1 (by omega)
     ·rcases List.mem_append.1 hx with hx | hx
      ·exact A.ok_mono ((g1 hn).2 x hx) (by simp)
      ·exact A.ok_mono ((t1 (by omega)).2 x hx) (by simp;omega)
     ·rw [Told.append] at ht
      obtain ⟨l1,l2⟩:=g3 e he ht.1
      obtain ⟨k1,k2⟩:=t3 e he ht.2
      refine ⟨?_,fun j h' ls' hj=>?_⟩
      ·rw [List.map_append]
       exact kk_append (kk_of_lhas _ _ l2) k1
      ·cases j with
       | zero =>
        simp at hj
        obtain ⟨rfl,rfl⟩:=hj
        refine ⟨cs,d2.map (·.ev e),hcs,fun i x hi=>?_,l2,fun vs hvs=>(takeLs_ok (T:=T) _ _ _ _ _ hd m Y.nv vs hvs).2.2 e he ht.1 |>.1⟩
        have hl:=(List.getElem?_eq_some_iff.1 hi).1
        simp only [List.take_zero,hcount,Nat.zero_add,List.map_append]
        rw [List.getElem?_append_left hl]
        exact hi
       | succ j =>
        obtain ⟨cs',xs,q1,q2,q3,q4⟩:=k2 j h' ls' (by simpa using hj)
        refine ⟨cs',xs,q1,fun i x hi=>?_,q3,q4⟩
        have:=q2 i x hi
        simp only [List.take_succ_cons,hcount,List.map_append]
        rw [List.getElem?_append_right (by simp [g2];omega)]
        rw [<- this]
        congr 1
        simp [g2];omega
theorem hcount_take:∀ (hav:List (Hp×List L)) (j:Nat) h ls,hav[j]?=some (h,ls)->hcount (hav.take j)+lcount ls<=hcount hav:=by
 intro hav
 induction hav with
 | nil=>intro j h ls hj;simp at hj
 | cons q hav ih =>
  intro j h ls hj
  cases j with
  | zero=>simp at hj;subst hj;simp [hcount]
  | succ j=>have:=ih j h ls (by simpa using hj);simp [hcount];omega
def SV.okV (N:Nat) (al:Nat->Bool) (s:SV):Prop:=∃ id lo hi k,s=.vl (.one (.slv id lo hi k))/\al id=true/\A.ok N hi
theorem gen_rep {σh Y':St} {n0 N nn:Nat} {hav:List (Hp×List L)} {ds:Defs} {as:List A} {e E:Nat->Int} (hR:Rep w0 m Y' a w) (hT:takeH Y' nn hav=some (ds,as)) (he:∀ i,i<Y'.nv->e i=m.env i) (ht:Told T e nn ds)
  (ha:havOk hav=true) (hE1:∀ i,i<N->E i=m.env i) (hE2:∀ (i:Nat) x,(as.map (·.ev e))[i]?=some x->E (n0+i)=x) (hN:N<=σh.nv) (hn0:n0+hcount hav<=σh.nv) (hl:σh.tmps.length=Y'.tmps.length)
  (ht1:∀ (i:Nat) s,σh.tmps[i]?=some s->s=topS∨((putH Y' n0 hav).tmps[i]?=some s/\((∃ q∈hav,q.1=.slot i)∨((∃ q∈hav,q.1=.view i)/\s.okV N σh.al)∨s.okN N σh.al)))
  (hb1:∀ (id:Nat) b,σh.boxes[id]?=some (some b)->(putH Y' n0 hav).boxes[id]?=some (some b)/\((∃ (j:Nat) (t:Nat) (ls:List L),hav[j]?=some (.box t,ls)/\Y'.get t=.vl (.one (.ptr id 0)))∨∀ c∈b.cells,C.okN N σh.al c))
  (hkn:∀ p∈σh.kn,p.1<σh.nv/\decide (E p.1≠0)=p.2) (hgl:∀ p∈σh.gl,σh.al p.2=true/\m.rho p.2=(p.1,0)) (hrw:∀ (id:Nat) (b:Box) (r:Row),σh.boxes[id]?=some (some b)->b.row=some r->r.x.ok N/\r.x0.ok N):Rep w0 {m with env:=E } σh a w:=by
 obtain ⟨_,_,t3⟩:=takeH_ok (T:=T) hR _ _ _ _ hT
 obtain ⟨_,places⟩:=t3 e he ht
 have hS:=havS_of ha
 simp only [havOk,List.all_eq_true,Bool.and_eq_true] at ha
 have hmix:∀ q∈hav,∀ t,q.1=.view t->∀ q'∈hav,q'.1≠.slot t:=by
  intro q hq t hqt q' hq' hs
  have:=(ha q hq).2
  rw [hqt] at this
  simp only [Bool.and_eq_true,Bool.not_eq_true',List.any_eq_false] at this
  have:=this.2 q' hq'
  rw [hs] at this
  simp [isSlot0] at this
 have hcst:∀ (j:Nat) h ls,hav[j]?=some (h,ls)->ls.all noCst=true:=fun j h ls hj=>by
  have:=(ha (h,ls) (List.mem_of_getElem? hj)).1
  simpa [List.all_eq_true] using this
 have hslot:∀ q∈hav,∀ t,q.1=.box t->∀ q'∈hav,q'.1≠.slot t/\q'.1≠.view t:=by
  intro q hq t hqt q' hq'
  have:=(ha q hq).2
  rw [hqt] at this
  simp only [Bool.not_eq_true',List.any_eq_false] at this
  have:=this q' hq'
  refine ⟨fun hs=>?_,fun hs=>?_⟩ <;> (rw [hs] at this;simp [isSlot] at this)
 have hcnt:=hcount_take hav
 have fresh:∀ (j:Nat) h ls,hav[j]?=some (h,ls)->∀ cs,getH Y' h=some cs->∀ vs,Rels m Y'.nv Y'.al cs vs->Rels {m with env:=E } σh.nv σh.al (inLs (n0+hcount (hav.take j)) ls) vs:=by
  intro j h ls hj cs hcs vs hvs
  obtain ⟨cs',xs,q1,q2,q3,q4⟩:=places j h ls hj
  rw [hcs] at q1
  cases q1
  rw [<- q4 vs hvs]
  refine in_rel ls _ xs (okL_of (hcst j h ls hj)) q3 (fun i x hi=>?_) (by have:=hcnt j h ls hj;omega)
  have:=hE2 _ x (q2 i x hi)
  rwa [<- Nat.add_assoc] at this
 refine ⟨hR.defers,by rw [hl];exact hR.size,fun i s hi=>?_,hR.below,fun id b hb ho=>?_,fun id b hb ho=>?_,fun id id' b b' hb hb' ho ho' hd=>?_,hkn,hgl,fun id b r hb hr=>?_,fun id b r hb hr hro id' b' hb' ho=>?_,fun id b r id' b' r' hb hr hb' hr'=>?_,hR.base⟩
 ·rcases ht1 i s hi with rfl | ⟨h1,h2⟩
  ·have hlt:i<Y'.tmps.length:=by rw [<- hl];exact (List.getElem?_eq_some_iff.1 hi).1
   obtain ⟨u,hu,_⟩:=hR.tmp i _ (List.getElem?_eq_getElem hlt)
   exact ⟨u,hu,trivial⟩
  ·rcases putH_tmps _ _ _ _ _ hS h1 with ⟨h3,h4,h4v⟩ | ⟨j,ls,h3,v,h4,h5⟩ | ⟨j,h3,id,lo,hi',k,h4,h5⟩
   ·obtain ⟨u,hu,hr⟩:=hR.tmp i s h3
    refine ⟨u,hu,?_⟩
    rcases h2 with ⟨q,hq,hqs⟩ | ⟨hq,id,lo,hi,k,h6,_⟩ | h2
    ·exfalso
     obtain ⟨j,hj⟩:=List.mem_iff_getElem?.1 hq
     obtain ⟨q1,q2⟩:=q
     simp only at hqs
     subst hqs
     obtain ⟨cs,_,hg,_⟩:=places j _ _ hj
     simp only [getH,h3] at hg
     split at hg
     ·rename_i v hv
      simp at hv
      exact h4 ⟨_,hq,rfl⟩ v hv
     ·cases hg
    ·exact absurd h6 (h4v hq id lo hi k)
    ·exact SV.rel_cut hr h2 hE1 hN
   ·obtain ⟨u,hu,hr⟩:=hR.tmp i _ h4
    refine ⟨u,hu,?_⟩
    subst h5
    have hg:getH Y' (.slot i)=some v.cells:=by simp [getH,h4]
    cases v with
    | one c =>
     have:=fresh j _ ls h3 _ hg [u] ⟨hr,trivial⟩
     cases hin:inLs (n0+hcount (hav.take j)) ls with
     | nil=>rw [hin] at this;cases this
     | cons d ds=>rw [hin] at this;exact this.1
    | agg cs =>
     obtain ⟨vs,rfl,hr'⟩:=hr
     exact ⟨vs,rfl,fresh j _ ls h3 _ hg vs hr'⟩
   ·obtain ⟨u,hu,hr⟩:=hR.tmp i _ h4
    refine ⟨u,hu,?_⟩
    obtain ⟨b1,b2,b3,b4,b5,b6⟩:=(show C.rel m Y'.nv Y'.al (.slv id lo hi' k) u from hr)
    have hg:getH Y' (.view i)=some [.int .i64 lo]:=by simp [getH,h4]
    have hf:=fresh j _ _ h3 _ hg [.int .i64 (lo.ev m.env)] ⟨⟨b2,by simp only [has,Sx.lo,Sx.hi];omega,rfl⟩,trivial⟩
    have hf:C.rel {m with env:=E } σh.nv σh.al (.int .i64 (.var (n0+hcount (hav.take j)))) (.int .i64 (lo.ev m.env)):=hf.1
    obtain ⟨f1,f2,f3⟩:=hf
    have f3:lo.ev m.env=E (n0+hcount (hav.take j)):=by injection f3
    have hold:σh.al id=true/\hi'.ok N:=by
     subst h5
     rcases h2 with ⟨q,hq,hqs⟩ | ⟨_,id',lo',hi2,k',h6,h7,h8⟩ | h2
     ·exact absurd hqs (hmix _ (List.mem_of_getElem? h3) i rfl q hq)
     ·cases h6;exact ⟨h7,h8⟩
     ·have:=h2 _ (List.mem_singleton.2 rfl)
      exact ⟨this.1,this.2.2⟩
    subst h5
    refine ⟨hold.1,f1,A.wf_congr (nv:=N) ⟨hold.2,b3.2⟩ hE1 hN,?_,?_,b6⟩
    ·show 0<=E _/\E _<=hi'.ev E/\hi'.ev E<=_/\hi'.ev E<=_
     rw [A.ev_congr hold.2 hE1,<- f3];exact b4
    ·show isView k.sz (m.sv id) (E _).toNat (hi'.ev E).toNat u
     rw [A.ev_congr hold.2 hE1,<- f3];exact b5
 ·obtain ⟨h1,h2⟩:=hb1 id b hb
  obtain ⟨b0,g1,g2,g3,g4⟩:=putH_boxes _ _ _ _ _ hslot h1
  obtain ⟨k1,k2,vs,k3,k4⟩:=hR.own id b0 g1 (by rw [<- g2];exact ho)
  obtain ⟨b2,q1,q2⟩:=putH_fz _ _ _ _ _ h1
  have hbb:b2=b0:=by rw [g1] at q1;cases q1;rfl
  refine ⟨k1,k2,vs,by rw [g3,q2,hbb];exact k3,?_⟩
  have place:∀ (j:Nat) (t:Nat) (ls:List L),hav[j]?=some (.box t,ls)->Y'.get t=.vl (.one (.ptr id 0))->Rels {m with env:=E } σh.nv σh.al (inLs (n0+hcount (hav.take j)) ls) vs:=by
   intro j t ls hj hgt
   have hbx:Y'.box id=some b0:=by simp [St.box_def,g1]
   exact fresh j _ ls hj b0.cells (by simp [getH,hgt,hbx,<- g2,ho]) vs k4
  rcases g4 with ⟨rfl,g4⟩ | ⟨j,t,ls,g4,g5,g6⟩
  ·rcases h2 with ⟨j,t,ls,h3,h4⟩ | h2
   ·exact absurd h4 (g4 j t ls h3)
   ·exact k4.cut hE1 hN h2
  ·rw [g6];exact place j t ls g4 g5
 ·obtain ⟨h1,h2⟩:=hb1 id b hb
  obtain ⟨b0,g1,g2,g3,g4⟩:=putH_boxes _ _ _ _ _ hslot h1
  have ho0:b0.own=false:=by rw [<- g2];exact ho
  rcases hR.ro id b0 g1 ho0 with k0 | ⟨k1,k2⟩
  ·left
   rcases g4 with ⟨rfl,_⟩ | ⟨j,t,ls,g4,g5,g6⟩
   ·exact k0
   ·exfalso
    obtain ⟨cs,_,hg,_⟩:=places j _ _ g4
    have hbx:Y'.box id=some b0:=by simp [St.box_def,g1]
    simp [getH,g5,hbx,ho0] at hg
  refine .inr ⟨k1,fun i c hc=>?_⟩
  rcases g4 with ⟨rfl,g4⟩ | ⟨j,t,ls,g4,g5,g6⟩
  ·rcases h2 with ⟨j,t,ls,h3,h4⟩ | h2
   ·exact absurd h4 (g4 j t ls h3)
   ·obtain ⟨v,hv,hr⟩:=k2 i c hc
    exact ⟨v,hv,C.rel_cut hr (h2 c (List.mem_of_getElem? hc)) hE1 hN⟩
  ·exfalso
   obtain ⟨cs,_,hg,_⟩:=places j _ _ g4
   have hbx:Y'.box id=some b0:=by simp [St.box_def,g1]
   simp [getH,g5,hbx,ho0] at hg
 ·obtain ⟨h1,_⟩:=hb1 id b hb
  obtain ⟨h1',_⟩:=hb1 id' b' hb'
  obtain ⟨b0,g1,g2,_⟩:=putH_boxes _ _ _ _ _ hslot h1
  obtain ⟨b0',g1',g2',_⟩:=putH_boxes _ _ _ _ _ hslot h1'
  exact hR.inj id id' b0 b0' g1 g1' (by rw [<- g2];exact ho) (by rw [<- g2'];exact ho') hd
 ·obtain ⟨q1,q2⟩:=hrw id b r hb hr
  obtain ⟨b0,g1,g2⟩:=putH_row _ _ _ _ _ (hb1 id b hb).1
  obtain ⟨r1,r2,r3,r4⟩:=hR.rows id b0 r g1 (g2.symm.trans hr)
  exact ⟨A.wf_congr (nv:=N) ⟨q1,r1.2⟩ hE1 hN,A.wf_congr (nv:=N) ⟨q2,r2.2⟩ hE1 hN,by rw [A.ev_congr q1 hE1,A.ev_congr q2 hE1];exact r3,by rw [A.ev_congr q1 hE1];exact r4⟩
 ·obtain ⟨b0,g1,g2⟩:=putH_row _ _ _ _ _ (hb1 id b hb).1
  obtain ⟨b0',g1',g2',_⟩:=putH_boxes _ _ _ _ _ hslot (hb1 id' b' hb').1
  exact hR.rbox id b0 r g1 (g2.symm.trans hr) hro id' b0' g1' (by rw [<- g2'];exact ho)
 ·obtain ⟨b0,g1,g2⟩:=putH_row _ _ _ _ _ (hb1 id b hb).1
  obtain ⟨b0',g1',g2'⟩:=putH_row _ _ _ _ _ (hb1 id' b' hb').1
  exact hR.rsep id b0 r id' b0' r' g1 (g2.symm.trans hr) g1' (g2'.symm.trans hr')
end
section
variable {P:Program} {T:List K} {w0:World} {m:M} {Y:St} {a:Act} {w:World}
theorem wp_exists {o:Oper} {K:Act->World->Prop} (h:o.wp P a w K (fun _ _ _=>False)):∃ a' w',K a' w':=by
 unfold Oper.wp at h
 generalize (execOp a.eval o).run P w=r at h
 cases r with
 | ok n w' =>
  cases n <;> simp only [Oper.upon] at h
  case value v=>exact ⟨_,_,h⟩
  case skip=>exact ⟨_,_,h⟩
  case defer d=>exact ⟨_,_,h⟩
  case enter f args =>
   obtain ⟨e,w'',_,hR,_⟩:=h []
   cases e with
   | returned v=>exact ⟨_,_,hR⟩
   | panicked c=>exact hR.elim
   | outgrown=>obtain ⟨_,_,hq⟩:=hR;exact hq.elim
  case row r args =>
   obtain ⟨v,w'',hR,_⟩:=h (default:Frame) []
   exact ⟨_,_,hR⟩
 | halt x w'=>cases x <;> simp only [Oper.upon] at h
theorem Rep.drew (h:Rep w0 m Y a w):Rep w0 m Y a {w with drawn:=w.drawn+1 }:=h.world (Below.drew (Below.refl _ w))
theorem guard_ok (h:Rep w0 m Y a w) {all:Array Oper} {o:Oper}:(guardG all Y o=.yes->Region.wanted o (yielded all a.tmps)=true)/\(guardG all Y o=.no->Region.wanted o (yielded all a.tmps)=false):=by
 rw [guardG_def];unfold Region.wanted
 cases hg:o.guard with
 | none=>simp
 | some q =>
  obtain ⟨j,want⟩:=q
  simp only
  unfold yielded
  cases hd:(all[j]?).bind (·.dst) with
  | none=>simp
  | some t =>
   simp only [Option.bind_some]
   cases ht:Y.tmps[t]? with
   | none =>
    have:a.tmps[t]?=none:=Array.getElem?_eq_none_iff.2 (by rw [h.size];exact List.getElem?_eq_none_iff.1 ht)
    simp [this]
   | some s =>
    obtain ⟨u,hu,hr⟩:=h.tmp t s ht
    rw [hu]
    cases s with
    | tup l=>obtain ⟨vs,rfl,_⟩:=hr;simp
    | vl v =>
     cases v with
     | agg cs=>simp
     | one c =>
      cases c with
      | bool x =>
       obtain ⟨_,_,rfl⟩:=hr
       have htr:=h.truth (x:=x)
       simp only
       cases hx:truth Y x with
       | yes=>have:=htr.1 hx;cases want <;> simp [this]
       | no=>have:=htr.2 hx;cases want <;> simp [this]
       | need n=>simp
       | bad=>simp
      | _=>simp
def FineUp (T:List K) (e:Nat->Int) (nn:Nat) (p:Plan):Prop:=∀ e',(∀ i,i<nn+p.defs.length+p.post.length->e' i=e i)->Fine T e' nn p
theorem plan_env' (hT:∀ (g:Nat) X,T[g]?=some X->X.okAt P w0) {o:Oper} {nn nid:Nat} {p:Plan} {t:Tree} {goal:Gl} (h:Rep w0 m Y a w) (hp:plan P T Y nn nid o.op=.ok p) (hnn:Y.nv<=nn) (hh:(planT nn p t).holds T goal m.env) :
  ∃ e,(∀ i,i<nn->e i=m.env i)/\FineUp T e nn p/\t.holds T goal e:=by
 unfold planT at hh
 have g1:=plan_gen h hp hnn
 obtain ⟨e1,a1,a2,a3,a4⟩:=letts_holds _ _ _ hh g1
 obtain ⟨r1,r2⟩:=reqs_holds _ a4
 obtain ⟨z1,z2⟩:=nzs_holds _ r2
 have g2:=plan_post hT h hp hnn a1 a3 r1 z1
 obtain ⟨e2,b1,b2,b3,b4⟩:=letts_holds _ _ _ z2 g2
 obtain ⟨at1,at2⟩:=plan_atoms h hp hnn
 refine ⟨e2,fun i hi=>(b1 i (by omega)).trans (a1 i hi),fun e' he'=>⟨told_congr (gen_ok _ _ _ g1) a3 fun i hi=>(he' i (by omega)).trans (b1 i hi),told_congr (gen_ok _ _ _ g2) b3 fun i hi=>he' i (by omega),fun x hx=>?_,fun q hq=>?_⟩,b4⟩
 ·rw [A.ev_congr (at2 x hx) fun i hi=>(he' i (by omega)).trans (b1 i (by omega))];exact z1 x hx
 ·have:=r1 q hq
  rw [map_ev_congr (at1 q hq) fun i hi=>(he' i (by omega)).trans (b1 i hi)];exact this
theorem Rep.nv_irrel (h:Rep w0 m Y a w) (nv':Nat) (hn:Y.nv<=nv'):Rep w0 m {Y with nv:=nv' } a w:=h.names m.env (fun _ _=>rfl) nv' hn
def AStep (P:Program) (T:List K) (ops:Array Oper) (nv0 len0:Nat) (E:Nat->Int) (i:Nat) (Y Y':St):Prop :=
 match ops[i]? with
 | none=>Y'=Y
 | some o=>(guardG ops Y o=.no/\Y'=Y.put o.dst undefS) ∨
  (guardG ops Y o=.yes/\∃ p,plan P T Y (nv0+i*stride) (len0+i) o.op=.ok p/\p.defs.length+p.post.length<=stride/\Fine T E (nv0+i*stride) p/\(isNew p.eff=true->Y.boxes[len0+i]?=some none)/\Y'=applyP Y p (len0+i) o.dst)
inductive Lex (P:Program) (T:List K) (ops:Array Oper) (nv0 len0:Nat) (E:Nat->Int):List Oper->Nat->St->St->Prop
 | nil (i:Nat) (Y:St):Lex P T ops nv0 len0 E [] i Y Y
 | cons {o:Oper} {l:List Oper} {i:Nat} {Y σ1 σ2:St} (h:AStep P T ops nv0 len0 E i Y σ1) (t:Lex P T ops nv0 len0 E l (i+1) σ1 σ2):Lex P T ops nv0 len0 E (o::l) i Y σ2
theorem put_nv (Y:St) (nv':Nat) (d:Option Nat) (s:SV):({Y with nv:=nv' }:St).put d s={Y.put d s with nv:=nv' }:=by cases d <;> rfl
theorem applyP_nv (Y:St) (nv':Nat) (p:Plan) (nid:Nat) (d:Option Nat):applyP {Y with nv:=nv' } p nid d={applyP Y p nid d with nv:=nv' }:=by
 simp only [applyP_def]
 cases p.eff with
 | none=>cases d <;> rfl
 | new bx=>cases d <;> rfl
 | extv=>cases d <;> rfl
 | wr id u=>simp only;split <;> cases d <;> rfl
 | grow old bx=>cases d <;> rfl
theorem put_same (Y:St) (d:Option Nat) (s:SV):(Y.put d s).nv=Y.nv/\(Y.put d s).boxes=Y.boxes/\(Y.put d s).kn=Y.kn/\(Y.put d s).gl=Y.gl/\(Y.put d s).lvl=Y.lvl/\(Y.put d s).al=Y.al:=by cases d <;> exact ⟨rfl,rfl,rfl,rfl,rfl,rfl⟩
theorem applyP_len (Y:St) (p:Plan) (nid:Nat) (d:Option Nat):(applyP Y p nid d).boxes.length=Y.boxes.length/\(applyP Y p nid d).nv=Y.nv/\(applyP Y p nid d).lvl=Y.lvl:=by
 simp only [applyP_def]
 rw [(put_same _ _ _).2.1,(put_same _ _ _).1,(put_same _ _ _).2.2.2.2.1]
 cases p.eff with
 | none=>exact ⟨rfl,rfl,rfl⟩
 | new bx=>exact ⟨by simp,rfl,rfl⟩
 | extv=>exact ⟨rfl,rfl,rfl⟩
 | wr id u=>simp only;split <;> exact ⟨by simp,rfl,rfl⟩
 | grow old bx=>exact ⟨by simp [noRows_len],rfl,rfl⟩
theorem applyP_box (Y:St) (p:Plan) (nid:Nat) (d:Option Nat) {k:Nat} (hk:Y.boxes[k]?=some none) (hne:k≠nid):(applyP Y p nid d).boxes[k]?=some none:=by
 simp only [applyP_def]
 rw [(put_same _ _ _).2.1]
 cases p.eff with
 | none=>exact hk
 | new bx=>simp only;rw [List.getElem?_set_ne (Ne.symm hne)];exact hk
 | grow old bx=>simp only;rw [List.getElem?_set_ne (Ne.symm hne)];exact noRows_none _ hk
 | extv=>exact hk
 | wr id u =>
  simp only
  split
  ·rename_i b hb
   simp only
   by_cases he:id=k
   ·subst he;rw [hk] at hb;cases hb
   ·rw [List.getElem?_set_ne he];exact hk
  ·exact hk
def KMono (kn kn':List (Nat×Bool)):Prop:=∀ n b,lookB kn n=some b->lookB kn' n=some b
theorem truth_kn {τ:St} {kn':List (Nat×Bool)} (hk:KMono τ.kn kn') {x:A}:(truth τ x=.yes->truth {τ with kn:=kn' } x=.yes)/\(truth τ x=.no->truth {τ with kn:=kn' } x=.no):=by
 cases x with
 | lit n=>exact ⟨fun h=>h,fun h=>h⟩
 | limb n j=>exact ⟨fun h=>h,fun h=>h⟩
 | elt k n j=>exact ⟨fun h=>h,fun h=>h⟩
 | var n =>
  simp only [truth]
  cases hl:lookB τ.kn n with
  | none=>exact ⟨fun h=>by simp at h,fun h=>by simp at h⟩
  | some b=>rw [hk n b hl];exact ⟨fun h=>h,fun h=>h⟩
theorem guardG_kn {all:Array Oper} {τ:St} {kn':List (Nat×Bool)} (hk:KMono τ.kn kn') {o:Oper}:(guardG all τ o=.yes->guardG all {τ with kn:=kn' } o=.yes)/\(guardG all τ o=.no->guardG all {τ with kn:=kn' } o=.no):=by
 rw [guardG_def,guardG_def]
 cases o.guard with
 | none=>exact ⟨fun h=>h,fun h=>h⟩
 | some q =>
  obtain ⟨j,want⟩:=q
  simp only
  cases (all[j]?).bind (·.dst) with
  | none=>exact ⟨fun h=>h,fun h=>h⟩
  | some t =>
   simp only
   cases τ.tmps[t]? with
   | none=>exact ⟨fun h=>h,fun h=>h⟩
   | some s =>
    cases s with
    | tup l=>exact ⟨fun h=>h,fun h=>h⟩
    | vl v =>
     cases v with
     | agg cs=>exact ⟨fun h=>h,fun h=>h⟩
     | one c =>
      cases c with
      | bool x =>
       simp only
       have htr:=truth_kn hk (x:=x)
       cases hx:truth τ x with
       | yes=>rw [htr.1 hx];exact ⟨fun h=>h,fun h=>h⟩
       | no=>rw [htr.2 hx];exact ⟨fun h=>h,fun h=>h⟩
       | need n=>exact ⟨fun h=>by simp at h,fun h=>by simp at h⟩
       | bad=>exact ⟨fun h=>by simp at h,fun h=>by simp at h⟩
      | _=>exact ⟨fun h=>h,fun h=>h⟩
theorem takeSh_kn (kn':List (Nat×Bool)) (nn:Nat) (s:Sh) (v:V):takeSh {Y with kn:=kn' } nn s v=takeSh Y nn s v:=by
 cases s <;> cases v <;> (try rfl)
theorem takeRs_kn (kn':List (Nat×Bool)):∀ (cs:List C) (nn:Nat),takeRs {Y with kn:=kn' } nn cs=takeRs Y nn cs
 | [],_=>rfl
 | c::cs,nn=>by
  unfold takeRs
  rw [takeSh_kn]
  split
  ·rw [takeRs_kn kn' cs]
  ·rfl
theorem takeArg_kn (kn':List (Nat×Bool)) (nn:Nat) (s:Sh) (v:V):takeArg {Y with kn:=kn' } nn s v=takeArg Y nn s v:=by
 unfold takeArg
 rw [takeSh_kn]
 split
 ·unfold takeLl
  split
  ·rfl
  ·rfl
  ·rename_i id off n c
   have e:({Y with kn:=kn' }:St).box id=Y.box id:=rfl
   rw [e]
   split
   ·rfl
   ·rw [takeRs_kn]
  ·rfl
 ·rfl
theorem takeIns_kn (kn':List (Nat×Bool)):∀ (ss:List Sh) (vs:List V) (nn:Nat),takeIns {Y with kn:=kn' } nn ss vs=takeIns Y nn ss vs:=by
 intro ss
 induction ss with
 | nil=>intro vs nn;cases vs <;> rfl
 | cons s ss ih=>intro vs nn;cases vs with
  | nil=>rfl
  | cons v vs=>simp only [takeIns,takeArg_kn,ih]
theorem catP_kn (kn':List (Nat×Bool)) (nn:Nat) (op:Op):catP P {Y with kn:=kn' } nn op=catP P Y nn op:=by
 simp only [catP,srcK,takeSh_kn];rfl
theorem plan_kn {nn nid:Nat} {p:Plan} {τ:St} {kn':List (Nat×Bool)} (hk:KMono τ.kn kn') (op:Op) (h:plan P T τ nn nid op=.ok p):plan P T {τ with kn:=kn' } nn nid op=.ok p:=by
 cases op with
 | call c=>rw [<- h];simp only [plan,takeIns_kn,catP_kn];rfl
 | pick c x y =>
  have hc:({τ with kn:=kn' }:St).cell c=τ.cell c:=rfl
  have hv:∀ z,({τ with kn:=kn' }:St).val z=τ.val z:=fun _=>rfl
  simp only [plan,hc,hv] at h ⊢
  cases hcc:τ.cell c with
  | none=>rw [hcc] at h;cases h
  | some cc =>
   rw [hcc] at h
   cases cc with
   | bool t =>
    simp only at h ⊢
    have htr:=truth_kn hk (x:=t)
    cases ht:truth τ t with
    | yes=>rw [ht] at h;rw [htr.1 ht];exact h
    | no=>rw [ht] at h;rw [htr.2 ht];exact h
    | need n=>rw [ht] at h;cases h
    | bad=>rw [ht] at h;cases h
   | _=>cases h
 | _=>exact h
theorem put_kn (Y:St) (kn':List (Nat×Bool)) (d:Option Nat) (s:SV):({Y with kn:=kn' }:St).put d s={Y.put d s with kn:=kn' }:=by cases d <;> rfl
theorem applyP_kn (Y:St) (kn':List (Nat×Bool)) (p:Plan) (nid:Nat) (d:Option Nat):applyP {Y with kn:=kn' } p nid d={applyP Y p nid d with kn:=kn' }:=by
 simp only [applyP_def]
 cases p.eff with
 | none=>cases d <;> rfl
 | new bx=>cases d <;> rfl
 | extv=>cases d <;> rfl
 | wr id u=>simp only;split <;> cases d <;> rfl
 | grow old bx=>cases d <;> rfl
theorem applyP_knSame (Y:St) (p:Plan) (nid:Nat) (d:Option Nat):(applyP Y p nid d).kn=Y.kn:=by
 simp only [applyP_def]
 rw [(put_same _ _ _).2.2.1]
 cases p.eff with
 | wr id u=>simp only;split <;> rfl
 | _=>rfl
theorem lex_ok (hT:∀ (g:Nat) X,T[g]?=some X->X.okAt P w0) {all:Array Oper} {nv0 len0 nv1:Nat} {kk:St->Tree} {goal:Gl}:∀ (fuel:Nat) (l:List Oper) (i:Nat) (τ:St),(∀ j,l[j]?=all[i+j]?)->τ.nv=nv1 ->
  nv0+(i+l.length)*stride<=nv1->(∀ k,i<=k->k<i+l.length->τ.boxes[len0+k]?=some none) ->
  ∀ (m:M) (a:Act) (w:World),Rep w0 m {τ with nv:=nv0+i*stride } a w->(lexK P T all nv0 len0 fuel l i τ kk).holds T goal m.env ->
  ∃ E Y',(∀ j,j<nv0+i*stride->E j=m.env j)/\Lex P T all nv0 len0 E l i {τ with kn:=Y'.kn } Y'/\(kk Y').holds T goal E/\Y'.nv=nv1/\Y'.lvl=τ.lvl/\KMono τ.kn Y'.kn/\(∀ p∈Y'.kn,p∈τ.kn∨(p.1<nv1/\decide (E p.1≠0)=p.2)):=by
 intro fuel
 induction fuel with
 | zero=>intro l i τ _ _ _ _ m a w _ hh;exact hh.elim
 | succ fuel ih =>
  intro l i τ hl hnv hle hbx m a w hR hh
  cases l with
  | nil=>exact ⟨m.env,τ,fun _ _=>rfl,.nil _ _,hh,hnv,rfl,fun _ _ h=>h,fun _ h=>.inl h⟩
  | cons o l =>
   have hoi:all[i]?=some o:=by simpa using (hl 0).symm
   have hl':∀ j,l[j]?=all[i+1+j]?:=fun j=>by have:=hl (j+1);rw [show i+(j+1)=i+1+j by omega] at this;simpa using this
   have hle':nv0+(i+1+l.length)*stride<=nv1:=by simp only [List.length_cons] at hle;rw [show i+1+l.length=i+(l.length+1) by omega];exact hle
   have hmul:(i+1)*stride=i*stride+stride:=by rw [Nat.add_mul,Nat.one_mul]
   have hle0:nv0+i*stride<=nv1:=by
    have:=Nat.mul_le_mul_right stride (show i<=i+(o::l).length by omega)
    omega
   have learn:∀ v,(if decide (v<nv0+i*stride)&&(lookB τ.kn v).isNone then Tree.split v (lexK P T all nv0 len0 fuel (o::l) i (τ.know v true) kk) (lexK P T all nv0 len0 fuel (o::l) i (τ.know v false) kk) else .bad 202 o.pos).holds T goal m.env ->
     ∃ E Y',(∀ j,j<nv0+i*stride->E j=m.env j)/\Lex P T all nv0 len0 E (o::l) i {τ with kn:=Y'.kn } Y'/\(kk Y').holds T goal E/\Y'.nv=nv1/\Y'.lvl=τ.lvl/\KMono τ.kn Y'.kn/\(∀ p∈Y'.kn,p∈τ.kn∨(p.1<nv1/\decide (E p.1≠0)=p.2)):=by
    intro v hs
    split at hs
    ·rename_i hc
     simp only [Bool.and_eq_true,decide_eq_true_eq,Option.isNone_iff_eq_none] at hc
     obtain ⟨hv,hnone⟩:=hc
     have go:∀ b,decide (m.env v≠0)=b->(lexK P T all nv0 len0 fuel (o::l) i (τ.know v b) kk).holds T goal m.env->∃ E Y',(∀ j,j<nv0+i*stride->E j=m.env j)/\Lex P T all nv0 len0 E (o::l) i {τ with kn:=Y'.kn } Y'/\(kk Y').holds T goal E/\Y'.nv=nv1/\Y'.lvl=τ.lvl/\KMono τ.kn Y'.kn/\(∀ p∈Y'.kn,p∈τ.kn∨(p.1<nv1/\decide (E p.1≠0)=p.2)):=by
      intro b hb hh'
      have hRk:Rep w0 m {τ.know v b with nv:=nv0+i*stride } a w:=⟨hR.defers,hR.size,hR.tmp,hR.below,hR.own,hR.ro,hR.inj,fun p hp=>by
       rcases List.mem_cons.1 hp with rfl | hp
       ·exact ⟨hv,hb⟩
       ·exact hR.kn p hp,hR.gl,hR.rows,hR.rbox,hR.rsep,hR.base⟩
      obtain ⟨E,Y',e1,e2,e3,e4,e5,e6,e7⟩:=ih (o::l) i (τ.know v b) hl hnv hle hbx m a w hRk hh'
      refine ⟨E,Y',e1,e2,e3,e4,e5,fun n b' hn=>e6 n b' ?_,fun p hp=>?_⟩
      ·simp only [St.know,lookB]
       by_cases hvn:v=n
       ·subst hvn;rw [hnone] at hn;cases hn
       ·rw [if_neg (by simpa using hvn)];exact hn
      ·rcases e7 p hp with h | h
       ·rcases List.mem_cons.1 h with rfl | h
        ·exact .inr ⟨by simp only;omega,by simp only;rw [e1 v hv];exact hb⟩
        ·exact .inl h
       ·exact .inr h
     by_cases hz:m.env v=0
     ·exact go false (by simp [hz]) (hs.2 hz)
     ·exact go true (by simp [hz]) (hs.1 hz)
    ·exact hs.elim
   unfold lexK at hh
   simp only at hh
   have gnv:guardG all {τ with nv:=nv0+i*stride } o=guardG all τ o:=rfl
   have hgd:=guard_ok hR (all:=all) (o:=o)
   rw [gnv] at hgd
   cases hg:guardG all τ o with
   | bad=>rw [hg] at hh;exact hh.elim
   | need n=>rw [hg] at hh;exact learn n hh
   | no =>
    rw [hg] at hh
    simp only at hh
    have hput:=hR.put (s:=undefS) (v:=undef) ⟨[],rfl,trivial⟩ o.dst
    rw [put_nv] at hput
    have hput':=hput.nv_irrel (nv0+(i+1)*stride) (by show nv0+i*stride<=_;omega)
    obtain ⟨E,Y',e1,e2,e3,e4,e5,e6,e7⟩:=ih l (i+1) (τ.put o.dst undefS) hl' (by rw [(put_same _ _ _).1];exact hnv) hle' (fun k h1 h2=>by rw [(put_same _ _ _).2.1];exact hbx k (by omega) (by simp only [List.length_cons];omega)) m _ w hput' hh
    rw [(put_same _ _ _).2.2.1] at e6 e7
    refine ⟨E,Y',fun j hj=>e1 j (by omega),.cons ?_ e2,e3,e4,by rw [e5,(put_same _ _ _).2.2.2.2.1],e6,e7⟩
    unfold AStep
    rw [hoi]
    exact .inl ⟨(guardG_kn e6).2 hg,(put_kn _ _ _ _).symm⟩
   | yes =>
    rw [hg] at hh
    simp only at hh
    cases hp:plan P T τ (nv0+i*stride) (len0+i) o.op with
    | need n=>rw [hp] at hh;exact learn n hh
    | bad n=>rw [hp] at hh;exact hh.elim
    | call f args=>rw [hp] at hh;exact hh.elim
    | ok p =>
     rw [hp] at hh
     simp only at hh
     split at hh
     ·rename_i hst
      have hp':plan P T {τ with nv:=nv0+i*stride } (nv0+i*stride) (len0+i) o.op=.ok p:=by rw [plan_nv];exact hp
      obtain ⟨e,he1,he2,he3⟩:=plan_env' hT hR hp' (Nat.le_refl _) hh
      have hnew:isNew p.eff=true->τ.boxes[len0+i]?=some none:=fun _=>hbx i (by omega) (by simp)
      have hR1:=hR.names e (fun j hj=>he1 j hj) (nv0+(i+1)*stride) (by show nv0+i*stride<=_;omega)
      have hf:=he2 e (fun _ _=>rfl)
      have hex:=wp_exists (op_exec (Q:=fun _ _ _=>False) (K:=fun a' w'=>∃ m',m'.env=e/\Rep w0 m' (applyP {τ with nv:=nv0+(i+1)*stride } p (len0+i) o.dst) a' w') hT hR1
       (show plan P T {τ with nv:=nv0+(i+1)*stride } (nv0+i*stride) (len0+i) o.op=.ok p by rw [plan_nv];exact hp) hnew hf.defs hf.post (by show _<=nv0+(i+1)*stride;omega) hf.nz hf.req
       (fun m' a' w' h1 _ h3=>⟨m',h1,h3⟩))
      obtain ⟨a',w',m',hm',hR2⟩:=hex
      rw [applyP_nv] at hR2
      obtain ⟨E,Y',e1,e2,e3,e4,e5,e6,e7⟩:=ih l (i+1) (applyP τ p (len0+i) o.dst) hl' (by rw [(applyP_len _ _ _ _).2.1];exact hnv) hle'
       (fun k h1 h2=>applyP_box _ _ _ _ (hbx k (by omega) (by simp only [List.length_cons];omega)) (by omega)) m' a' w' hR2 (by rw [hm'];exact he3)
      rw [applyP_knSame] at e6 e7
      refine ⟨E,Y',fun j hj=>by rw [e1 j (by omega),hm'];exact he1 j hj,.cons ?_ e2,e3,e4,by rw [e5,(applyP_len _ _ _ _).2.2],e6,e7⟩
      unfold AStep
      rw [hoi]
      exact .inr ⟨(guardG_kn e6).1 hg,p,plan_kn e6 _ hp,hst,he2 E (fun j hj=>by rw [e1 j (by omega),hm']),hnew,(applyP_kn _ _ _ _ _).symm⟩
     ·exact hh.elim
end
theorem mapO_congr {α β:Type} {f g:α->Option β}:∀ {l:List α},(∀ x∈l,f x=g x)->mapO f l=mapO g l
 | [],_=>rfl
 | x::xs,h=>by
  unfold mapO
  rw [h x (List.mem_cons_self ..),mapO_congr fun y hy=>h y (List.mem_cons_of_mem _ hy)]
def Row.sh (r:Row):Row:={r with x:=.lit 0 }
theorem sh_cases {a b:Option Row} (h:a.map Row.sh=b.map Row.sh):(a=none/\b=none)∨∃ x x' x0 k e o f,a=some ⟨x,x0,k,e,o,f⟩/\b=some ⟨x',x0,k,e,o,f⟩:=by
 cases a with
 | none=>cases b with
  | none=>exact .inl ⟨rfl,rfl⟩
  | some r=>cases h
 | some q=>cases b with
  | none=>cases h
  | some r =>
   obtain ⟨x,x0,k,e,o,f⟩:=q
   obtain ⟨x',y0,k',e',o',f'⟩:=r
   simp only [Option.map_some,Row.sh,Option.some.injEq,Row.mk.injEq,true_and] at h
   obtain ⟨rfl,rfl,rfl,rfl,rfl⟩:=h
   exact .inr ⟨x,x',x0,k,e,o,f,rfl,rfl⟩
section
variable {P:Program} {T:List K} {Y τ:St} {nn nid:Nat}
theorem row_of_box {id:Nat} (h:Y.box id=τ.box id):Y.row id=τ.row id:=by simp only [St.row,h]
theorem takeSh_congr {s:Sh} {v:V} (hb:∀ id∈v.ids,Y.box id=τ.box id):takeSh Y nn s v=takeSh τ nn s v:=by
 cases s with
 | one l=>cases v <;> rfl
 | agg ls=>cases v <;> rfl
 | lst k=>cases v with
  | agg cs=>rfl
  | one c=>cases c with
   | sl id=>have:=row_of_box (hb id (by simp [V.ids,V.cells,C.ids]));simp only [takeSh,this]
   | slv id lo hi k=>have:=row_of_box (hb id (by simp [V.ids,V.cells,C.ids]));simp only [takeSh,this]
   | slice id off n c=>have:=hb id (by simp [V.ids,V.cells,C.ids]);simp only [takeSh,this]
   | slS id off hi n=>have:=hb id (by simp [V.ids,V.cells,C.ids]);simp only [takeSh,this]
   | _=>rfl
 | lent k=>cases v with
  | agg cs=>rfl
  | one c=>cases c with
   | sl id=>have:=row_of_box (hb id (by simp [V.ids,V.cells,C.ids]));simp only [takeSh,this]
   | slv id lo hi k=>have:=row_of_box (hb id (by simp [V.ids,V.cells,C.ids]));simp only [takeSh,this]
   | _=>rfl
 | ptr ls=>cases v with
  | agg cs=>rfl
  | one c=>cases c with
   | ptr id off=>have:=hb id (by simp [V.ids,V.cells,C.ids]);simp only [takeSh,this]
   | _=>rfl
 | ll=>cases v <;> rfl
def DeepEq (Y τ:St) (id:Nat):Prop:=∀ b,Y.box id=some b->∀ c∈b.cells,∀ id'∈c.ids,Y.box id'=τ.box id'
theorem takeRs_congr:∀ (cs:List C) (nn:Nat),(∀ c∈cs,∀ id∈c.ids,Y.box id=τ.box id)->takeRs Y nn cs=takeRs τ nn cs
 | [],_,_=>rfl
 | c::cs,nn,h=>by
  unfold takeRs
  rw [takeSh_congr (Y:=Y) (τ:=τ) (v:=.one c) fun id hid=>h c (List.mem_cons_self ..) id (by simpa [V.ids,V.cells] using hid)]
  split
  ·rw [takeRs_congr cs _ fun c hc=>h c (List.mem_cons_of_mem _ hc)]
  ·rfl
theorem takeArg_congr {s:Sh} {v:V} (hb:∀ id∈v.ids,Y.box id=τ.box id) (hd:isLl s=true->∀ id∈v.ids,DeepEq Y τ id):takeArg Y nn s v=takeArg τ nn s v:=by
 unfold takeArg
 rw [takeSh_congr hb]
 split
 ·rename_i hl
  unfold takeLl
  split
  ·rfl
  ·rfl
  ·rename_i id off n c
   have e:=hb id (by simp [V.ids,V.cells,C.ids])
   rw [<- e]
   cases hbx:Y.box id with
   | none=>rfl
   | some b =>
    simp only
    rw [takeRs_congr _ _ fun c hc=>hd hl id (by simp [V.ids,V.cells,C.ids]) b hbx c (List.mem_of_mem_drop (List.mem_of_mem_take hc))]
  ·rfl
 ·rfl
theorem takeIns_congr:∀ (ss:List Sh) (vs:List V) (nn:Nat),(∀ v∈vs,∀ id∈v.ids,Y.box id=τ.box id)->(ss.any isLl=true->∀ v∈vs,∀ id∈v.ids,DeepEq Y τ id)->takeIns Y nn ss vs=takeIns τ nn ss vs:=by
 intro ss
 induction ss with
 | nil=>intro vs nn _ _;cases vs <;> rfl
 | cons s ss ih=>intro vs nn h hd;cases vs with
  | nil=>rfl
  | cons v vs =>
   unfold takeIns
   rw [takeArg_congr (h v (List.mem_cons_self ..)) fun e=>hd (by simp [e]) v (List.mem_cons_self ..)]
   cases takeArg τ nn s v with
   | none=>rfl
   | some d=>simp only;rw [ih _ _ (fun v hv=>h v (List.mem_cons_of_mem _ hv)) fun e v hv=>hd (by simp only [List.any_cons,e,Bool.or_true]) v (List.mem_cons_of_mem _ hv)]
theorem touch_call (c:Call):touch (.call c)≠0:=by
 simp only [touch];split <;> simp
theorem srcK_congr {k:LK} {x:Operand} (hv:Y.v x=τ.v x) (hb:∀ v,Y.v x=some v->∀ id∈v.ids,Y.box id=τ.box id):srcK Y nn k x=srcK τ nn k x:=by
 unfold srcK
 rw [<- hv]
 cases h:Y.v x with
 | none=>rfl
 | some v=>simp only;rw [takeSh_congr (hb v h)]
theorem catP_congr (c:Call) (hv:∀ x∈c.args.toList,Y.v x=τ.v x) (h2:∀ x∈c.args.toList,Y.cell x=τ.cell x)
  (hb:∀ x∈c.args.toList,∀ v,Y.v x=some v->∀ id∈v.ids,Y.box id=τ.box id) (hcv:∀ x∈c.args.toList,∀ cc,Y.cell x=some cc->Y.v x=some (.one cc)):catP P Y nn (.call c)=catP P τ nn (.call c):=by
 unfold catP
 dsimp only
 cases hcal:c.callee with
 | builtin b =>
  cases b <;> try rfl
  cases hty:c.argTypes.toList with
  | nil=>rfl
  | cons t l=>cases l with
   | nil=>rfl
   | cons t' l=>cases l with
    | cons _ _=>rfl
    | nil =>
     cases hl:c.args.toList with
     | nil=>rfl
     | cons s r=>cases r with
      | nil=>rfl
      | cons x r=>cases r with
       | cons _ _=>rfl
       | nil =>
        have hs:s∈c.args.toList:=by rw [hl];simp
        have hx:x∈c.args.toList:=by rw [hl];simp
        dsimp only
        have e1:∀ k,srcK Y nn k x=srcK τ nn k x:=fun k=>srcK_congr (hv x hx) (hb x hx)
        have e2:=h2 s hs
        have e3:∀ id,Y.cell s=some (.sl id)->Y.row id=τ.row id:=fun id hc=>row_of_box (hb s hs _ (hcv s hs _ hc) id (by simp [V.ids,V.cells,C.ids]))
        simp only [e1,<- e2]
        cases hc:Y.cell s with
        | none=>rfl
        | some cc=>cases cc with
         | sl id=>simp only [e3 id hc]
         | _=>rfl
 | _=>rfl
theorem plan_congr (op:Op) (hv:∀ x∈op.operands,Y.val x=τ.val x) (hkn:Y.kn=τ.kn)
  (hsh:∀ x∈op.operands,∀ s,Y.val x=some s->∀ id∈s.ids,(Y.row id).map Row.sh=(τ.row id).map Row.sh)
  (hb:touch op≠0->∀ x∈op.operands,∀ s,Y.val x=some s->∀ id∈s.ids,Y.box id=τ.box id) (hdeep:llCall T op=true->∀ x∈op.operands,∀ s,Y.val x=some s->∀ id∈s.ids,DeepEq Y τ id):plan P T Y nn nid op=plan P T τ nn nid op:=by
 have h1:∀ x∈op.operands,Y.v x=τ.v x:=fun x hx=>by simp only [St.v,hv x hx]
 have h2:∀ x∈op.operands,Y.cell x=τ.cell x:=fun x hx=>by simp only [St.cell,hv x hx]
 have h3:∀ x∈op.operands,idx Y x=idx τ x:=fun x hx=>by simp only [idx,h2 x hx]
 have hcv:∀ {x:Operand} {c:C},Y.cell x=some c->Y.val x=some (.vl (.one c)):=fun {x c} hc=>by
  unfold St.cell at hc
  split at hc
  ·rename_i c' hc';cases hc;exact hc'
  ·cases hc
 have hrow:touch op≠0->∀ x∈op.operands,∀ c,Y.cell x=some c->∀ id∈c.ids,Y.row id=τ.row id:=fun ht x hx c hc id hid =>
  row_of_box (hb ht x hx _ (hcv hc) id (by simpa [SV.ids,V.ids,V.cells] using hid))
 have hshc:∀ x∈op.operands,∀ c,Y.cell x=some c->∀ id∈c.ids,(Y.row id).map Row.sh=(τ.row id).map Row.sh:=fun x hx c hc id hid =>
  hsh x hx _ (hcv hc) id (by simpa [SV.ids,V.ids,V.cells] using hid)
 have htr:∀ a,truth Y a=truth τ a:=fun a=>by cases a <;> simp only [truth,hkn]
 cases op with
 | move x=>simp only [plan,hv x (by simp [Op.operands])]
 | assign x=>simp only [plan,hv x (by simp [Op.operands])]
 | pick c x y=>simp only [plan,h2 c (by simp [Op.operands]),hv x (by simp [Op.operands]),hv y (by simp [Op.operands]),htr]
 | alloc e=>rfl
 | box e x=>simp only [plan,h1 x (by simp [Op.operands])]
 | load t x =>
  have hx:x∈(Op.load t x).operands:=by simp [Op.operands]
  simp only [plan,<- h2 x hx]
  cases hc:Y.cell x with
  | none=>rfl
  | some c=>cases c with
   | ptr id off =>
    have hval:Y.val x=some (.vl (.one (.ptr id off))):=by
     unfold St.cell at hc
     split at hc
     ·rename_i c' hc';cases hc;exact hc'
     ·cases hc
    have:=hb (by simp [touch]) x hx _ hval id (by simp [SV.ids,V.ids,V.cells,C.ids])
    simp only [this]
   | ptrS id off i n =>
    have hval:Y.val x=some (.vl (.one (.ptrS id off i n))):=by
     unfold St.cell at hc
     split at hc
     ·rename_i c' hc';cases hc;exact hc'
     ·cases hc
    have:=hb (by simp [touch]) x hx _ hval id (by simp [SV.ids,V.ids,V.cells,C.ids])
    simp only [this]
   | lp id i k=>simp only [hrow (by simp [touch]) x hx _ hc id (by simp [C.ids])]
   | _=>rfl
 | store t x y =>
  have hx:x∈(Op.store t x y).operands:=by simp [Op.operands]
  simp only [plan,<- h2 x hx,<- h1 y (by simp [Op.operands])]
  cases hc:Y.cell x with
  | none=>rfl
  | some c=>cases c with
   | ptr id off =>
    have hval:Y.val x=some (.vl (.one (.ptr id off))):=by
     unfold St.cell at hc
     split at hc
     ·rename_i c' hc';cases hc;exact hc'
     ·cases hc
    have:=hb (by simp [touch]) x hx _ hval id (by simp [SV.ids,V.ids,V.cells,C.ids])
    cases Y.v y with
    | none=>rfl
    | some v=>simp only [this]
   | ptrS id off i n =>
    have hval:Y.val x=some (.vl (.one (.ptrS id off i n))):=by
     unfold St.cell at hc
     split at hc
     ·rename_i c' hc';cases hc;exact hc'
     ·cases hc
    have:=hb (by simp [touch]) x hx _ hval id (by simp [SV.ids,V.ids,V.cells,C.ids])
    cases Y.v y with
    | none=>rfl
    | some v=>cases v with
     | agg cs=>rfl
     | one c=>cases c with
      | int k x'=>simp only [this]
      | _=>rfl
   | lp id i k =>
    have:=hrow (by simp [touch]) x hx _ hc id (by simp [C.ids])
    cases Y.v y with
    | none=>rfl
    | some v=>simp only [this]
   | _=>rfl
 | nilCheck x=>simp only [plan,h2 x (by simp [Op.operands])]
 | binOp op t x y yt =>
  have hr:∀ u v,Y.v x=some u->rowNil P Y op t nn u v=rowNil P τ op t nn u v:=fun u v hu=>by
   cases u with
   | agg cs=>rfl
   | one c=>cases c with
    | sl id =>
     have hc:Y.cell x=some (.sl id):=by
      unfold St.v at hu
      unfold St.cell
      split at hu
      ·rename_i c' hc';cases hu;rw [hc']
      ·cases hu
     cases v with
     | agg ds=>rfl
     | one d=>cases d with
      | nilslice =>
       unfold rowNil
       rcases sh_cases (hshc x (by simp [Op.operands]) _ hc id (by simp [C.ids])) with ⟨e1,e2⟩ | ⟨y,y',x0,k,e',o',f,e1,e2⟩
       ·simp only [e1,e2]
       ·simp only [e1,e2]
        cases P.underlying t with
        | none=>rfl
        | some d=>cases d <;> rfl
      | _=>rfl
    | _=>rfl
  simp only [plan,<- h1 x (by simp [Op.operands]),<- h1 y (by simp [Op.operands])]
  cases hu:Y.v x with
  | none=>rfl
  | some u=>cases Y.v y with
   | none=>rfl
   | some v=>simp only [hr u v hu]
 | unOp op t x=>simp only [plan,h2 x (by simp [Op.operands])]
 | convert s d x =>
  have hx:x∈(Op.convert s d x).operands:=by simp [Op.operands]
  have htc:touch (.convert s d x)≠0:=by simp only [touch];split <;> simp
  have hmk:markP P Y s d x=markP P τ s d x:=by
   unfold markP
   rw [<- h2 x hx]
   split
   ·cases hu:P.underlying s with
    | none=>rfl
    | some us=>cases us <;> first | rfl | (cases hc:Y.cell x with
     | none=>rfl
     | some c=>cases c <;> first | rfl | (rename_i off _ _;cases off <;> first | rfl | (
       rename_i id n n'
       have:=hb htc x hx _ (hcv hc) id (by simp [SV.ids,V.ids,V.cells,C.ids])
       simp only [this])))
   ·rfl
  simp only [plan,hmk,<- h2 x hx]
  cases markP P τ s d x with
  | some q=>rfl
  | none =>
  simp only
  cases P.underlying s with
  | none=>rfl
  | some us=>cases P.underlying d with
   | none=>cases us <;> rfl
   | some ud=>cases hc:Y.cell x with
    | none=>cases us <;> cases ud <;> rfl
    | some c =>
     have:=takeSh_congr (Y:=Y) (τ:=τ) (nn:=nn) (s:=.lst (.int .u8)) (v:=.one c) fun id hid=>hb htc x hx _ (hcv hc) id (by simpa [SV.ids] using hid)
     cases us <;> cases ud <;> first | rfl | (simp only [this];done) | (cases c <;> rfl)
 | fieldAddr s x f=>simp only [plan,h2 x (by simp [Op.operands])]
 | indexAddr t x i =>
  have hx:x∈(Op.indexAddr t x i).operands:=by simp [Op.operands]
  simp only [plan,<- h2 x hx,<- h3 i (by simp [Op.operands]),<- h2 i (by simp [Op.operands])]
  have hid:∀ c,Y.cell x=some c->∀ id∈c.ids,(Y.row id).map Row.sh=(τ.row id).map Row.sh:=hshc x hx
  generalize idx Y i=ix
  generalize Y.cell x=cx at hid
  cases hu:P.underlying t with
  | none=>cases ix <;> rfl
  | some d=>cases d with
   | slice e=>cases cx with
    | none=>cases ix <;> rfl
    | some c=>cases c with
     | sl id =>
      rcases sh_cases (hid _ rfl id (by simp [C.ids])) with ⟨e1,e2⟩ | ⟨y,y',x0,k,e',o',f,e1,e2⟩
      ·cases ix <;> simp only [e1,e2]
      ·cases ix <;> simp only [e1,e2] <;> (cases Y.cell i with
        | none=>rfl
        | some ci=>cases szOf P e <;> cases ci <;> rfl)
     | slv id lo hi k =>
      rcases sh_cases (hid _ rfl id (by simp [C.ids])) with ⟨e1,e2⟩ | ⟨y,y',x0,k,e',o',f,e1,e2⟩
      ·cases ix <;> simp only [e1,e2]
      ·cases ix <;> simp only [e1,e2] <;> (cases Y.cell i with
        | none=>rfl
        | some ci=>cases szOf P e <;> cases ci <;> rfl)
     | _=>cases ix <;> rfl
   | _=>cases ix <;> (cases cx with | none=>rfl | some c=>cases c <;> rfl)
 | index t x i=>simp only [plan,h1 x (by simp [Op.operands]),h3 i (by simp [Op.operands]),h2 i (by simp [Op.operands])]
 | field t x f=>simp only [plan,h1 x (by simp [Op.operands])]
 | extract x i=>simp only [plan,hv x (by simp [Op.operands])]
 | makeFunc fn first caps =>
  have:mapO (capOf Y) caps.toList=mapO (capOf τ) caps.toList:=mapO_congr fun x hx=>by simp only [capOf];rw [h2 x (by simp [Op.operands];right;simpa using hx)]
  simp only [plan,this]
 | build t ps =>
  have:mapO (partOf Y) ps.toList=mapO (partOf τ) ps.toList:=mapO_congr fun q hq=>by simp only [partOf];rw [h1 q.2 (by simp only [Op.operands];simp;exact ⟨q.1,by simpa using hq⟩)]
  simp only [plan,this]
 | buildSlice t n ps =>
  have:mapO (partOf Y) ps.toList=mapO (partOf τ) ps.toList:=mapO_congr fun q hq=>by simp only [partOf];rw [h1 q.2 (by simp only [Op.operands];simp;exact ⟨q.1,by simpa using hq⟩)]
  simp only [plan,this]
 | sliceToArrayPointer t x=>simp only [plan,h2 x (by simp [Op.operands])]
 | slice t x lo hi mx =>
  have e1:bndOf Y lo=bndOf τ lo:=by
   cases lo with
   | none=>rfl
   | some o=>simp only [bndOf];rw [h3 o (by simp [Op.operands])]
  have e2:bndOf Y hi=bndOf τ hi:=by
   cases hi with
   | none=>rfl
   | some o=>simp only [bndOf];rw [h3 o (by simp [Op.operands])]
  have e3:bndA Y lo=bndA τ lo:=by
   cases lo with
   | none=>rfl
   | some o=>simp only [bndA];rw [h2 o (by simp [Op.operands])]
  have e4:bndA Y hi=bndA τ hi:=by
   cases hi with
   | none=>rfl
   | some o=>simp only [bndA];rw [h2 o (by simp [Op.operands])]
  have hx:x∈(Op.slice t x lo hi mx).operands:=by simp [Op.operands]
  simp only [plan,<- h2 x hx,<- e1,<- e2,<- e3,<- e4]
  cases mx.isSome with
  | true=>rfl
  | false =>
   cases hu:P.underlying t with
   | none=>rfl
   | some d=>cases d with
    | slice e=>cases hc:Y.cell x with
     | none=>rfl
     | some c=>cases c with
      | sl id =>
       rcases sh_cases (hshc x hx _ hc id (by simp [C.ids])) with ⟨e1,e2⟩ | ⟨y,y',x0,k,e',o',f,e1,e2⟩
       ·simp only [e1,e2]
       ·simp only [e1,e2,partP,partV]
        cases bndA Y lo <;> cases bndA Y hi <;> cases szOf P e <;> rfl
      | slv id lo' hi' k =>
       rcases sh_cases (hshc x hx _ hc id (by simp [C.ids])) with ⟨e1,e2⟩ | ⟨y,y',x0,k,e',o',f,e1,e2⟩
       ·simp only [e1,e2]
       ·simp only [e1,e2,partP,partV]
        cases bndA Y lo <;> cases bndA Y hi <;> cases szOf P e <;> rfl
      | _=>rfl
    | _=>(cases Y.cell x with | none=>rfl | some c=>cases c <;> rfl)
 | call c =>
  have hargs:mapO Y.v c.args.toList=mapO τ.v c.args.toList:=mapO_congr fun x hx=>h1 x (by simp [Op.operands,Call.operands];exact .inr (by simpa using hx))
  have hvin:∀ x∈c.args.toList,x∈(Op.call c).operands:=fun x hx=>by simp [Op.operands,Call.operands];exact .inr (by simpa using hx)
  have hvv:∀ x v,Y.v x=some v->Y.val x=some (.vl v):=fun x v hx2=>by
   unfold St.v at hx2
   split at hx2
   ·rename_i c' hc';cases hx2;exact hc'
   ·cases hx2
  have hcat:catP P Y nn (.call c)=catP P τ nn (.call c):=catP_congr c (fun x hx=>h1 x (hvin x hx)) (fun x hx=>h2 x (hvin x hx)) (fun x hx v hv' id hid=>hb (touch_call c) x (hvin x hx) _ (hvv x v hv') id hid)
   (fun x hx cc hc=>by simp only [St.v,hcv hc])
  simp only [plan,<- hargs,<- hcat]
  cases hm:mapO Y.v c.args.toList with
  | none=>rfl
  | some args =>
   simp only
   have hidz:∀ v∈args,∀ id∈v.ids,∃ z∈(Op.call c).operands,∃ s,Y.val z=some s/\id∈s.ids:=by
    have key:∀ (l:List Operand) (vs:List V),mapO Y.v l=some vs->∀ v∈vs,∃ x∈l,Y.v x=some v:=by
     intro l
     induction l with
     | nil=>intro vs h v hv;simp [mapO] at h;subst h;cases hv
     | cons x l ih =>
      intro vs h v hv
      unfold mapO at h
      split at h
      ·cases h
      ·rename_i y hy
       split at h
       ·cases h
       ·rename_i ys hys
        cases h
        rcases List.mem_cons.1 hv with rfl | hv
        ·exact ⟨x,List.mem_cons_self ..,hy⟩
        ·obtain ⟨z,hz,hz2⟩:=ih ys hys v hv
         exact ⟨z,List.mem_cons_of_mem _ hz,hz2⟩
    intro v hv id hid
    obtain ⟨x,hx,hx2⟩:=key _ _ hm v hv
    have hval:Y.val x=some (.vl v):=by
     unfold St.v at hx2
     split at hx2
     ·rename_i c' hc';cases hx2;exact hc'
     ·cases hx2
    exact ⟨x,by simp [Op.operands,Call.operands];exact .inr (by simpa using hx),_,hval,hid⟩
   have hids:∀ v∈args,∀ id∈v.ids,Y.box id=τ.box id:=fun v hv id hid=>by
    obtain ⟨z,hz,s,hs,h⟩:=hidz v hv id hid
    exact hb (touch_call c) z hz s hs id h
   cases hcal:c.callee with
   | builtin b=>cases b <;> first | rfl | (
     cases c.argTypes[0]? with
     | none=>rfl
     | some t =>
      dsimp only
      cases hu:P.underlying t with
      | none=>rfl
      | some d=>cases d with
       | slice e=>cases args with
        | nil=>rfl
        | cons v l=>cases l with
         | cons _ _=>cases v with
          | agg _=>rfl
          | one cc=>cases cc <;> rfl
         | nil=>cases v with
          | agg _=>rfl
          | one cc=>cases cc with
           | sl id=>simp only [row_of_box (hids _ (List.mem_singleton.2 rfl) id (by simp [V.ids,V.cells,C.ids]))]
           | slv id lo hi k=>simp only [row_of_box (hids _ (List.mem_singleton.2 rfl) id (by simp [V.ids,V.cells,C.ids]))]
           | _=>rfl
       | _=>(cases args with
        | nil=>rfl
        | cons v l=>(cases l <;> cases v <;> first | rfl | (rename_i cc;cases cc <;> rfl))))
   | invoke r n=>rfl
   | value x =>
    have hx:x∈(Op.call c).operands:=by simp [Op.operands,Call.operands,hcal]
    simp only [<- h2 x hx]
    cases hc:Y.cell x with
    | none=>rfl
    | some cc=>cases cc with
     | fn f caps =>
      simp only
      cases hk:findC T f (args++caps.map fun p=>V.one (.ptr p.1 p.2)) with
      | none=>rfl
      | some q =>
       simp only
       have hval:Y.val x=some (.vl (.one (.fn f caps))):=by
        unfold St.cell at hc
        split at hc
        ·rename_i c' hc';cases hc;exact hc'
        ·cases hc
       have hin:∀ v∈args++caps.map fun p=>V.one (.ptr p.1 p.2),∀ id∈v.ids,∃ z∈(Op.call c).operands,∃ s,Y.val z=some s/\id∈s.ids:=by
        intro v hv id hid
        rcases List.mem_append.1 hv with hv | hv
        ·exact hidz v hv id hid
        ·obtain ⟨q',hq',rfl⟩:=List.mem_map.1 hv
         refine ⟨x,hx,_,hval,?_⟩
         simp only [V.ids,V.cells,C.ids,List.flatMap_cons,List.flatMap_nil,List.append_nil,List.mem_singleton] at hid
         subst hid
         simp only [SV.ids,V.ids,V.cells,C.ids,List.flatMap_cons,List.flatMap_nil,List.append_nil]
         exact List.mem_map.2 ⟨q',hq',rfl⟩
       by_cases hbad:(q.2.ins.any isLl && !llCall T (.call c))=true
       ·rw [if_pos hbad,if_pos hbad]
       rw [if_neg hbad,if_neg hbad]
       rw [takeIns_congr _ _ _ (fun v hv id hid=>by
        obtain ⟨z,hz,s,hs,h⟩:=hin v hv id hid
        exact hb (touch_call c) z hz s hs id h) fun e v hv id hid=>by
        obtain ⟨z,hz,s,hs,h⟩:=hin v hv id hid
        refine hdeep ?_ z hz s hs id h
        rw [e] at hbad
        simpa using hbad]
     | _=>rfl
 | _=>rfl
end
noncomputable def boxEff (bs:List (Option Box)) (nid:Nat):Eff->List (Option Box)
 | .new b=>bs.set nid (some b)
 | .wr id u=>match bs[id]? with
  | some (some b)=>bs.set id (some (b.upd u))
  | _=>bs
 | .grow old b=>(noRows bs old.toList).set nid (some b)
 | _=>bs
def hits:Eff->Nat->Prop
 | .wr id _,k=>id=k
 | .grow old _,k=>old=some k
 | _,_=>False
def kills:Eff->Nat->Prop
 | .grow old _,k=>old=some k
 | _,_=>False
theorem applyP_eq (Y:St) (p:Plan) (nid:Nat) (d:Option Nat):applyP Y p nid d=({Y with boxes:=boxEff Y.boxes nid p.eff }:St).put d p.val:=by
 rw [applyP_def];unfold boxEff
 cases p.eff with
 | wr id u =>
  simp only
  split
  ·rename_i b hb;simp only [hb]
  ·rename_i hb;split
   ·rename_i b hb';exact absurd hb' (hb b)
   ·rfl
 | _=>rfl
theorem put_boxes (Y:St) (bs:List (Option Box)) (d:Option Nat) (s:SV):({Y with boxes:=bs }:St).put d s={Y.put d s with boxes:=bs }:=by cases d <;> rfl
theorem put_comm (Y:St) {x y:Option Nat} (s u:SV) (h:∀ d,x=some d->y≠some d):(Y.put x s).put y u=(Y.put y u).put x s:=by
 cases x with
 | none=>rfl
 | some d =>
  cases y with
  | none=>rfl
  | some e =>
   have hne:d≠e:=fun he=>h d rfl (he▸rfl)
   simp [St.put_def,List.set_comm _ _ hne]
theorem put_get {Y:St} {d:Option Nat} {s:SV} {t:Nat} (h:d≠some t):(Y.put d s).tmps[t]?=Y.tmps[t]?:=by
 cases d with
 | none=>rfl
 | some e=>simp only [St.put_def];rw [List.getElem?_set_ne];rintro rfl;exact h rfl
theorem put_val {Y:St} {d:Option Nat} {s:SV} {x:Operand} (h:∀ t,d=some t->x≠.tmp t):(Y.put d s).val x=Y.val x:=by
 cases x with
 | tmp t =>
  have:d≠some t:=fun e=>h t e rfl
  simp only [St.val,St.get_def,List.getD_eq_getElem?_getD,put_get this]
 | global g=>cases d <;> rfl
 | _=>rfl
section
variable {P:Program} {T:List K} {ops:Array Oper} {nv0 len0:Nat} {E:Nat->Int}
theorem guardG_put {Y:St} {d:Option Nat} {s:SV} {o:Oper} (h:∀ t,d=some t->t ∉ o.looksAt ops):guardG ops (Y.put d s) o=guardG ops Y o:=by
 have hkn:(Y.put d s).kn=Y.kn:=(put_same _ _ _).2.2.1
 have htr:∀ a,truth (Y.put d s) a=truth Y a:=fun a=>by cases a <;> simp only [truth,hkn]
 rw [guardG_def,guardG_def]
 cases hg:o.guard with
 | none=>rfl
 | some q =>
  obtain ⟨j,want⟩:=q
  simp only
  cases hd:(ops[j]?).bind (·.dst) with
  | none=>rfl
  | some t =>
   have hne:d≠some t:=fun e=>h t e (by
    refine List.mem_append_right _ ?_
    rw [hg];simp [hd])
   simp only [put_get hne,htr]
def Live (Y:St):Prop:=(∀ x s,Y.val x=some s->∀ id∈s.ids,Y.al id=true)/\∀ id b,Y.box id=some b->∀ c∈b.cells,∀ id'∈c.ids,Y.al id'=true
theorem C.rel_ids {m:M} {nv:Nat} {al:Nat->Bool} {c:C} {v:Value} (h:c.rel m nv al v):∀ id∈c.ids,al id=true:=by
 cases c <;> simp only [C.ids,List.not_mem_nil,List.mem_singleton,false_imp_iff,implies_true,forall_eq] <;> first | trivial | exact h.1 | skip
 intro id hid
 obtain ⟨p,hp,rfl⟩:=List.mem_map.1 hid
 exact h.1 p hp
theorem Rels.ids {m:M} {nv:Nat} {al:Nat->Bool}:∀ {cs:List C} {vs:List Value},Rels m nv al cs vs->∀ id∈cs.flatMap C.ids,al id=true
 | [],_,_=>by simp
 | c::cs,[],h=>h.elim
 | c::cs,v::vs,h=>fun id hid=>by
  rw [List.flatMap_cons] at hid
  rcases List.mem_append.1 hid with hid | hid
  ·exact C.rel_ids h.1 id hid
  ·exact Rels.ids h.2 id hid
theorem V.rel_ids {m:M} {nv:Nat} {al:Nat->Bool} {c:V} {v:Value} (h:c.rel m nv al v):∀ id∈c.ids,al id=true:=by
 cases c with
 | one c=>intro id hid;exact C.rel_ids h id (by simpa [V.ids,V.cells] using hid)
 | agg cs=>obtain ⟨vs,_,hr⟩:=h;exact Rels.ids hr
theorem VRels.ids {m:M} {nv:Nat} {al:Nat->Bool}:∀ {cs:List V} {vs:List Value},VRels m nv al cs vs->∀ id∈cs.flatMap V.ids,al id=true
 | [],_,_=>by simp
 | c::cs,[],h=>h.elim
 | c::cs,v::vs,h=>fun id hid=>by
  rw [List.flatMap_cons] at hid
  rcases List.mem_append.1 hid with hid | hid
  ·exact V.rel_ids h.1 id hid
  ·exact VRels.ids h.2 id hid
theorem SV.rel_ids {m:M} {nv:Nat} {al:Nat->Bool} {s:SV} {v:Value} (h:s.rel m nv al v):∀ id∈s.ids,al id=true:=by
 cases s with
 | vl c=>exact V.rel_ids h
 | tup l=>obtain ⟨vs,_,hr⟩:=h;exact VRels.ids hr
theorem Rep.live {w0:World} {m:M} {Y:St} {a:Act} {w:World} (h:Rep w0 m Y a w):Live Y:=by
 refine ⟨fun _ _ hx=>SV.rel_ids (h.val hx),fun id b hb c hc=>?_⟩
 obtain ⟨j,hj⟩:=List.mem_iff_getElem?.1 hc
 obtain ⟨v,_,hr⟩:=h.read hb j c hj
 exact C.rel_ids hr
theorem al_box {Y:St} {id:Nat} (h:Y.al id=true):∃ b,Y.boxes[id]?=some (some b):=by
 unfold St.al at h
 split at h
 ·rename_i b hb;exact ⟨b,hb⟩
 ·cases h
theorem plan_wr {Y:St} {nn nid:Nat} {op:Op} {p:Plan} (hp:plan P T Y nn nid op=.ok p) {id:Nat} {u:Upd} (he:p.eff=.wr id u):touch op=3/\∃ x∈op.operands,∃ s,Y.val x=some s/\id∈s.ids:=by
 cases op with
 | store t x y =>
  refine ⟨rfl,x,by simp [Op.operands],?_⟩
  simp only [plan] at hp
  split at hp
  ·rename_i id' off' v hx hv
   repeat' split at hp
   all_goals first | (cases hp;done) | skip
   cases hp
   simp only [Eff.wr.injEq] at he
   obtain ⟨rfl,_⟩:=he
   unfold St.cell at hx
   split at hx
   ·rename_i c hc;cases hx;exact ⟨_,hc,by simp [SV.ids,V.ids,V.cells,C.ids]⟩
   ·cases hx
  ·rename_i id' off' i' n' k' x' hx hv
   have fin:id'=id->∃ s,Y.val x=some s/\id∈s.ids:=fun e=>by
    subst e
    unfold St.cell at hx
    split at hx
    ·rename_i c hc;cases hx;exact ⟨_,hc,by simp [SV.ids,V.ids,V.cells,C.ids]⟩
    ·cases hx
   repeat' split at hp
   all_goals first | (cases hp;done) | (cases hp;simp only [Eff.wr.injEq] at he;exact fin he.1)
  ·rename_i id' i' k' v hx hv
   repeat' split at hp
   all_goals first | (cases hp;done) | skip
   cases hp
   simp only [Eff.wr.injEq] at he
   obtain ⟨rfl,_⟩:=he
   unfold St.cell at hx
   split at hx
   ·rename_i c hc;cases hx;exact ⟨_,hc,by simp [SV.ids,V.ids,V.cells,C.ids]⟩
   ·cases hx
  ·cases hp
 | call c =>
  exfalso
  simp only [plan] at hp
  repeat' split at hp
  all_goals first | (cases hp;done) | (unfold okP at hp;cases hp;cases he;done) | skip
  all_goals
   cases hp
   cases he
 | binOp op t x y yt =>
  exfalso
  simp only [plan] at hp
  split at hp
  ·split at hp
   ·rename_i q hq
    cases hp
    obtain ⟨id,r,e,n,rfl,rfl,hr,hut,hn,rfl⟩:=rowNil_spec hq
    cases he
   rename_i hnone
   clear hnone
   unfold planBin at hp
   split at hp
   ·simp only [binInt,mkP] at hp
    repeat' split at hp
    all_goals (first | (cases hp;done) | (cases hp;cases he;done))
   all_goals
    try simp only [mkP,okP] at hp
    repeat' split at hp
    all_goals (first | (cases hp;done) | (cases hp;cases he;done))
  ·cases hp
 | buildSlice t len ps =>
  exfalso
  simp only [plan] at hp
  split at hp
  ·rename_i q hq
   cases hp
   obtain ⟨_,_,_,_,_,_,_,_,rfl⟩:=empty_spec hq
   cases he
  ·repeat' split at hp
   all_goals (first | (cases hp;done) | (cases hp;cases he;done))
 | convert s d x =>
  cases hm:markP P Y s d x with
  | some q =>
   simp only [plan,hm] at hp
   cases hp
   obtain ⟨id',n,n',b,e,rfl,hu,he',hx,hb,c1,c2,c3,rfl⟩:=markP_spec hm
   cases he
   refine ⟨by simp [touch],x,by simp [Op.operands],?_⟩
   unfold St.cell at hx
   split at hx
   ·rename_i c hc;cases hx;exact ⟨_,hc,by simp [SV.ids,V.ids,V.cells,C.ids]⟩
   ·cases hx
  | none =>
   exfalso
   simp only [plan,hm,okP,mkP] at hp
   repeat' split at hp
   all_goals (first | (cases hp;done) | (cases hp;cases he;done))
 | _ =>
  exfalso
  simp only [plan,okP,partC,mkP,loadRow,partP,partV] at hp
  repeat' split at hp
  all_goals (first | (cases hp;done) | (cases hp;cases he;done))
theorem catP_old {Y:St} {nn:Nat} {c:Call} {g:Grow} (h:catP P Y nn (.call c)=some g) {id:Nat} (ho:g.old=some id):touch (.call c)=4/\∃ x∈(Op.call c).operands,∃ s,Y.val x=some s/\id∈s.ids:=by
 obtain ⟨s,x,t,i,z,v,G⟩:=cat_spec (o:={op:=.call c,type:=0,dst:=none,after:=#[],guard:=none,pos:="" }) h
 have hc:c={callee:=.builtin .append,args:=#[s,x],argTypes:=#[t,t] }:=by
  have:=G.op;injection this
 refine ⟨by rw [hc];rfl,s,by rw [hc];simp [Op.operands,Call.operands],?_⟩
 rcases G.old with ⟨h1,_⟩ | ⟨id',r,h1,_,h3,_⟩
 ·rw [h1] at ho;cases ho
 ·rw [h1] at ho
  cases ho
  unfold St.cell at h3
  split at h3
  ·rename_i c' hc';cases h3;exact ⟨_,hc',by simp [SV.ids,V.ids,V.cells,C.ids]⟩
  ·cases h3
theorem plan_grow {Y:St} {nn nid:Nat} {op:Op} {p:Plan} (hp:plan P T Y nn nid op=.ok p) {old:Option Nat} {b:Box} (he:p.eff=.grow old b) {id:Nat} (ho:old=some id):touch op=4/\∃ x∈op.operands,∃ s,Y.val x=some s/\id∈s.ids:=by
 cases op with
 | call c =>
  simp only [plan] at hp
  split at hp
  ·cases hp
  ·split at hp
   ·exfalso
    repeat' split at hp
    all_goals first | (cases hp;done) | (unfold okP at hp;cases hp;cases he;done) | (cases hp;cases he;done)
   ·exfalso
    repeat' split at hp
    all_goals first | (cases hp;done) | (cases hp;cases he;done)
   ·exfalso
    repeat' split at hp
    all_goals first | (cases hp;done) | (cases hp;cases he;done)
   ·exfalso
    repeat' split at hp
    all_goals first | (cases hp;done) | (cases hp;cases he;done)
   ·split at hp
    ·rename_i g hg
     cases hp
     cases he
     exact catP_old hg ho
    ·cases hp
   ·cases hp
   ·cases hp
   ·exfalso
    repeat' split at hp
    all_goals first | (cases hp;done) | skip
    all_goals
     cases hp
     cases he
 | binOp op t x y yt =>
  exfalso
  simp only [plan] at hp
  split at hp
  ·split at hp
   ·rename_i q hq
    cases hp
    obtain ⟨id,r,e,n,rfl,rfl,hr,hut,hn,rfl⟩:=rowNil_spec hq
    cases he
   rename_i hnone
   clear hnone
   unfold planBin at hp
   split at hp
   ·simp only [binInt,mkP] at hp
    repeat' split at hp
    all_goals (first | (cases hp;done) | (cases hp;cases he;done))
   all_goals
    try simp only [mkP,okP] at hp
    repeat' split at hp
    all_goals (first | (cases hp;done) | (cases hp;cases he;done))
  ·cases hp
 | buildSlice t len ps =>
  exfalso
  simp only [plan] at hp
  split at hp
  ·rename_i q hq
   cases hp
   obtain ⟨_,_,_,_,_,_,_,_,rfl⟩:=empty_spec hq
   cases he
  ·repeat' split at hp
   all_goals (first | (cases hp;done) | (cases hp;cases he;done))
 | _ =>
  exfalso
  simp only [plan,okP,partC,mkP,loadRow,partP,partV] at hp
  repeat' split at hp
  all_goals (first | (cases hp;done) | (cases hp;cases he;done) | (cases hp;rename_i hq;obtain ⟨_,_,_,_,_,_,_,_,_,_,_,_,_,rfl⟩:=markP_spec hq;cases he))
theorem plan_hits {Y:St} {nn nid:Nat} {op:Op} {p:Plan} (hp:plan P T Y nn nid op=.ok p) {id:Nat} (he:hits p.eff id):((touch op=3/\¬ kills p.eff id)∨touch op=4)/\∃ x∈op.operands,∃ s,Y.val x=some s/\id∈s.ids:=by
 cases hc:p.eff with
 | wr id' u =>
  rw [hc] at he
  have he:id'=id:=he
  subst he
  obtain ⟨h1,h2⟩:=plan_wr hp hc
  exact ⟨.inl ⟨h1,fun h=>h⟩,h2⟩
 | grow old b =>
  rw [hc] at he
  obtain ⟨h1,h2⟩:=plan_grow hp hc he
  exact ⟨.inr h1,h2⟩
 | none=>rw [hc] at he;exact he.elim
 | new b=>rw [hc] at he;exact he.elim
 | extv=>rw [hc] at he;exact he.elim
noncomputable def act1 (Y:St) (q:Option Plan) (nid:Nat) (d:Option Nat):St:=match q with | none=>Y.put d undefS | some p=>applyP Y p nid d
theorem noRow_out {bs:List (Option Box)} {id k:Nat} (h:k≠id):(noRow bs id)[k]?=bs[k]?:=by
 rw [noRow_def]
 split
 ·exact List.getElem?_set_ne (Ne.symm h)
 ·rfl
theorem boxEff_out {bs:List (Option Box)} {nid:Nat} {e:Eff} {k:Nat} (h1:isNew e=true->k≠nid) (h2:∀ id,hits e id->k≠id):(boxEff bs nid e)[k]?=bs[k]?:=by
 cases e with
 | new bx=>exact List.getElem?_set_ne (Ne.symm (h1 rfl))
 | wr id u =>
  simp only [boxEff]
  split
  ·exact List.getElem?_set_ne (Ne.symm (h2 _ rfl))
  ·rfl
 | grow old bx =>
  simp only [boxEff]
  rw [List.getElem?_set_ne (Ne.symm (h1 rfl))]
  cases old with
  | none=>rfl
  | some id=>exact noRow_out (h2 id rfl)
 | _=>rfl
theorem upd_sh (b:Box) (u:Upd):(b.upd u).row.map Row.sh=b.row.map Row.sh:=by
 cases u with
 | cells off cs=>rfl
 | mark=>rfl
 | row x=>cases hr:b.row with
  | none=>simp [Box.upd,hr]
  | some r=>simp [Box.upd,hr,Row.sh]
theorem boxEff_sh {bs:List (Option Box)} {nid:Nat} {e:Eff} {id:Nat} {b:Box} (hb:bs[id]?=some (some b)) (hn:isNew e=true->id≠nid) (hk:¬ kills e id):∃ b',(boxEff bs nid e)[id]?=some (some b')/\b'.row.map Row.sh=b.row.map Row.sh:=by
 cases e with
 | new bx=>exact ⟨b,by simp only [boxEff];rw [List.getElem?_set_ne (Ne.symm (hn rfl))];exact hb,rfl⟩
 | wr id' u =>
  simp only [boxEff]
  by_cases he:id'=id
  ·subst he
   rw [hb]
   have hl:=(List.getElem?_eq_some_iff.1 hb).1
   exact ⟨b.upd u,by simp [hl],upd_sh b u⟩
  ·refine ⟨b,?_,rfl⟩
   split
   ·rw [List.getElem?_set_ne he];exact hb
   ·exact hb
 | grow old bx=>exact ⟨b,by rw [boxEff_out hn (fun id' h e=>hk (by subst e;exact h))];exact hb,rfl⟩
 | _=>exact ⟨b,hb,rfl⟩
def tweak (bs:List (Option Box)) (i:Nat) (f:Box->Box):List (Option Box) :=
 match bs[i]? with
 | some (some b)=>bs.set i (some (f b))
 | _=>bs
theorem tweak_out {bs:List (Option Box)} {i k:Nat} {f:Box->Box} (h:k≠i):(tweak bs i f)[k]?=bs[k]?:=by
 unfold tweak
 split
 ·exact List.getElem?_set_ne (Ne.symm h)
 ·rfl
theorem tweak_set {bs:List (Option Box)} {i n:Nat} {f:Box->Box} {x:Option Box} (h:i≠n):tweak (bs.set n x) i f=(tweak bs i f).set n x:=by
 unfold tweak
 rw [List.getElem?_set_ne (Ne.symm h)]
 split
 ·exact List.set_comm _ _ (Ne.symm h)
 ·rfl
theorem tweak_tweak {bs:List (Option Box)} {i j:Nat} {f g:Box->Box} (h:i≠j):tweak (tweak bs i f) j g=tweak (tweak bs j g) i f:=by
 apply List.ext_getElem?
 intro k
 have hl:∀ (bs:List (Option Box)) i f k,(tweak bs i f)[k]?=if k=i then (match bs[i]? with | some (some b)=>some (some (f b)) | y=>y) else bs[k]?:=by
  intro bs i f k
  by_cases hk:k=i
  ·subst hk
   rw [if_pos rfl]
   unfold tweak
   cases hx:bs[k]? with
   | none=>exact hx
   | some o=>cases o with
    | none=>exact hx
    | some b=>exact List.getElem?_set_self (List.getElem?_eq_some_iff.1 hx).1
  ·rw [if_neg hk,tweak_out hk]
 simp only [hl,h,Ne.symm h,if_false]
 by_cases h1:k=i
 ·subst h1
  simp only [h,if_false,if_true]
 ·by_cases h2:k=j
  ·subst h2;simp only [h1,if_false,if_true]
  ·simp only [h1,h2,if_false]
def effT (bs:List (Option Box)):Eff->List (Option Box)
 | .wr id u=>tweak bs id (·.upd u)
 | .grow (some id) _=>tweak bs id (fun b=>{b with row:=none })
 | _=>bs
def effN (bs:List (Option Box)) (n:Nat):Eff->List (Option Box)
 | .new b=>bs.set n (some b)
 | .grow _ b=>bs.set n (some b)
 | _=>bs
theorem boxEff_two (bs:List (Option Box)) (n:Nat) (e:Eff):boxEff bs n e=effN (effT bs e) n e:=by
 cases e with
 | grow old b=>cases old with
  | none=>rfl
  | some id =>
   show (noRow bs id).set n (some b)=_
   rw [noRow_def];rfl
 | _=>rfl
theorem effT_tweak {bs:List (Option Box)} {e:Eff} {i:Nat} {f:Box->Box} (h:∀ id,hits e id->id≠i):effT (tweak bs i f) e=tweak (effT bs e) i f:=by
 cases e with
 | wr id u=>exact tweak_tweak (Ne.symm (h id rfl))
 | grow old b=>cases old with
  | none=>rfl
  | some id=>exact tweak_tweak (Ne.symm (h id rfl))
 | _=>rfl
theorem effT_comm {bs:List (Option Box)} {e e':Eff} (h:∀ id,hits e id->∀ id',hits e' id'->id≠id'):effT (effT bs e) e'=effT (effT bs e') e:=by
 cases e with
 | wr id u=>exact effT_tweak fun id' h'=>Ne.symm (h id rfl id' h')
 | grow old b=>cases old with
  | none=>rfl
  | some id=>exact effT_tweak fun id' h'=>Ne.symm (h id rfl id' h')
 | _=>rfl
theorem effT_effN {bs:List (Option Box)} {n:Nat} {e e':Eff} (h:isNew e=true->∀ id,hits e' id->id≠n):effT (effN bs n e) e'=effN (effT bs e') n e:=by
 have key:∀ x,isNew e=true->effT (bs.set n x) e'=(effT bs e').set n x:=by
  intro x he
  cases e' with
  | wr id u=>exact tweak_set (h he id rfl)
  | grow old b=>cases old with
   | none=>rfl
   | some id=>exact tweak_set (h he id rfl)
  | _=>rfl
 cases e with
 | new b=>exact key _ rfl
 | grow old b=>exact key _ rfl
 | _=>rfl
theorem effN_comm {bs:List (Option Box)} {n n':Nat} {e e':Eff} (h:isNew e=true->isNew e'=true->n≠n'):effN (effN bs n e) n' e'=effN (effN bs n' e') n e:=by
 cases e <;> cases e' <;> first | rfl | exact List.set_comm _ _ (h rfl rfl)
theorem boxEff_comm {bs:List (Option Box)} {n n':Nat} {e e':Eff} (h1:isNew e=true->isNew e'=true->n≠n') (h2:isNew e=true->∀ id,hits e' id->id≠n) (h3:isNew e'=true->∀ id,hits e id->id≠n')
  (h4:∀ id,hits e id->∀ id',hits e' id'->id≠id'):boxEff (boxEff bs n e) n' e'=boxEff (boxEff bs n' e') n e:=by
 simp only [boxEff_two]
 rw [effT_effN h2,effT_effN h3,effT_comm h4,effN_comm h1]
theorem astep_cases {i:Nat} {o:Oper} (hi:ops[i]?=some o) {Y Y':St} (h:AStep P T ops nv0 len0 E i Y Y'):∃ q:Option Plan,Y'=act1 Y q (len0+i) o.dst /\
  (match q with | none=>guardG ops Y o=.no | some p=>guardG ops Y o=.yes/\plan P T Y (nv0+i*stride) (len0+i) o.op=.ok p/\p.defs.length+p.post.length<=stride/\Fine T E (nv0+i*stride) p/\(isNew p.eff=true->Y.boxes[len0+i]?=some none)):=by
 unfold AStep at h
 rw [hi] at h
 rcases h with ⟨h1,h2⟩ | ⟨h1,p,h2,h3,h4,h5,h6⟩
 ·exact ⟨none,h2,h1⟩
 ·exact ⟨some p,h6,h1,h2,h3,h4,h5⟩
theorem astep_of {i:Nat} {o:Oper} (hi:ops[i]?=some o) {Y:St} (q:Option Plan)
  (h:match q with | none=>guardG ops Y o=.no | some p=>guardG ops Y o=.yes/\plan P T Y (nv0+i*stride) (len0+i) o.op=.ok p/\p.defs.length+p.post.length<=stride/\Fine T E (nv0+i*stride) p/\(isNew p.eff=true->Y.boxes[len0+i]?=some none)):AStep P T ops nv0 len0 E i Y (act1 Y q (len0+i) o.dst):=by
 unfold AStep
 rw [hi]
 cases q with
 | none=>exact .inl ⟨h,rfl⟩
 | some p=>exact .inr ⟨h.1,p,h.2.1,h.2.2.1,h.2.2.2.1,h.2.2.2.2,rfl⟩
def qEff:Option Plan->Eff | none=>.none | some p=>p.eff
def qVal:Option Plan->SV | none=>undefS | some p=>p.val
theorem act1_eq (Y:St) (q:Option Plan) (nid:Nat) (d:Option Nat):act1 Y q nid d=({Y with boxes:=boxEff Y.boxes nid (qEff q) }:St).put d (qVal q):=by
 cases q with
 | none=>rfl
 | some p=>exact applyP_eq ..
theorem act1_val {Y:St} {q:Option Plan} {nid:Nat} {d:Option Nat} {x:Operand} (h:∀ t,d=some t->x≠.tmp t):(act1 Y q nid d).val x=Y.val x:=by
 rw [act1_eq,put_val h];cases x <;> rfl
theorem act1_kn (Y:St) (q:Option Plan) (nid:Nat) (d:Option Nat):(act1 Y q nid d).kn=Y.kn:=by rw [act1_eq];exact (put_same _ _ _).2.2.1
theorem act1_boxes (Y:St) (q:Option Plan) (nid:Nat) (d:Option Nat):(act1 Y q nid d).boxes=boxEff Y.boxes nid (qEff q):=by rw [act1_eq];exact (put_same _ _ _).2.1
theorem act1_guard {Y:St} {q:Option Plan} {nid:Nat} {d:Option Nat} {o:Oper} (h:∀ t,d=some t->t ∉ o.looksAt ops):guardG ops (act1 Y q nid d) o=guardG ops Y o:=by
 rw [act1_eq,guardG_put h];rfl
theorem act1_plan {Y:St} {q:Option Plan} {nid nn nid':Nat} {x y:Oper} (hl:Live Y) (h:∀ t,x.dst=some t->t ∉ y.looksAt ops)
  (h1:isNew (qEff q)=true->Y.boxes[nid]?=some none) (h2:∀ id,hits (qEff q) id->(touch y.op=0/\¬ kills (qEff q) id)∨∀ z∈y.op.operands,∀ s,Y.val z=some s->id ∉ s.ids) (h3:llCall T y.op=true->∀ id,¬ hits (qEff q) id):plan P T (act1 Y q nid x.dst) nn nid' y.op=plan P T Y nn nid' y.op:=by
 have hv:∀ z∈y.op.operands,(act1 Y q nid x.dst).val z=Y.val z:=fun z hz=>act1_val fun t ht he=>h t ht (by
  subst he;exact List.mem_append_left _ (List.mem_filterMap.2 ⟨.tmp t,by simpa using hz,rfl⟩))
 refine plan_congr _ hv (act1_kn ..) (fun z hz s hs id hid=>?_) (fun ht z hz s hs id hid=>?_) fun hll z hz s hs id hid b hb c hc id' hid'=>?_
 ·rw [hv z hz] at hs
  obtain ⟨b,hb⟩:=al_box (hl.1 z s hs id hid)
  obtain ⟨b',h3,h4⟩:=boxEff_sh (nid:=nid) (e:=qEff q) hb (fun hn e=>by subst e;rw [h1 hn] at hb;cases hb) (fun hk=>by
   have hh:hits (qEff q) id:=by
    cases hq:qEff q with
    | grow old b=>rw [hq] at hk;exact hk
    | _=>rw [hq] at hk;exact hk.elim
   rcases h2 _ hh with h5 | h5
   ·exact h5.2 hk
   ·exact h5 z hz s hs hid)
  rw [<- act1_boxes (d:=x.dst)] at h3
  simp only [St.row,St.box_def,h3,hb]
  exact h4
 ·rw [hv z hz] at hs
  obtain ⟨b,hb⟩:=al_box (hl.1 z s hs id hid)
  simp only [St.box_def]
  rw [act1_boxes,boxEff_out]
  ·intro hn e;subst e;rw [h1 hn] at hb;cases hb
  ·intro id' he e
   rcases h2 _ he with h3 | h3
   ·exact ht h3.1
   ·exact h3 z hz s hs (e▸hid)
 ·rw [hv z hz] at hs
  have same:∀ k,Y.al k=true->(act1 Y q nid x.dst).box k=Y.box k:=fun k hk=>by
   rw [St.box_def,St.box_def,act1_boxes,boxEff_out (fun hn e=>by
    obtain ⟨b0,hb0⟩:=al_box hk
    rw [e,h1 hn] at hb0;cases hb0) fun id' he=>absurd he (h3 hll id')]
  rw [same id (hl.1 z s hs id hid)] at hb
  exact same id' (hl.2 id b hb c hc id' hid')
theorem calm_spec {x y:Oper} (h:calm x y=true):(touch x.op=3->touch y.op=0)/\(touch y.op=3->touch x.op=0)/\touch x.op≠4/\touch y.op≠4:=by
 unfold calm at h
 simp only [Bool.not_eq_true',Bool.or_eq_false_iff,Bool.and_eq_false_iff,beq_eq_false_iff_ne,bne_eq_false_iff_eq] at h
 exact ⟨fun e=>h.1.1.1.resolve_left fun n=>n e,fun e=>h.1.1.2.resolve_left fun n=>n e,h.1.2,h.2⟩
theorem llCall_touch {op:Op} (h:llCall T op=true):touch op≠0:=by
 cases op <;> first | exact touch_call _ | cases h
def Sep (Y:St) (x y:Oper):Prop:=∀ zx∈x.op.operands,∀ s,Y.val zx=some s->∀ id∈s.ids,∀ zy∈y.op.operands,∀ s',Y.val zy=some s'->id ∉ s'.ids
theorem set_some {bs:List (Option Box)} {i n:Nat} {b x:Box} (h:bs[i]?=some (some b)):∃ b',(bs.set n (some x))[i]?=some (some b'):=by
 by_cases hn:n=i
 ·subst hn;exact ⟨x,List.getElem?_set_self (List.getElem?_eq_some_iff.1 h).1⟩
 ·exact ⟨b,by rw [List.getElem?_set_ne hn];exact h⟩
theorem tweak_some {bs:List (Option Box)} {i n:Nat} {b:Box} {f:Box->Box} (h:bs[i]?=some (some b)):∃ b',(tweak bs n f)[i]?=some (some b'):=by
 unfold tweak
 split
 ·exact set_some h
 ·exact ⟨b,h⟩
theorem boxEff_some {bs:List (Option Box)} {nid i:Nat} {e:Eff} {b:Box} (h:bs[i]?=some (some b)):∃ b',(boxEff bs nid e)[i]?=some (some b'):=by
 rw [boxEff_two]
 have h1:∃ b',(effT bs e)[i]?=some (some b'):=by
  cases e with
  | wr id u=>exact tweak_some h
  | grow old b=>cases old with
   | none=>exact ⟨_,h⟩
   | some id=>exact tweak_some h
  | _=>exact ⟨_,h⟩
 obtain ⟨b1,h1⟩:=h1
 cases e with
 | new b=>exact set_some h1
 | grow old b=>exact set_some h1
 | _=>exact ⟨_,h1⟩
theorem exchange {i j:Nat} {oi oj:Oper} (hij:i≠j) (hi:ops[i]?=some oi) (hj:ops[j]?=some oj) (hap:oi.apart ops oj=true) {Y σi σij:St} (hc:calm oi oj=true∨Sep Y oi oj) (hll:(llCall T oi.op || llCall T oj.op)=true->calm oi oj=true) (hl:Live Y)
  (h1:AStep P T ops nv0 len0 E i Y σi) (h2:AStep P T ops nv0 len0 E j σi σij):∃ σj,AStep P T ops nv0 len0 E j Y σj/\AStep P T ops nv0 len0 E i σj σij:=by
 obtain ⟨a1,a2,a3⟩:=Oper.apart_spec hap
 obtain ⟨qi,rfl,k1⟩:=astep_cases hi h1
 obtain ⟨qj,rfl,k2⟩:=astep_cases hj h2
 have newi:isNew (qEff qi)=true->Y.boxes[len0+i]?=some none:=fun hn=>by
  cases qi with
  | none=>cases hn
  | some p=>exact k1.2.2.2.2 hn
 have wri:∀ id,hits (qEff qi) id->((touch oi.op=3/\¬ kills (qEff qi) id)∨touch oi.op=4)/\Y.al id=true/\∃ x∈oi.op.operands,∃ s,Y.val x=some s/\id∈s.ids:=fun id he=>by
  cases qi with
  | none=>exact he.elim
  | some p =>
   obtain ⟨g1,x,hx,s,hs,hid⟩:=plan_hits k1.2.1 he
   exact ⟨g1,hl.1 x s hs id hid,x,hx,s,hs,hid⟩
 have hplj:∀ nn nid',plan P T (act1 Y qi (len0+i) oi.dst) nn nid' oj.op=plan P T Y nn nid' oj.op:=fun nn nid'=>act1_plan hl a1 newi (fun id he=>by
  obtain ⟨g1,_,x,hx,s,hs,hid⟩:=wri _ he
  rcases hc with hc | hc
  ·rcases g1 with g1 | g1
   ·exact .inl ⟨(calm_spec hc).1 g1.1,g1.2⟩
   ·exact absurd g1 (calm_spec hc).2.2.1
  ·exact .inr fun z hz s' hs'=>hc x hx s hs id hid z hz s' hs') fun hcall id he=>by
   have hk:=calm_spec (hll (by simp [hcall]))
   rcases (wri _ he).1 with g1 | g1
   ·exact llCall_touch hcall (hk.1 g1.1)
   ·exact hk.2.2.1 g1
 have hgj:guardG ops (act1 Y qi (len0+i) oi.dst) oj=guardG ops Y oj:=act1_guard a1
 have wrj:∀ id,hits (qEff qj) id->((touch oj.op=3/\¬ kills (qEff qj) id)∨touch oj.op=4)/\Y.al id=true/\∃ x∈oj.op.operands,∃ s,Y.val x=some s/\id∈s.ids:=fun id he=>by
  cases qj with
  | none=>exact he.elim
  | some p =>
   have k3:=k2.2.1
   rw [hplj] at k3
   obtain ⟨g1,x,hx,s,hs,hid⟩:=plan_hits k3 he
   exact ⟨g1,hl.1 x s hs id hid,x,hx,s,hs,hid⟩
 have newj:isNew (qEff qj)=true->Y.boxes[len0+j]?=some none:=fun hn=>by
  cases qj with
  | none=>cases hn
  | some p =>
   have k3:=k2.2.2.2.2 hn
   rw [act1_boxes] at k3
   rwa [boxEff_out (fun _=>by omega) (fun id he e=>?_)] at k3
   obtain ⟨b,hb⟩:=al_box (wri _ he).2.1
   obtain ⟨b',hb'⟩:=boxEff_some (nid:=len0+i) (e:=qEff qi) hb
   rw [e,hb'] at k3;cases k3
 have ne:∀ {k id:Nat},Y.boxes[k]?=some none->Y.al id=true->id≠k:=fun hk hal e=>by
  obtain ⟨b,hb⟩:=al_box hal
  rw [e,hk] at hb;cases hb
 refine ⟨act1 Y qj (len0+j) oj.dst,astep_of hj qj ?_,?_⟩
 ·cases qj with
  | none=>exact hgj.symm.trans k2
  | some p=>exact ⟨hgj.symm.trans k2.1,(hplj _ _).symm.trans k2.2.1,k2.2.2.1,k2.2.2.2.1,newj⟩
 ·have hpli:∀ nn nid',plan P T (act1 Y qj (len0+j) oj.dst) nn nid' oi.op=plan P T Y nn nid' oi.op:=fun nn nid'=>act1_plan hl a3 newj (fun id he=>by
   obtain ⟨g1,_,x,hx,s,hs,hid⟩:=wrj _ he
   rcases hc with hc | hc
   ·rcases g1 with g1 | g1
    ·exact .inl ⟨(calm_spec hc).2.1 g1.1,g1.2⟩
    ·exact absurd g1 (calm_spec hc).2.2.2
   ·exact .inr fun z hz s' hs' hid'=>hc z hz s' hs' id hid' x hx s hs hid) fun hcall id he=>by
    have hk:=calm_spec (hll (by simp [hcall]))
    rcases (wrj _ he).1 with g1 | g1
    ·exact llCall_touch hcall (hk.2.1 g1.1)
    ·exact hk.2.2.2 g1
  have hgi:guardG ops (act1 Y qj (len0+j) oj.dst) oi=guardG ops Y oi:=act1_guard a3
  have hfin:act1 (act1 Y qi (len0+i) oi.dst) qj (len0+j) oj.dst=act1 (act1 Y qj (len0+j) oj.dst) qi (len0+i) oi.dst:=by
   have hb:boxEff (boxEff Y.boxes (len0+i) (qEff qi)) (len0+j) (qEff qj)=boxEff (boxEff Y.boxes (len0+j) (qEff qj)) (len0+i) (qEff qi) :=
    boxEff_comm (fun _ _=>by omega) (fun hn id he=>ne (newi hn) (wrj _ he).2.1) (fun hn id he=>ne (newj hn) (wri _ he).2.1)
     (fun id he id' he'=>by
      obtain ⟨g1,_,x,hx,s,hs,hid⟩:=wri _ he
      obtain ⟨g2,_,x',hx',s',hs',hid'⟩:=wrj _ he'
      rcases hc with hc | hc
      ·obtain ⟨c1,c2,c3,c4⟩:=calm_spec hc
       exfalso
       rcases g1 with g1 | g1
       ·have:=c1 g1.1
        rcases g2 with g2 | g2
        ·rw [g2.1] at this;cases this
        ·exact c4 g2
       ·exact c3 g1
      ·intro e;subst e;exact hc x hx s hs _ hid x' hx' s' hs' hid')
   rw [act1_eq (act1 Y qi _ _),act1_boxes,hb,act1_eq (act1 Y qj _ _),act1_boxes,act1_eq Y qi,act1_eq Y qj]
   simp only [put_boxes]
   rw [put_comm _ _ _ a2]
  rw [hfin]
  refine astep_of hi qi ?_
  cases qi with
  | none=>exact hgi.trans k1
  | some p =>
   refine ⟨hgi.trans k1.1,(hpli _ _).trans k1.2.1,k1.2.2.1,k1.2.2.2.1,fun hn=>?_⟩
   rw [act1_boxes,boxEff_out (fun _=>by omega) (fun id he=>Ne.symm (ne (newi hn) (wrj _ he).2.1))]
   exact newi hn
end
end Go.Sx
