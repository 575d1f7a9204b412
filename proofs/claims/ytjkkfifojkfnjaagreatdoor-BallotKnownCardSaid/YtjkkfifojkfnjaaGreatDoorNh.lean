/- Part Nh of the proof. -/
import Derived.Test.YtjkkfifojkfnjaaGreatDoorNg
set_option linter.unusedVariables false
set_option linter.unusedSimpArgs false
namespace Go.Sx
open Go Go.RowKit
section
variable {P:Program} {T:List K} {LA:List Ann} {w0:World} {m:M} {Y:St} {a:Act} {w:World}
def jobWp (P:Program) (n:Nat) (Q:Exit->Act->World->Prop):Job->Act->World->Prop
 | .code c,a,w=>c.wp P Q a w
 | .rounds c,a,w=>Code.rounds P c Q n a w
 | .ops all l,a,w=>wpList P all Q l a w
def Sound (P:Program) (T:List K) (LA:List Ann) (w0:World) (n:Nat):Prop:=∀ (job:Job) (Y:St) (k:Ex->St->Tree) (m:M) (a:Act) (w:World) (goal:Gl) (Q:Exit->Act->World->Prop),
 Rep w0 m Y a w->Y.lvl=goal.stk.length->(run P T LA n job Y k).holds T goal m.env ->
 (∀ e Y' m' a' w' goal',GExt goal goal'->Y'.lvl=goal'.stk.length->MExt m Y.nv Y.al m' Y'.nv Y'.al->Rep w0 m' Y' a' w'->(k e Y').holds T goal' m'.env->Q (exitOf e) a' w')->jobWp P n Q job a w
theorem plan_new {nn nid:Nat} {op:Op} {p:Plan} (hp:plan P T Y nn nid op=.ok p) (he:isNew p.eff=true):mayNew op=true:=by
 cases op with
 | alloc e=>rfl
 | box e x=>rfl
 | buildSlice t n ps=>rfl
 | call c=>rfl
 | binOp op t x y yt =>
  exfalso
  simp only [plan] at hp
  split at hp
  ·split at hp
   ·rename_i q hq
    cases hp
    obtain ⟨id,r,e,n,rfl,rfl,hr,hut,hn,rfl⟩:=rowNil_spec hq
    cases he
   rename_i hnone
   clear hnone
   unfold planBin at hp
   split at hp
   ·simp only [binInt,mkP] at hp
    repeat' split at hp
    all_goals (first | (cases hp;done) | (cases hp;cases he;done))
   all_goals
    try simp only [mkP,okP] at hp
    repeat' split at hp
    all_goals (first | (cases hp;done) | (cases hp;cases he;done))
  ·cases hp
 | _ =>
  exfalso
  simp only [plan,okP,partC,mkP,loadRow,partP,partV] at hp
  repeat' split at hp
  all_goals (first | (cases hp;done) | (cases hp;cases he;done) | (cases hp;rename_i hq;obtain ⟨_,_,_,_,_,_,_,_,_,_,_,_,_,rfl⟩:=markP_spec hq;cases he))
theorem room_ok (h:Rep w0 m Y a w) (op:Op):Rep w0 m (room Y op) a w/\(room Y op).nv=Y.nv/\(room Y op).lvl=Y.lvl/\(room Y op).al=Y.al/\(mayNew op=true->(room Y op).boxes[Y.boxes.length]?=some none):=by
 unfold room
 split
 ·refine ⟨h.room 1,rfl,rfl,?_,fun _=>by simp⟩
  funext id
  unfold St.al
  by_cases hl:id<Y.boxes.length
  ·simp [List.getElem?_append_left hl]
  ·simp only [List.getElem?_eq_none (show Y.boxes.length<=id by omega)]
   rw [List.getElem?_append_right (by omega)]
   by_cases h2:id-Y.boxes.length=0
   ·simp [h2]
   ·rw [List.getElem?_eq_none (by simp;omega)]
 ·rename_i hm
  exact ⟨h,rfl,rfl,rfl,fun e=>absurd e hm⟩
theorem knows (h:Rep w0 m Y a w) {v:Nat} {t f:Tree} {goal:Gl} (hh:(Tree.split v t f).holds T goal m.env) (hv:v<Y.nv) :
  (Rep w0 m (Y.know v true) a w/\t.holds T goal m.env/\m.env v≠0)∨(Rep w0 m (Y.know v false) a w/\f.holds T goal m.env/\m.env v=0):=by
 obtain ⟨h1,h2⟩:=hh
 by_cases hz:m.env v=0
 ·exact .inr ⟨h.know hv (by simp [hz]),h2 hz,hz⟩
 ·exact .inl ⟨h.know hv (by simp [hz]),h1 hz,hz⟩
structure DropOk (Y σd:St) (n:Nat) (ids:List Nat):Prop where
 nv:σd.nv=Y.nv
 kn:σd.kn=Y.kn
 gl:σd.gl=Y.gl
 len:σd.tmps.length=Y.tmps.length
 al:σd.al=Y.al
 box:∀ (id:Nat) (b:Box),σd.boxes[id]?=some (some b)->∃ b',Y.boxes[id]?=some (some b')/\b'.own=b.own/\(b.row=none∨b'.row=b.row/\id ∉ ids)
 room:∀ j,j<n->σd.boxes[Y.boxes.length+j]?=some none
theorem loopD_ok (hR:Rep w0 m Y a w) (c:Code) (ann:Ann) (q:List (A×Option Nat)):Rep w0 m (loopD Y c ann q) a w/\DropOk Y (loopD Y c ann q) ann.lsts.length (lIds q):=by
 unfold loopD
 generalize (((Code.dsts c).filter fun t=>!ann.hav.any fun p=>isSlot t p.1)++ann.lsts.map (·.slot))=dl
 obtain ⟨s1,s2,s3,s4,s5,s6⟩:=dropT_same dl Y
 have h1:=dropT_rep dl hR
 have h2:=h1.noRows (lIds q)
 have h3:=h2.room ann.lsts.length
 have hald:(dropT Y dl).al=Y.al:=by funext id;unfold St.al;rw [s2]
 refine ⟨h3,s1,s3,s4,s6,?_,fun id b hb=>?_,fun j hj=>?_⟩
 ·exact (al_room {dropT Y dl with boxes:=Sx.noRows (dropT Y dl).boxes (lIds q) } _).trans ((noRows_al (lIds q) (dropT Y dl)).trans hald)
 ·have hb:(Sx.noRows (dropT Y dl).boxes (lIds q)++List.replicate ann.lsts.length none)[id]?=some (some b):=hb
  rw [s2] at hb
  have hl:id<(Sx.noRows Y.boxes (lIds q)).length:=by
   rcases Nat.lt_or_ge id (Sx.noRows Y.boxes (lIds q)).length with h | h
   ·exact h
   ·rw [List.getElem?_append_right h] at hb
    have:=List.mem_of_getElem? hb
    rw [List.mem_replicate] at this
    cases this.2
  rw [List.getElem?_append_left hl] at hb
  obtain ⟨b',k1,k2,k3,k4,k5⟩:=noRows_get _ hb
  exact ⟨b',k1,k4,k5⟩
 ·show (Sx.noRows (dropT Y dl).boxes (lIds q)++List.replicate ann.lsts.length none)[Y.boxes.length+j]?=some none
  rw [s2,List.getElem?_append_right (by rw [noRows_len];omega),noRows_len]
  rw [List.getElem?_replicate]
  simp [hj]
theorem loop_ok (hR:Rep w0 m Y a w) {goal:Gl} (hlvl:Y.lvl=goal.stk.length) {ann:Ann} {q:List (A×Option Nat)} {d:Defs×List A} {body:Tree} {c:Code} {k:Ex->St->Tree} {Q:Exit->Act->World->Prop} {why why':String}
  (hq:mapO (takeL Y) ann.lsts=some q) {σd:St} (hσd:σd=loopD Y c ann q)
  (hd:takeH σd Y.nv ann.hav=some d) (ha:havOk ann.hav=true) (hun:unlike (lIds q)=true)
  {σh:St} (hσh:σh=loopH Y σd ann (Y.nv+d.1.length)) {σH:St} (hσH:σH=addL σh Y.boxes.length (Y.nv+d.1.length+hcount ann.hav) ann.lsts)
  (hh:(letts Y.nv d.1 (.loop (d.2++q.map (·.1)) (hkks ann.hav++ann.lsts.map fun h=>.lst h.k) (Y.nv+d.1.length) body)).holds T goal m.env)
  (hbody:∀ m' a' w' goal' Q',Rep w0 m' σH a' w'->σH.lvl=goal'.stk.length->body.holds T goal' m'.env ->
   (∀ e Y' m'' a'' w'' goal'',GExt goal' goal''->Y'.lvl=goal''.stk.length->MExt m' σH.nv σH.al m'' Y'.nv Y'.al->Rep w0 m'' Y' a'' w'' ->
    (match e with
     | .normal=>match backL σh Y' ann.lsts with
      | none=>.bad 315 why
      | some as=>match backH σh Y' (Y.nv+d.1.length) ann.hav with
       | some b=>letts Y'.nv b.1 (.back Y.lvl (b.2++as))
       | none=>.bad 311 why'
     | e=>k e Y':Tree).holds T goal'' m''.env->Q' (exitOf e) a'' w'')->c.wp P Q' a' w')
  (hQ:∀ e Y' m' a' w' goal',GExt goal goal'->Y'.lvl=goal'.stk.length->MExt m Y.nv Y.al m' Y'.nv Y'.al->Rep w0 m' Y' a' w'->(k e Y').holds T goal' m'.env->Q (exitOf e) a' w') :
  (Code.loop c).wp P Q a w:=by
 obtain ⟨d1,d2⟩:=d
 obtain ⟨pos,hav,lsts⟩:=ann
 simp only at hd ha hσh hσH hh hbody hq
 obtain ⟨hRd,D⟩:=loopD_ok hR c ⟨pos,hav,lsts⟩ q
 rw [<- hσd] at hRd D
 have Droom:∀ j,j<lsts.length->σd.boxes[Y.boxes.length+j]?=some none:=D.room
 obtain ⟨t1,t2,t3⟩:=takeH_ok (T:=T) hRd hav _ _ _ hd
 obtain ⟨g1,g2⟩:=t1 (by rw [D.nv];omega)
 obtain ⟨e0,b1,b2,b3,b4⟩:=letts_holds _ _ _ hh g1
 obtain ⟨I,μ,i1,i2⟩:=b4
 obtain ⟨t4,_⟩:=t3 e0 (fun i hi=>b1 i (by rw [D.nv] at hi;omega)) b3
 have hnv:σh.nv=Y.nv+d1.length+(hcount hav+lsts.length):=by rw [hσh];rfl
 have hhead:HeadOk σh (Y.nv+d1.length) hav:=by rw [hσh];exact head_ok hRd ha (by rw [D.nv];omega)
 have halh:σh.al=Y.al:=by rw [hσh];exact (putH_al hav _ _).trans D.al
 have hknh:σh.kn=Y.kn:=by rw [hσh];exact (putH_same hav _ _).1.trans D.kn
 have hglh:σh.gl=Y.gl:=by rw [hσh];exact (putH_same hav _ _).2.trans D.gl
 have hlenh:σh.tmps.length=σd.tmps.length:=by rw [hσh];exact (putH_len hav _ _)
 have htmph:σh.tmps=(putH σd (Y.nv+d1.length) hav).tmps:=by rw [hσh];rfl
 have hboxh:σh.boxes=(putH σd (Y.nv+d1.length) hav).boxes:=by rw [hσh];rfl
 have hlvh:σh.lvl=Y.lvl+1:=by rw [hσh];rfl
 have hsl:=havOk_slot ha
 obtain ⟨a1,a2,a3,a4⟩:=addL_same lsts σh Y.boxes.length (Y.nv+d1.length+hcount hav)
 rw [<- hσH] at a1 a2 a3 a4
 have hroom:∀ j,j<lsts.length->σh.boxes[Y.boxes.length+j]?=some none:=fun j hj=>by
  have h1:=none_iff.1 (Droom j hj)
  rw [none_iff,halh,<- D.al]
  refine ⟨?_,h1.2⟩
  rw [hboxh,putH_blen];exact h1.1
 obtain ⟨q1,q2⟩:=mapO_get hq
 let J:Nat->Act->World->Prop:=fun n a' w'=>∃ (mr:M) (us:List Int),kkHas (hkks hav++lsts.map fun h=>.lst h.k) us/\I us/\μ us=n/\mr.env=updL e0 (Y.nv+d1.length) us/\MExt m Y.nv Y.al mr σH.nv σH.al/\Rep w0 mr σH a' w'
 have hkn':∀ (vs:List Int),∀ p∈σh.kn,p.1<σh.nv/\decide (updL e0 (Y.nv+d1.length) vs p.1≠0)=p.2:=by
  intro vs p hp
  rw [hknh] at hp
  obtain ⟨h1,h2⟩:=hR.kn p hp
  refine ⟨by omega,?_⟩
  rw [updL_low _ _ _ _ (by omega),b1 _ h1];exact h2
 have heads:∀ {σs:St} {ms:M} {as':Act} {ws:World} {E e1:Nat->Int} {qs:List (A×Option Nat)} {ba:List A},Rep w0 ms σs as' ws->mapO (takeL σs) lsts=some qs->unlike (lIds qs)=true ->
   Rep w0 {ms with env:=E } σh as' ws->FromRow ms {ms with env:=E } σs σh (lIds qs)->(∀ i,i<σs.nv->e1 i=ms.env i)->ba.length=hcount hav->kkHas (hkks hav) (ba.map (·.ev e1)) ->
   E=updL e0 (Y.nv+d1.length) ((ba++qs.map (·.1)).map (·.ev e1))->MExt m Y.nv Y.al {ms with env:=E } σh.nv σh.al ->
   kkHas (hkks hav++lsts.map fun h=>.lst h.k) ((ba++qs.map (·.1)).map (·.ev e1))/\∃ mr:M,mr.env=E/\MExt m Y.nv Y.al mr σH.nv σH.al/\Rep w0 mr σH as' ws:=by
  intro σs ms as' ws E e1 qs ba h1 h2 h3 h4 h5 h6 h7 h8 h9 h10
  obtain ⟨vs,l1,l2,l3⟩:=lists_ok h1 h2 h3 h5
  obtain ⟨p1,p2⟩:=mapO_get h2
  have hE:∀ (j:Nat) x o,qs[j]?=some (x,o)->x.wf σs.nv ms.env->E (Y.nv+d1.length+hcount hav+j)=x.ev ms.env:=fun j x o hj hx=>by
   rw [h9,Nat.add_assoc (Y.nv+d1.length)]
   rw [updL_get _ _ _ (hcount hav+j) (x.ev e1) (by
    rw [List.map_append,List.getElem?_append_right (by rw [List.length_map,h7];omega),List.length_map,h7]
    simp [hj])]
   exact A.ev_congr hx.1 h6
  refine ⟨?_,?_⟩
  ·rw [List.map_append]
   refine kk_append h8 (kk_lists _ _ (by simp [p1]) fun j h x hj hx=>?_)
   have hjl:j<vs.length:=by rw [l1];exact (List.getElem?_eq_some_iff.1 hj).1
   obtain ⟨y,o,k1,_,k3,k4,_⟩:=l3 j h _ hj (List.getElem?_eq_getElem hjl)
   simp [k1] at hx
   rw [<- hx,A.ev_congr k3.1 h6];exact k4
  ·obtain ⟨mr,r1,r2,r3⟩:=addL_rep lsts σh Y.boxes.length (Y.nv+d1.length+hcount hav) {ms with env:=E } vs h4 hroom l1 (fun j h v hj hv=>by
    obtain ⟨x,o,k1,k2,k3,k4,k5,kf,k6⟩:=l3 j h v hj hv
    have hjl:=(List.getElem?_eq_some_iff.1 hj).1
    have:=hE j x o k1 k3
    refine ⟨k2,by rw [hnv];omega,?_,?_,kf,k6⟩
    ·simp only [this];exact k4
    ·simp only [this];exact k5) l2
   rw [<- hσH] at r2 r3
   exact ⟨mr,r1,h10.trans r2,r3⟩
 have J0:J (μ ((d2++q.map (·.1)).map (·.ev e0))) a w:=by
  have hx0:MExt m Y.nv Y.al {m with env:=updL e0 (Y.nv+d1.length) ((d2++q.map (·.1)).map (·.ev e0)) } σh.nv σh.al:=by
   refine ⟨fun i hi=>?_,fun _ _=>rfl,rfl,fun _ _=>rfl,by omega,fun id hid=>by rw [halh];exact hid⟩
   show updL e0 _ _ i=_
   rw [updL_low _ _ _ _ (by omega),b1 i hi]
  have hrep:Rep w0 {m with env:=updL e0 (Y.nv+d1.length) ((d2++q.map (·.1)).map (·.ev e0)) } σh a w:=by
   refine gen_rep (T:=T) (n0:=Y.nv+d1.length) (N:=Y.nv) (e:=e0) hRd hd (fun i hi=>b1 i (by rw [D.nv] at hi;omega)) b3 ha (fun i hi=>?_) (fun i x hx=>updL_get _ _ _ _ _ ?_) (by omega) (by omega) hlenh (fun i s hi=>?_) (fun id b hb=>?_) (hkn' _) (fun p hp=>?_) (fun id b r hb hr=>?_)
   ·rw [updL_low _ _ _ _ (by omega),b1 i hi]
   ·rw [List.map_append,List.getElem?_append_left (List.getElem?_eq_some_iff.1 hx).1];exact hx
   ·rw [htmph] at hi
    right
    refine ⟨hi,?_⟩
    rcases putH_tmps hav _ _ i s (havS_of ha) hi with ⟨h1,_⟩ | ⟨j,ls,h1,_⟩ | ⟨j,h1,id,lo,hi',k,h2,h3⟩
    ·obtain ⟨v,_,hr⟩:=hRd.tmp i s h1
     right;right
     have:=SV.rel_okN hr
     rw [D.nv,D.al] at this
     rw [halh];exact this
    ·exact .inl ⟨_,List.mem_of_getElem? h1,rfl⟩
    ·obtain ⟨v,_,hr⟩:=hRd.tmp i _ h2
     obtain ⟨b1,b2,b3,_⟩:=(show C.rel m σd.nv σd.al (.slv id lo hi' k) v from hr)
     rw [D.nv] at b3
     rw [D.al] at b1
     exact .inr (.inl ⟨⟨_,List.mem_of_getElem? h1,rfl⟩,id,_,hi',k,h3,by rw [halh];exact b1,b3.1⟩)
   ·rw [hboxh] at hb
    refine ⟨hb,?_⟩
    obtain ⟨b0,h1,h2,h3,h4⟩:=putH_boxes hav _ _ id b hsl hb
    rcases h4 with ⟨rfl,_⟩ | ⟨j,t,ls,h5,h6,_⟩
    ·right
     rw [halh,<- D.al]
     rw [<- D.nv]
     cases ho:b.own with
     | true=>obtain ⟨_,_,vs,_,hr⟩:=hRd.own id b h1 ho;exact fun c hc=>Rels.okN hr c hc
     | false =>
      intro c hc
      rcases hRd.ro id b h1 ho with h0 | ⟨_,hr⟩
      ·rw [h0] at hc;cases hc
      obtain ⟨j,hj⟩:=List.mem_iff_getElem?.1 hc
      obtain ⟨v,_,hv⟩:=hr j c hj
      exact C.rel_okN hv
    ·exact .inl ⟨j,t,ls,h5,h6⟩
   ·rw [hglh] at hp
    rw [halh]
    exact hR.gl p hp
   ·rw [hboxh] at hb
    obtain ⟨b0,h1,h2⟩:=putH_row hav _ _ id b hb
    obtain ⟨r1,r2,_⟩:=hRd.rows id b0 r h1 (h2.symm.trans hr)
    rw [<- D.nv]
    exact ⟨r1.1,r2.1⟩
  have hfr:FromRow m {m with env:=updL e0 (Y.nv+d1.length) ((d2++q.map (·.1)).map (·.ev e0)) } Y σh (lIds q):=by
   refine ⟨fun id b hb ho=>?_,fun id b r hb hr ho=>?_⟩
   ·rw [hboxh] at hb
    obtain ⟨b0,h1,h2,_⟩:=putH_boxes hav _ _ id b hsl hb
    obtain ⟨b',k1,k2,_⟩:=D.box id b0 h1
    exact ⟨b',k1,by rw [k2,<- h2];exact ho,rfl⟩
   ·rw [hboxh] at hb
    obtain ⟨b0,h1,h2⟩:=putH_row hav _ _ id b hb
    obtain ⟨b',k1,k2,k3⟩:=D.box id b0 h1
    have hr0:b0.row=some r:=h2.symm.trans hr
    rcases k3 with k3 | ⟨k3,k4⟩
    ·rw [hr0] at k3;cases k3
    ·exact ⟨k4,⟨b',k1,k3.trans hr0⟩,rfl⟩
  obtain ⟨hk,mr,m1,m2,m3⟩:=heads hR hq hun hrep hfr (fun i hi=>b1 i hi) t2 t4 rfl hx0
  exact ⟨mr,_,hk,i1,rfl,m1,m2,m3⟩
 refine wp_loop_ex J J0 fun n a' w' hJ=>?_
 obtain ⟨mr,vs,v2,v3,v4,v5,v6,v7⟩:=hJ
 have hbh:=i2 vs v2 v3
 rw [<- v5] at hbh
 refine hbody mr a' w' _ _ v7 (by rw [a4,hlvh];simp [hlvl]) hbh fun e Y' m'' a'' w'' goal'' x1 x2 x3 x4 x5=>?_
 have xg:GExt goal goal'':=GExt.trans (g':={goal with stk:=goal.stk++[fun us=>I us/\μ us<μ vs] }) ⟨rfl,_,rfl⟩ x1
 cases e with
 | exit id=>exact hQ (.exit id) Y' m'' a'' w'' goal'' xg x2 (v6.trans x3) x4 x5
 | ret=>exact hQ .ret Y' m'' a'' w'' goal'' xg x2 (v6.trans x3) x4 x5
 | normal =>
  simp only at x5
  show ∃ n',n'<n/\J n' a'' w''
  cases hbl:backL σh Y' lsts with
  | none=>rw [hbl] at x5;exact x5.elim
  | some as =>
  rw [hbl] at x5
  simp only at x5
  cases hb:backH σh Y' (Y.nv+d1.length) hav with
  | none=>rw [hb] at x5;exact x5.elim
  | some bb =>
   rw [hb] at x5
   simp only at x5
   obtain ⟨bd,ba⟩:=bb
   unfold backL at hbl
   split at hbl
   ·cases hbl
   rename_i qs hqs
   split at hbl
   case isFalse=>cases hbl
   rename_i hql
   cases hbl
   simp only [Bool.and_eq_true,List.all_eq_true,Option.isNone_iff_eq_none] at hql
   unfold backH at hb
   split at hb
   ·cases hb
   ·rename_i dd hdd
    simp only at hb
    split at hb
    ·rename_i hcond
     cases hb
     simp only [Bool.and_eq_true,List.all_eq_true] at hcond
     obtain ⟨⟨c1,c2⟩,c3⟩:=hcond
     obtain ⟨c4,c5⟩:=tmpsLe_ok c1
     have c6:=boxesLe_ok c2
     obtain ⟨u1,u2,u3⟩:=takeH_ok (T:=T) x4 hav _ _ _ hdd
     obtain ⟨f1,f2⟩:=u1 (Nat.le_refl _)
     obtain ⟨e1,k1,k2,k3,k4⟩:=letts_holds _ _ _ x5 f1
     obtain ⟨u4,_⟩:=u3 e1 (fun i hi=>k1 i hi) k3
     have k5:I ((ba++qs.map (·.1)).map (·.ev e1))/\μ ((ba++qs.map (·.1)).map (·.ev e1))<μ vs:=by
      obtain ⟨_,r,hr⟩:=x1
      simp only [Tree.holds] at k4
      rw [hr] at k4
      have:(goal.stk++[fun us=>I us/\μ us<μ vs]++r)[Y.lvl]?=some (fun us=>I us/\μ us<μ vs):=by
       rw [hlvl,List.append_assoc,List.getElem?_append_right (Nat.le_refl _)];simp
      simp only [this] at k4
      exact k4
     have hHnv:σH.nv=Y.nv+d1.length+(hcount hav+lsts.length):=a1.trans hnv
     have hx:=v6.trans x3
     have henv:∀ i,i<Y.nv+d1.length->updL e0 (Y.nv+d1.length) ((ba++qs.map (·.1)).map (·.ev e1)) i=m''.env i:=fun i hi=>by
      rw [updL_low _ _ _ _ hi,x3.env i (by omega),v5,updL_low _ _ _ _ hi]
     have hrep:Rep w0 {m'' with env:=updL e0 (Y.nv+d1.length) ((ba++qs.map (·.1)).map (·.ev e1)) } σh a'' w'':=by
      refine gen_rep (T:=T) (n0:=Y.nv+d1.length) (N:=Y.nv+d1.length) (e:=e1) x4 hdd (fun i hi=>k1 i hi) k3 ha henv (fun i x hx=>updL_get _ _ _ _ _ ?_) (by omega) (by omega) (by rw [c4,putH_len]) (fun i s hi=>?_) (fun id b hb=>?_) (hkn' _) (fun p hp=>?_) hhead.row
      ·rw [List.map_append,List.getElem?_append_left (List.getElem?_eq_some_iff.1 hx).1];exact hx
      ·rcases c5 i s hi with h | h
       ·exact .inl h
       ·rcases hhead.tmp i s hi with h' | h' | h' | h'
        ·exact .inl h'
        ·exact .inr ⟨h,.inl h'⟩
        ·exact .inr ⟨h,.inr (.inl h')⟩
        ·exact .inr ⟨h,.inr (.inr h')⟩
      ·refine ⟨c6 id b hb,?_⟩
       rcases hhead.box id b hb with ⟨j,t,ls,h1,h2⟩ | h
       ·have:=c3 _ (List.mem_of_getElem? h1)
        simp only at this
        exact .inl ⟨j,t,ls,h1,by rw [<- sEqb_ok this];exact h2⟩
       ·exact .inr h
      ·rw [hglh] at hp
       obtain ⟨q1,q2⟩:=hR.gl p hp
       exact ⟨by rw [halh];exact q1,by rw [hx.rho _ q1];exact q2⟩
     have hfr:FromRow m'' {m'' with env:=updL e0 (Y.nv+d1.length) ((ba++qs.map (·.1)).map (·.ev e1)) } Y' σh (lIds qs):=by
      refine ⟨fun id b hb ho=>?_,fun id b r hb hr ho=>?_⟩
      ·obtain ⟨b0,h1,h2,_⟩:=putH_boxes hav _ _ id b hsl (c6 id b hb)
       exact ⟨b0,h1,by rw [<- h2];exact ho,rfl⟩
      ·obtain ⟨b0,h1,h2⟩:=putH_row hav _ _ id b (c6 id b hb)
       refine ⟨fun hid=>?_,⟨b0,h1,h2.symm.trans hr⟩,rfl⟩
       have:=hql.2 id hid
       simp only [St.row,St.box_def,hb,hr] at this
       cases this
     have hx0:MExt m Y.nv Y.al {m'' with env:=updL e0 (Y.nv+d1.length) ((ba++qs.map (·.1)).map (·.ev e1)) } σh.nv σh.al:=by
      refine ⟨fun i hi=>?_,hx.rho,hx.ext,hx.sv,by omega,fun id hid=>by rw [halh];exact hid⟩
      show updL e0 _ _ i=_
      rw [updL_low _ _ _ _ (by omega),b1 i hi]
     obtain ⟨hk,mr',m1,m2,m3⟩:=heads x4 hqs hql.1 hrep hfr (fun i hi=>k1 i hi) u2 u4 rfl hx0
     exact ⟨_,by rw [<- v4];exact k5.2,mr',_,hk,k5.1,rfl,m1,m2,m3⟩
    ·cases hb
theorem viewP_ok:∀ (hav:List (Hp×List L)) {t id:Nat} {q:Row},viewP Y hav=some (t,id,q)->Y.tmps[t]?=some (.vl (.one (.sl id)))/\Y.row id=some q
 | [],_,_,_,h=>by cases h
 | (hp,ls)::r,t,id,q,h=>by
  cases hp with
  | slot u=>exact viewP_ok r h
  | box u=>exact viewP_ok r h
  | view u =>
   simp only [viewP] at h
   split at h
   ·split at h
    ·rename_i id' ht _ q' hr
     cases h
     exact ⟨ht,hr⟩
    ·exact viewP_ok r h
   ·exact viewP_ok r h
theorem view_ok (hR:Rep w0 m Y a w) {hav:List (Hp×List L)} {g:Nat×Nat×Row} (hg:viewP Y hav=some g) {goal:Gl} {t:Tree}
  (hh:(Tree.lett Y.nv (.int .i64) (.llen g.2.2.x0) t).holds T goal m.env) :
  ∃ m',MExt m Y.nv Y.al m' (viewS Y g).nv (viewS Y g).al/\Rep w0 m' (viewS Y g) a w/\t.holds T goal m'.env:=by
 obtain ⟨u,id,q⟩:=g
 obtain ⟨h1,h2⟩:=viewP_ok _ hg
 obtain ⟨q1,q2,q5,q6,q3⟩:=hR.row_ok h2
 have hbig:=q3.1.1
 have h3:=hh _ rfl (by show has .i64 _;simp only [D.ev,q6,has,lo,hi];omega)
 simp only [D.ev,q6] at h3
 generalize hE:upd m.env Y.nv ((dec (A.ev m.env q.x)).length:Int)=E at h3
 have hlow:∀ i,i<Y.nv->E i=m.env i:=fun i hi=>by rw [<- hE];simp only [upd];rw [if_neg (by omega)]
 have hat:E Y.nv=((dec (A.ev m.env q.x)).length:Int):=by rw [<- hE];simp [upd]
 have hnm:=hR.names E hlow (Y.nv+1) (by omega)
 refine ⟨{m with env:=E },⟨hlow,fun _ _=>rfl,rfl,fun _ _=>rfl,by show Y.nv<=Y.nv+1;omega,fun _ h=>h⟩,?_,h3⟩
 obtain ⟨v,hv,hr⟩:=hnm.tmp u _ h1
 refine hnm.setT hv ?_
 have hr:C.rel {m with env:=E } (Y.nv+1) Y.al (.sl id) v:=hr
 obtain ⟨r1,r2,r3⟩:=hr
 obtain ⟨b,cap,hsv⟩:=q3.len
 refine ⟨r1,⟨trivial,trivial⟩,⟨by show Y.nv<Y.nv+1;omega,trivial⟩,?_,?_,r3⟩
 ·show (0:Int)<=0/\0<=E Y.nv/\E Y.nv<=((lenV (m.sv id):Nat):Int)/\E Y.nv<=9223372036854775807
  rw [hat,q3.lenV];omega
 ·left
  show v=subV q.k.sz (m.sv id) 0 (E Y.nv).toNat
  rw [hat,r2,Int.toNat_natCast]
  show m.sv id=_
  rw [hsv,subV_zero]
theorem run_sound (hm:P.follows .mixedOrders=true) (hT:∀ (g:Nat) X,T[g]?=some X->X.okAt P w0):∀ n,Sound P T LA w0 n:=by
 intro n
 induction n with
 | zero=>intro job Y k m a w goal Q _ _ hh _;exact hh.elim
 | succ n ih =>
  intro job Y k m a w goal Q hR hl hh hK
  have again:∀ {job':Job} {v:Nat} {k':Ex->St->Tree} {Q':Exit->Act->World->Prop},v<Y.nv->(Tree.split v (run P T LA n job' (Y.know v true) k') (run P T LA n job' (Y.know v false) k')).holds T goal m.env ->
    (∀ e Y' m' a' w' goal',GExt goal goal'->Y'.lvl=goal'.stk.length->MExt m Y.nv Y.al m' Y'.nv Y'.al->Rep w0 m' Y' a' w'->(k' e Y').holds T goal' m'.env->Q' (exitOf e) a' w')->jobWp P n Q' job' a w:=by
   intro job' v k' Q' hv hs hk
   rcases knows hR hs hv with ⟨h1,h2,_⟩ | ⟨h1,h2,_⟩
   ·exact ih job' _ _ _ _ _ _ _ h1 hl h2 hk
   ·exact ih job' _ _ _ _ _ _ _ h1 hl h2 hk
  cases job with
  | rounds c =>
   show c.wp P (Exit.then (Code.rounds P c Q n) Q) a w
   refine ih (.code c) _ _ _ _ _ _ _ hR hl hh fun e Y' m' a' w' goal' x1 x2 x3 x4 x5=>?_
   cases e with
   | normal=>exact ih (.rounds c) _ _ _ _ _ _ _ x4 x2 x5 fun e Y'' m'' a'' w'' goal'' y1 y2 y3 y4 y5=>hK e Y'' m'' a'' w'' goal'' (x1.trans y1) y2 (x3.trans y3) y4 y5
   | exit id=>exact hK (.exit id) _ _ _ _ _ x1 x2 x3 x4 x5
   | ret=>exact hK .ret _ _ _ _ _ x1 x2 x3 x4 x5
  | ops all l =>
   cases l with
   | nil=>exact hK .normal _ _ _ _ _ (GExt.refl _) hl (MExt.refl ..) hR hh
   | cons o rest =>
    obtain ⟨g1,g2⟩:=guard_ok hR (all:=all) (o:=o)
    simp only [run] at hh
    have hrest:∀ {σ1:St} {m1:M} {a1:Act} {w1:World} {goal1:Gl},Rep w0 m1 σ1 a1 w1->σ1.lvl=goal1.stk.length->GExt goal goal1->MExt m Y.nv Y.al m1 σ1.nv σ1.al->(run P T LA n (.ops all rest) σ1 k).holds T goal1 m1.env->wpList P all Q rest a1 w1 :=
     fun h1 h2 h3 h4 h5=>ih (.ops all rest) _ _ _ _ _ _ _ h1 h2 h5 fun e Y'' m'' a'' w'' goal'' y1 y2 y3 y4 y5=>hK e Y'' m'' a'' w'' goal'' (h3.trans y1) y2 (h4.trans y3) y4 y5
    cases hg:guardG all Y o with
    | bad=>rw [hg] at hh;exact hh.elim
    | need v =>
     rw [hg] at hh
     simp only at hh
     split at hh
     ·rename_i hv;exact again (job':=.ops all (o::rest)) hv hh hK
     ·exact hh.elim
    | no =>
     rw [hg] at hh
     show if Region.wanted o (yielded all a.tmps) then _ else _
     rw [if_neg (by rw [g2 hg];simp)]
     have hp:=hR.put (s:=undefS) (v:=undef) ⟨[],rfl,trivial⟩ o.dst
     have hal:(Y.put o.dst undefS).al=Y.al:=by funext id;unfold St.al;rw [(put_same _ _ _).2.1]
     have hn:(Y.put o.dst undefS).nv=Y.nv:=(put_same _ _ _).1
     exact hrest hp (by rw [(put_same _ _ _).2.2.2.2.1];exact hl) (GExt.refl _) (by rw [hal,hn];exact MExt.refl ..) hh
    | yes =>
     rw [hg] at hh
     simp only at hh
     obtain ⟨r1,r2,r3,r4,r5⟩:=room_ok hR o.op
     have wl:o.wp P a w (wpList P all Q rest) Q->wpList P all Q (o::rest) a w:=fun h=>by
      show if Region.wanted o (yielded all a.tmps) then _ else _
      rw [if_pos (g1 hg)];exact .inl h
     cases hfz:freezeP P Y Y.nv o.op with
     | some g =>
      rw [hfz] at hh
      simp only at hh
      obtain ⟨m',y1,y2,y3⟩:=freeze_ok hR hfz hh
      exact ih (.ops all (o::rest)) _ _ _ _ _ _ _ y2 hl y3 fun e Y'' m'' a'' w'' goal'' z1 z2 z3 z4 z5=>hK e Y'' m'' a'' w'' goal'' z1 z2 (y1.trans z3) z4 z5
     | none =>
     rw [hfz] at hh
     simp only at hh
     cases hgr:growP P (room Y o.op) Y.nv o.op with
     | some g =>
      rw [hgr] at hh
      simp only at hh
      have hmay:mayNew o.op=true:=by
       unfold growP at hgr
       split at hgr
       ·rename_i c hc;rw [hc];rfl
       ·cases hgr
      rw [<- r2] at hgr hh
      refine wl (grow_ok r1 (r5 hmay) hgr hh fun m' a' w' x3 x4 x5=>?_)
      rw [r2,r4] at x3
      have hlv:(growS (room Y o.op) Y.boxes.length g o.dst).lvl=goal.stk.length:=by
       unfold growS;rw [(put_same _ _ _).2.2.2.2.1];exact r3.trans hl
      exact hrest x4 hlv (GExt.refl _) x3 x5
     | none =>
     rw [hgr] at hh
     simp only at hh
     cases hmk:makeP P (room Y o.op) o.op with
     | some g =>
      rw [hmk] at hh
      simp only at hh
      have hmay:mayNew o.op=true:=by
       unfold makeP at hmk
       split at hmk
       ·rename_i t l c hc;rw [hc];rfl
       ·cases hmk
      rw [<- r2] at hh
      refine wl (make_ok r1 (r5 hmay) hmk hh fun m' a' w' x3 x4 x5=>?_)
      rw [r2,r4] at x3
      have hlv:(makeS (room Y o.op) Y.boxes.length g o.dst).lvl=goal.stk.length:=by
       unfold makeS;rw [(put_same _ _ _).2.2.2.2.1];exact r3.trans hl
      exact hrest x4 hlv (GExt.refl _) x3 x5
     | none =>
     rw [hmk] at hh
     simp only at hh
     cases hcp:copyP P (room Y o.op) Y.nv o.op with
     | some g =>
      rw [hcp] at hh
      simp only at hh
      rw [<- r2] at hcp hh
      refine wl (copy_ok r1 hcp hh fun m' a' w' x3 x4 x5=>?_)
      rw [r2,r4] at x3
      have hlv:(copyS (room Y o.op) g o.dst).lvl=goal.stk.length:=by
       unfold copyS;rw [(put_same _ _ _).2.2.2.2.1];exact r3.trans hl
      exact hrest x4 hlv (GExt.refl _) x3 x5
     | none =>
     rw [hcp] at hh
     simp only at hh
     cases hp:plan P T (room Y o.op) Y.nv Y.boxes.length o.op with
     | bad why=>rw [hp] at hh;exact hh.elim
     | need v =>
      rw [hp] at hh
      simp only at hh
      split at hh
      ·rename_i hv
       exact again (job':=.ops all (o::rest)) hv hh hK
      ·exact hh.elim
     | ok p =>
      rw [hp] at hh
      simp only at hh
      refine wl (op_step hT r1 hp (by rw [r2];exact Nat.le_refl _) (fun hn=>r5 (plan_new hp hn)) (Y.nv+p.defs.length+p.post.length) (Nat.le_refl _) hh fun m' a' w' _ _ x3 x4 x5=>?_)
      rw [r2,r4] at x3
      exact hrest x4 (by rw [(applyP_len _ _ _ _).2.2];exact r3.trans hl) (GExt.refl _) (by rw [(applyP_len _ _ _ _).2.1];exact x3) x5
     | call f args =>
      rw [hp] at hh
      simp only at hh
      cases hf:P.funcs[f]? with
      | none=>rw [hf] at hh;exact hh.elim
      | some fn =>
       rw [hf] at hh
       simp only at hh
       cases hb:fn.body with
       | none=>rw [hb] at hh;exact hh.elim
       | some c =>
        rw [hb] at hh
        simp only at hh
        split at hh
        ·exact hh.elim
        ·rename_i hnm
         obtain ⟨us,u1,u2⟩:=plan_call r1 hp
         rw [r2,r4] at u1
         refine wl ?_
         unfold Oper.wp
         rw [u2,run_callFunc hf (by simpa using hnm) hb]
         refine calls_of_wp hf hb ?_
         have hin:=enter_rep hR u1 fn.ntmps
         refine ih (.code c) _ _ _ _ _ _ _ hin hl hh fun e Y' m' a' w' goal' x1 x2 x3 x4 x5=>?_
         have key:e=.normal∨e=.ret->bodyPost P fn (fun e w'=>match e with | .returned v=>wpList P all Q rest (a.put o.dst v) w' | .panicked chain=>Q (.panic chain) a w' | .outgrown=>Q .outgrown a w') (exitOf e) a' w':=by
          intro he
          have x6:(match resS P Y' fn with | some vs=>run P T LA n (.ops all rest) ({Y' with tmps:=Y.tmps }.put o.dst (retS vs)) k | none=>.bad 307 o.pos).holds T goal' m'.env:=by
           rcases he with rfl | rfl <;> exact x5
          cases hrs:resS P Y' fn with
          | none=>rw [hrs] at x6;exact x6.elim
          | some vs =>
           rw [hrs] at x6
           simp only at x6
           obtain ⟨zs,z1,z2⟩:=res_ok x4 hrs
           have hback:=(hR.back x4 x3).put (s:=retS vs) (v:=retV zs) (ret_rel z2) o.dst
           have hal:(({Y' with tmps:=Y.tmps }:St).put o.dst (retS vs)).al=Y'.al:=by funext id;unfold St.al;rw [(put_same _ _ _).2.1]
           have hn:(({Y' with tmps:=Y.tmps }:St).put o.dst (retS vs)).nv=Y'.nv:=(put_same _ _ _).1
           have hgo:=hrest hback (by rw [(put_same _ _ _).2.2.2.2.1];exact x2) x1 (by rw [hal,hn];exact x3) x6
           have hd:=x4.defers
           rcases he with rfl | rfl <;> exact ⟨hd,retV zs,z1,hgo⟩
         cases e with
         | normal=>exact key (.inl rfl)
         | ret=>exact key (.inr rfl)
         | exit id=>exact x5.elim
  | code c =>
   show c.wp P Q a w
   cases c with
   | skip=>exact wp_skip (hK .normal _ _ _ _ _ (GExt.refl _) hl (MExt.refl ..) hR hh)
   | label l=>exact wp_label (hK .normal _ _ _ _ _ (GExt.refl _) hl (MExt.refl ..) hR hh)
   | exit id=>exact wp_exit (hK (.exit id) _ _ _ _ _ (GExt.refl _) hl (MExt.refl ..) hR hh)
   | ret=>exact wp_ret (hK .ret _ _ _ _ _ (GExt.refl _) hl (MExt.refl ..) hR hh)
   | seq x y =>
    refine wp_seq (ih (.code x) _ _ _ _ _ _ _ hR hl hh fun e Y' m' a' w' goal' x1 x2 x3 x4 x5=>?_)
    cases e with
    | normal=>exact ih (.code y) _ _ _ _ _ _ _ x4 x2 x5 fun e Y'' m'' a'' w'' goal'' y1 y2 y3 y4 y5=>hK e Y'' m'' a'' w'' goal'' (x1.trans y1) y2 (x3.trans y3) y4 y5
    | exit id=>exact hK (.exit id) _ _ _ _ _ x1 x2 x3 x4 x5
    | ret=>exact hK .ret _ _ _ _ _ x1 x2 x3 x4 x5
   | block id c =>
    refine wp_block (ih (.code c) _ _ _ _ _ _ _ hR hl hh fun e Y' m' a' w' goal' x1 x2 x3 x4 x5=>?_)
    cases e with
    | normal=>exact hK .normal _ _ _ _ _ x1 x2 x3 x4 x5
    | ret=>exact hK .ret _ _ _ _ _ x1 x2 x3 x4 x5
    | exit id' =>
     show if id'=id then Q .normal a' w' else Q (.exit id') a' w'
     simp only at x5
     by_cases hid:id'=id
     ·rw [if_pos hid];rw [if_pos (by simpa using hid)] at x5;exact hK .normal _ _ _ _ _ x1 x2 x3 x4 x5
     ·rw [if_neg hid];rw [if_neg (by simpa using hid)] at x5;exact hK (.exit id') _ _ _ _ _ x1 x2 x3 x4 x5
   | cond c x y =>
    simp only [run] at hh
    cases hc:Y.cell c with
    | none=>rw [hc] at hh;exact hh.elim
    | some cc =>
     rw [hc] at hh
     cases cc with
     | bool t =>
      simp only at hh
      obtain ⟨_,_,hv⟩:=hR.cell hc
      obtain ⟨t1,t2⟩:=hR.truth (x:=t)
      cases ht:truth Y t with
      | bad=>rw [ht] at hh;exact hh.elim
      | yes =>
       rw [ht] at hh
       exact wp_cond_true (by rw [hv];simp [t1 ht]) (ih (.code x) _ _ _ _ _ _ _ hR hl hh hK)
      | no =>
       rw [ht] at hh
       exact wp_cond_false (by rw [hv];simp [t2 ht]) (ih (.code y) _ _ _ _ _ _ _ hR hl hh hK)
      | need v =>
       rw [ht] at hh
       simp only at hh
       have:=truth_need ht
       subst this
       split at hh
       ·rename_i hlt
        rcases knows hR hh hlt with ⟨h1,h2,h3⟩ | ⟨h1,h2,h3⟩
        ·exact wp_cond_true (by rw [hv];simp [A.ev,h3]) (ih (.code x) _ _ _ _ _ _ _ h1 hl h2 hK)
        ·exact wp_cond_false (by rw [hv];simp [A.ev,h3]) (ih (.code y) _ _ _ _ _ _ _ h1 hl h2 hK)
       ·exact hh.elim
     | _=>exact hh.elim
   | region id ops draw =>
    simp only [run] at hh
    cases draw with
    | false=>exact wp_region_list (ih (.ops ops ops.toList) _ _ _ _ _ _ _ hR hl hh hK)
    | true =>
     simp only [if_true] at hh
     split at hh
     ·rename_i q htl
      split at hh
      ·rename_i hd
       refine draw_tail hm hT hR htl hd hh (fun m' a' w' σ0 Y' h1 h2 h3 h4 h5 h6=>by
        split at h6
        case isFalse=>exact h6.elim
        have hr:=dropT_rep (q.1.filterMap (·.dst)) h2
        obtain ⟨s1,s2,s3,s4,s5,s6⟩:=dropT_same (q.1.filterMap (·.dst)) σ0
        have hdp:dropT Y' (q.1.filterMap (·.dst))=dropT σ0 (q.1.filterMap (·.dst)):=by
         rw [<- h3];exact dropT_puts _ _ _ fun o ho t hd=>List.mem_filterMap.2 ⟨o,ho,hd⟩
        rw [hdp] at h6
        have hal:(dropT σ0 (q.1.filterMap (·.dst))).al=σ0.al:=by funext i;unfold St.al;rw [s2]
        have hlv:σ0.lvl=Y'.lvl:=by rw [<- h3];exact (puts_same _ _).2.symm
        exact ih (.ops ops q.1) _ _ _ _ _ _ _ hr (by rw [s5,hlv,h5];exact hl) h6 fun e Y'' m'' a'' w'' goal'' y1 y2 y3 y4 y5=>hK e Y'' m'' a'' w'' goal'' y1 y2 (h1.trans (by rw [s1,hal] at y3;exact y3)) y4 y5) (fun Y' E h=>by split at h <;> first | assumption | exact h.elim)
      ·exact hh.elim
     split at hh
     ·rename_i hd
      refine draw_ok hm hT hR hd hh (fun m' a' w' Y' h1 h2 h3 h4=>by
       split at h4
       case isFalse=>exact h4.elim
       exact hK .normal _ _ _ _ _ (GExt.refl _) (h3.trans hl) h1 h2 h4) (fun Y' E h=>by split at h <;> first | assumption | exact h.elim)
     ·exact hh.elim
   | loop c =>
    simp only [run] at hh
    cases hf:findAnn LA (Code.firstPos c) with
    | none =>
     rw [hf] at hh
     exact wp_loop_rounds n (ih (.rounds c) _ _ _ _ _ _ _ hR hl hh hK)
    | some ann =>
     rw [hf] at hh
     simp only at hh
     cases hvp:viewP Y ann.hav with
     | some g =>
      rw [hvp] at hh
      obtain ⟨m',y1,y2,y3⟩:=view_ok hR hvp hh
      exact ih (.code (.loop c)) _ _ _ _ _ _ _ y2 hl y3 fun e Y'' m'' a'' w'' goal'' z1 z2 z3 z4 z5=>hK e Y'' m'' a'' w'' goal'' z1 z2 (y1.trans z3) z4 z5
     | none =>
     rw [hvp] at hh
     simp only at hh
     split at hh
     ·exact hh.elim
     rename_i q hq
     split at hh
     ·exact hh.elim
     ·rename_i d hd
      split at hh
      ·rename_i ha
       simp only [Bool.and_eq_true] at ha
       refine loop_ok hR hl hq rfl hd ha.1 ha.2 rfl rfl hh (fun m' a' w' goal' Q' y1 y2 y3 y4=>ih (.code c) _ _ _ _ _ _ _ y1 y2 y3 y4) hK
      ·exact hh.elim
   | _=>exact hh.elim
end
def noLst:L->Bool | .lst _=>false | .arr _ n=>decide (0<n) | _=>true
def okSh:Sh->Bool
 | .one l=>okL l
 | .agg ls=>ls.all okL
 | .ptr ls=>ls.all okL && !ls.isEmpty&&ls.all noLst
 | .lst _=>true
 | .lent _=>true
 | .ll=>true
def ptrOf:Value->Nat×Nat
 | .pointer (some p)=>(p.block,p.off)
 | _=>(0,0)
def ptrs:List Sh->List Value->List (Nat×Nat)
 | .ptr _::ss,v::vs=>ptrOf v::ptrs ss vs
 | .lst _::ss,_::vs=>(0,0)::ptrs ss vs
 | .lent _::ss,_::vs=>(0,0)::ptrs ss vs
 | _::ss,_::vs=>ptrs ss vs
 | _,_=>[]
def fullOf:Value->Value
 | .slice b _ c=>.slice b c c
 | v=>v
def slvs:List Sh->List Value->List Value
 | .ptr _::ss,v::vs=>v::slvs ss vs
 | .lst _::ss,v::vs=>v::slvs ss vs
 | .lent _::ss,v::vs=>fullOf v::slvs ss vs
 | _::ss,_::vs=>slvs ss vs
 | _,_=>[]
section
variable {P:Program} {T:List K} {LA:List Ann} {w:World}
theorem lvals_ne:∀ (ls:List L) (xs:List Int),ls.all okL=true->ls.all noLst=true->ls≠[]->lhas ls xs->lvals ls xs≠[]
 | [],_,_,_,h,_=>absurd rfl h
 | .lst k::ls,_,_,h,_,_=>by simp [noLst] at h
 | .cst c::ls,_,h,_,_,_=>by simp [lvals]
 | .int k::ls,[],_,_,_,h=>h.elim
 | .bool::ls,[],_,_,_,h=>h.elim
 | .num::ls,[],_,_,_,h=>h.elim
 | .int k::ls,x::xs,_,_,_,_=>by simp [lvals]
 | .bool::ls,x::xs,_,_,_,_=>by simp [lvals]
 | .num::ls,x::xs,_,_,_,_=>by simp [lvals,limbs]
 | .arr k n::ls,[],_,_,_,h=>h.elim
 | .arr k n::ls,x::xs,_,h,_,h'=>by
  have h1:0<n:=by simp [noLst] at h;omega
  have h2:(dec x).length=n:=h'.1.2
  intro h3
  have h4:=congrArg List.length h3
  simp only [lvals,List.length_append,List.length_map,List.length_nil] at h4
  omega
theorem cell_lt {p:Addr} {v:Value} (h:w.cell? p=some v):p.block<w.heap.size:=by
 unfold World.cell? at h
 cases hb:w.heap[p.block]? with
 | none=>rw [hb] at h;cases h
 | some b=>exact (Array.getElem?_eq_some_iff.1 hb).1
theorem in_ok:∀ (ins:List Sh) (xs:List Int) (args:List Value) (nn id:Nat),ins.all okSh=true->insRel w ins xs args->∀ (m:M) (nv:Nat) (al:Nat->Bool),m.ext.base=w->(∀ (i:Nat) x,xs[i]?=some x->m.env (nn+i)=x)->nn+icount ins<=nv ->
  (∀ (j:Nat) p,(ptrs ins args)[j]?=some p->m.rho (id+j)=p)->(∀ j,j<(inSh nn id ins).2.length->al (id+j)=true)->(∀ (j:Nat) v,(slvs ins args)[j]?=some v->m.sv (id+j)=v) ->
  VRels m nv al (inSh nn id ins).1 args/\∀ (j:Nat) b,(inSh nn id ins).2[j]?=some (some b)->b.own=false/\(b.cells=[]∨(m.rho (id+j)).1<w.heap.size/\∀ (i:Nat) c,b.cells[i]?=some c->∃ v,w.cell? (m.at (id+j) i)=some v/\c.rel m nv al v) /\
   ∀ r,b.row=some r->r.x.wf nv m.env/\r.x0=r.x/\RowAt w w r (m.sv (id+j)) (dec (r.x.ev m.env))/\r.own=false:=by
 intro ins
 induction ins with
 | nil=>intro xs args nn id _ h m nv al _ _ _ _ _ _;obtain ⟨_,rfl⟩:=h;exact ⟨trivial,by simp [inSh]⟩
 | cons s ss ih =>
  intro xs args nn id hok h m nv al hbs he hnv hrho hal hsv
  cases args with
  | nil=>exact h.elim
  | cons u args =>
   obtain ⟨h1,h2,h3⟩:=h
   simp only [List.all_cons,Bool.and_eq_true] at hok
   obtain ⟨ho,hok⟩:=hok
   have het:∀ (i:Nat) x,(xs.take (lcount s.leaves))[i]?=some x->m.env (nn+i)=x:=fun i x hx=>he i x (take_get hx)
   have hed:∀ (i:Nat) x,(xs.drop (lcount s.leaves))[i]?=some x->m.env (nn+lcount s.leaves+i)=x:=fun i x hx=>by
    rw [List.getElem?_drop] at hx
    have:=he _ x hx
    rwa [<- Nat.add_assoc] at this
   have hnv1:nn+lcount s.leaves<=nv:=by simp only [icount] at hnv;omega
   have hnv2:nn+lcount s.leaves+icount ss<=nv:=by simp only [icount] at hnv;omega
   cases s with
   | one l =>
    obtain ⟨r1,r2⟩:=ih _ args (nn+lcount [l]) id hok h3 m nv al hbs hed hnv2 hrho hal hsv
    refine ⟨⟨?_,r1⟩,r2⟩
    have:=in_rel (m:=m) (nv:=nv) (al:=al) [l] nn _ (by simpa [okSh] using ho) h1 het hnv1
    have h2':[u]=lvals [l] (xs.take (lcount [l])):=h2
    rw [Sh.leaves] at this
    rw [<- h2'] at this
    cases hin:inLs nn [l] with
    | nil=>rw [hin] at this;exact this.elim
    | cons c cs=>rw [hin] at this;exact this.1
   | agg ls =>
    obtain ⟨r1,r2⟩:=ih _ args (nn+lcount ls) id hok h3 m nv al hbs hed hnv2 hrho hal hsv
    refine ⟨⟨?_,r1⟩,r2⟩
    exact ⟨_,h2,in_rel (m:=m) (nv:=nv) (al:=al) ls nn _ (by simpa [okSh] using ho) h1 het hnv1⟩
   | ptr ls =>
    obtain ⟨b,off,rfl,h4⟩:=h2
    simp only [okSh,Bool.and_eq_true] at ho
    obtain ⟨ho,hnl⟩:=ho
    have hls:ls≠[]:=by have:=ho.2;cases ls <;> simp_all
    obtain ⟨r1,r2⟩:=ih _ args (nn+lcount ls) (id+1) hok h3 m nv al hbs hed hnv2 (fun j p hp=>by
     have:=hrho (j+1) p (by simpa [ptrs] using hp)
     rwa [show id+(j+1)=id+1+j by omega] at this) (fun j hj=>by
     have:=hal (j+1) (by simp [inSh];exact hj)
     rwa [show id+(j+1)=id+1+j by omega] at this) (fun j v hv=>by
     have:=hsv (j+1) v (by simpa [slvs] using hv)
     rwa [show id+(j+1)=id+1+j by omega] at this)
    have hr0:m.rho id=(b,off):=by simpa [ptrOf] using hrho 0 (b,off) (by simp [ptrs,ptrOf])
    have ha0:al id=true:=by simpa using hal 0 (by simp [inSh])
    refine ⟨⟨⟨ha0,by simp [M.at,hr0]⟩,r1⟩,fun j bx hj=>?_⟩
    cases j with
    | zero =>
     simp [inSh] at hj
     subst hj
     have hin:=in_rel (m:=m) (nv:=nv) (al:=al) ls nn _ ho.1 h1 het hnv1
     refine ⟨rfl,.inr ⟨?_,fun i c hc=>?_⟩,fun r hr=>by cases hr⟩
     ·simp only [Nat.add_zero,hr0]
      cases hlv:lvals ls (xs.take (lcount ls)) with
      | nil=>exact absurd hlv (lvals_ne ls _ ho.1 hnl hls h1)
      | cons v vs=>exact cell_lt (h4 0 v (by rw [Sh.leaves,hlv];rfl))
     ·obtain ⟨v,hv,hr⟩:=hin.get i c hc
      exact ⟨v,by simp only [Nat.add_zero,M.at,hr0];exact h4 i v hv,hr⟩
    | succ j =>
     have:=r2 j bx (by simpa [inSh] using hj)
     rwa [show id+1+j=id+(j+1) by omega] at this
   | lst k =>
    obtain ⟨r1,r2⟩:=ih _ args (nn+1) (id+1) hok h3 m nv al hbs hed hnv2 (fun j p hp=>by
     have:=hrho (j+1) p (by simpa [ptrs] using hp)
     rwa [show id+(j+1)=id+1+j by omega] at this) (fun j hj=>by
     have:=hal (j+1) (by simp [inSh];exact hj)
     rwa [show id+(j+1)=id+1+j by omega] at this) (fun j v hv=>by
     have:=hsv (j+1) v (by simpa [slvs] using hv)
     rwa [show id+(j+1)=id+1+j by omega] at this)
    have ha0:al id=true:=by simpa using hal 0 (by simp [inSh])
    have hs0:m.sv id=u:=by simpa using hsv 0 u (by simp [slvs])
    have hro:RoRow w w k u (dec ((xs.take 1).headD 0)):=h2
    have hhas:lhas [.lst k] (xs.take 1):=h1
    cases xs with
    | nil=>exact hhas.elim
    | cons x xs =>
     have hx:m.env nn=x:=by simpa using he 0 x rfl
     have hro:RoRow w w k u (dec x):=hro
     have hone:u.oneCell'=true:=by
      rcases hro with ⟨hv,_⟩ | ⟨ad,cap,hv,_⟩ <;> rw [hv] <;> rfl
     refine ⟨⟨⟨ha0,hs0.symm,hone⟩,r1⟩,fun j bx hj=>?_⟩
     cases j with
     | zero =>
      simp [inSh] at hj
      subst hj
      refine ⟨rfl,.inl rfl,fun r hr=>?_⟩
      simp only [rowBox,Option.some.injEq] at hr
      subst hr
      refine ⟨⟨show nn<nv by have:nn+1<=nv:=hnv1;omega,trivial⟩,rfl,?_,rfl⟩
      show RowAt w w _ (m.sv (id+0)) (dec (m.env nn))
      rw [Nat.add_zero,hs0,hx]
      exact ⟨hhas.1,hro,fun h=>by cases h⟩
     | succ j =>
      have:=r2 j bx (by simpa [inSh] using hj)
      rwa [show id+1+j=id+(j+1) by omega] at this
   | ll =>
    obtain ⟨r1,r2⟩:=ih _ args (nn+1) id hok h3 m nv al hbs hed hnv2 hrho hal hsv
    refine ⟨⟨?_,r1⟩,r2⟩
    cases xs with
    | nil=>exact h1.elim
    | cons x xs =>
     have hx:m.env nn=x:=by simpa using he 0 x rfl
     have hro:RoLol w u (dec x):=h2
     refine ⟨⟨show nn<nv by have:nn+1<=nv:=hnv1;omega,trivial⟩,?_,?_⟩
     ·show RoLol m.ext.base u (dec (m.env nn))
      rw [hbs,hx];exact hro
     ·rcases hro.2 with ⟨hv,_⟩ | ⟨ad,cap,hv,_⟩ <;> rw [hv] <;> rfl
   | lent k =>
    obtain ⟨r1,r2⟩:=ih _ args (nn+2) (id+1) hok h3 m nv al hbs hed hnv2 (fun j p hp=>by
     have:=hrho (j+1) p (by simpa [ptrs] using hp)
     rwa [show id+(j+1)=id+1+j by omega] at this) (fun j hj=>by
     have:=hal (j+1) (by simp [inSh];exact hj)
     rwa [show id+(j+1)=id+1+j by omega] at this) (fun j v hv=>by
     have:=hsv (j+1) v (by simpa [slvs] using hv)
     rwa [show id+(j+1)=id+1+j by omega] at this)
    have ha0:al id=true:=by simpa using hal 0 (by simp [inSh])
    have hs0:m.sv id=fullOf u:=by simpa using hsv 0 (fullOf u) (by simp [slvs])
    have hnv1':nn+2<=nv:=hnv1
    match xs,h1,h2,he with
    | [],h1,_,_=>exact h1.elim
    | [x],h1,_,_=>exact h1.2.elim
    | x::n::xs,h1,h2,he =>
     have hx:m.env nn=x:=by simpa using he 0 x rfl
     have hn:m.env (nn+1)=n:=he 1 n rfl
     have h2:lentAt k (fun v'=>RoRow w w k v' (dec x)) (dec x) n u:=h2
     have h1:k.hasL (dec x)/\has .i64 n/\True:=h1
     obtain ⟨v',o1,o2,o3,o4⟩:=h2
     obtain ⟨bb,cap,hform⟩:∃ bb cap,v'=.slice bb (dec x).length cap:=by
      rcases o1 with ⟨hv,hl⟩ | ⟨ad,cap,hv,_⟩
      ·exact ⟨none,0,by rw [hv,hl];rfl⟩
      ·exact ⟨_,cap,hv⟩
     have hcap:(dec x).length=cap:=by rw [hform] at o2;exact o2
     have huf:fullOf u=v':=by rw [o4,hform,subV_zero,hcap];rfl
     have hbig:=h1.2.1
     simp only [has,lo,hi] at hbig
     refine ⟨⟨⟨ha0,⟨trivial,trivial⟩,⟨show nn+1<nv by omega,trivial⟩,?_,?_,?_⟩,r1⟩,fun j bx hj=>?_⟩
     ·simp only [A.ev,hn,hs0,huf]
      rw [hform]
      exact ⟨Int.le_refl _,o3.1,o3.2,hbig.2⟩
     ·simp only [A.ev,hn,hs0,huf];exact .inl o4
     ·rw [o4];exact sub_one (by rw [hform];rfl)
     ·cases j with
      | zero =>
       simp [inSh] at hj
       subst hj
       refine ⟨rfl,.inl rfl,fun r hr=>?_⟩
       simp only [rowBox,Option.some.injEq] at hr
       subst hr
       refine ⟨⟨show nn<nv by omega,trivial⟩,rfl,?_,rfl⟩
       show RowAt w w _ (m.sv (id+0)) (dec (m.env nn))
       rw [Nat.add_zero,hs0,huf,hx]
       exact ⟨h1.1,o1,fun _=>o2⟩
      | succ j =>
       have:=r2 j bx (by simpa [inSh] using hj)
       rwa [show id+1+j=id+(j+1) by omega] at this
theorem owns_part {w:World} {n0:Nat} {e:TypeId} {k:LK} {v:Value} {l:List Int} (h:w.ownsRow n0 e k.sz v l.length (flat k l)) {hi:Nat} (hle:hi<=l.length) :
  w.ownsRow n0 e k.sz (subV k.sz v 0 hi) (l.take hi).length (flat k (l.take hi)):=by
 refine ⟨flat_len _ _,?_⟩
 rcases h.2 with ⟨hv,hn⟩ | ⟨g,cap,cur,hv,h1,h2,h3,h4,h5,h6⟩
 ·have:hi=0:=by omega
  subst this
  exact .inl ⟨by rw [hv];rfl,by simp⟩
 ·have hl:(l.take hi).length=hi:=by rw [List.length_take];omega
  refine .inr ⟨g,cap,cur,by rw [hv,subV_zero,hl],h1,h2,by omega,h4,h5,?_⟩
  rw [flat_take,<- h6,hl,List.take_take,Nat.min_eq_left (Nat.mul_le_mul_right _ hle)]
theorem takeOuts_ok {w0:World} {Y:St} {a:Act}:∀ (os:List Oh) (vs:List V) (nn:Nat) (ds:Defs) (as:List A),takeOuts Y nn os vs=some (ds,as)->∀ {m:M},Rep w0 m Y a w->∀ {us:List Value},VRels m Y.nv Y.al vs us ->
  (Y.nv<=nn->GenOk T m.env nn ds/\(∀ a∈as,a.ok (nn+ds.length))) /\
  ∀ e',(∀ i,i<Y.nv->e' i=m.env i)->Told T e' nn ds->outsRel w0.heap.size w os (as.map (·.ev e')) us:=by
 intro os
 induction os with
 | nil =>
  intro vs nn ds as h m hrep us hu
  cases vs with
  | cons v vs=>cases h
  | nil =>
   simp [takeOuts] at h
   obtain ⟨rfl,rfl⟩:=h
   cases us with
   | cons u us=>exact hu.elim
   | nil=>exact ⟨fun _=>⟨trivial,by simp⟩,fun _ _ _=>⟨rfl,rfl⟩⟩
 | cons s os ih =>
  intro vs nn ds as h m hrep us hu
  cases vs with
  | nil=>cases h
  | cons v vs =>
   cases us with
   | nil=>exact hu.elim
   | cons u us =>
    obtain ⟨hu1,hu2⟩:=hu
    simp only [takeOuts] at h
    cases hd:takeOh Y nn s v with
    | none=>rw [hd] at h;cases h
    | some d =>
     rw [hd] at h
     simp only at h
     cases hr:takeOuts Y (nn+d.1.length) os vs with
     | none=>rw [hr] at h;cases h
     | some r =>
      rw [hr] at h
      simp only [Option.some.injEq,Prod.mk.injEq] at h
      obtain ⟨rfl,rfl⟩:=h
      obtain ⟨d1,d2⟩:=d
      obtain ⟨r1,r2⟩:=r
      simp only at hr ⊢
      obtain ⟨i1,i2⟩:=ih vs (nn+d1.length) r1 r2 hr hrep hu2
      have one:(Y.nv<=nn->GenOk T m.env nn d1/\(∀ a∈d2,a.ok (nn+d1.length)))/\d2.length=lcount s.leaves /\
        ∀ e',(∀ i,i<Y.nv->e' i=m.env i)->Told T e' nn d1->lhas s.leaves (d2.map (·.ev e'))/\s.rel w0.heap.size w (d2.map (·.ev e')) u:=by
       unfold takeOh at hd
       split at hd
       ·rename_i l c
        obtain ⟨g1,g3,g4⟩:=takeLs_ok (T:=T) _ _ _ _ _ hd m Y.nv [u] ⟨hu1,trivial⟩
        exact ⟨g1,g3,fun e' he ht=>by obtain ⟨g5,g6⟩:=g4 e' he ht;exact ⟨g6,g5.symm⟩⟩
       ·rename_i ls cs
        obtain ⟨vs',rfl,hr'⟩:=hu1
        obtain ⟨g1,g3,g4⟩:=takeLs_ok (T:=T) _ _ _ _ _ hd m Y.nv vs' hr'
        exact ⟨g1,g3,fun e' he ht=>by obtain ⟨g5,g6⟩:=g4 e' he ht;exact ⟨g6,by simp only [Oh.rel];rw [g5]⟩⟩
       ·rename_i e ls id
        split at hd
        ·rename_i b hb
         split at hd
         ·rename_i hc
          simp only [Bool.and_eq_true,beq_iff_eq] at hc
          have hb':Y.boxes[id]?=some (some b):=by
           rw [St.box_def] at hb
           split at hb
           ·cases hb;assumption
           ·cases hb
          obtain ⟨k1,k2,vs',k3,k4⟩:=hrep.own id b hb' hc.1.1
          rw [hc.1.2] at k3
          obtain ⟨g1,g3,g4⟩:=takeLs_ok (T:=T) _ _ _ _ _ hd m Y.nv vs' k4
          refine ⟨g1,g3,fun e' he ht=>?_⟩
          obtain ⟨g5,g6⟩:=g4 e' he ht
          refine ⟨g6,(m.rho id).1,k2,?_,?_⟩
          ·rw [hu1.2];simp [M.at,k1]
          ·rw [g5,k3,hc.2]
         ·cases hd
        ·cases hd
       ·rename_i e k
        cases hd
        have hu1:u=.slice none 0 0:=hu1
        refine ⟨fun _=>⟨trivial,fun x hx=>by rw [List.mem_singleton.1 hx];trivial⟩,rfl,fun e' _ _=>?_⟩
        simp only [List.map_cons,List.map_nil,Oh.leaves,lhas,Oh.rel,List.headD_cons,A.ev,dec_zero]
        exact ⟨⟨⟨by simp,by simp⟩,trivial⟩,by rw [hu1];exact World.ownsRow_nil ..⟩
       ·rename_i e k id
        split at hd
        ·rename_i r hr0
         split at hd
         ·rename_i hc
          simp only [Bool.and_eq_true,beq_iff_eq] at hc
          obtain ⟨⟨hc1,hc2⟩,hc3⟩:=hc
          cases hd
          have hk:=LKeq_ok hc3
          subst hk
          subst hc2
          have hu1:Y.al id=true/\u=m.sv id/\u.oneCell'=true:=hu1
          obtain ⟨q1,q2,_,_,q3⟩:=hrep.row_ok hr0
          have q4:=q3.2.1
          rw [hc1] at q4
          simp only [if_true] at q4
          refine ⟨fun hn=>⟨trivial,fun x hx=>by rw [List.mem_singleton.1 hx];exact A.ok_mono q2.1 (by simpa using hn)⟩,rfl,fun e' he _=>?_⟩
          simp only [List.map_cons,List.map_nil,Oh.leaves,lhas,Oh.rel,List.headD_cons]
          rw [A.ev_congr q2.1 he,hu1.2.1]
          exact ⟨⟨q3.1,trivial⟩,q4⟩
         ·cases hd
        ·cases hd
       ·rename_i e k id lo' hi' k'
        split at hd
        ·rename_i r hr0
         split at hd
         ·rename_i hc
          simp only [Bool.and_eq_true,beq_iff_eq] at hc
          obtain ⟨⟨⟨⟨hc1,hc2⟩,hc3⟩,hc4⟩,hc5⟩:=hc
          cases hd
          have hk:=LKeq_ok hc3
          subst hk
          have hk2:=LKeq_ok hc4
          subst hk2
          subst hc2
          have hz:=isZ_ok hc5
          subst hz
          obtain ⟨b1,b2,b3,b4,b5,b6⟩:=(show C.rel m Y.nv Y.al (.slv id (.lit 0) hi' r.k) u from hu1)
          obtain ⟨q1,q2,_,_,q3⟩:=hrep.row_ok hr0
          have q4:=q3.2.1
          rw [hc1] at q4
          simp only [if_true] at q4
          rw [q3.lenV] at b4
          have c1:0<=hi'.ev m.env:=b4.2.1
          have c2:hi'.ev m.env<=((dec (r.x.ev m.env)).length:Int):=b4.2.2.1
          have b5':u=subV r.k.sz (m.sv id) 0 (hi'.ev m.env).toNat:=isView.zero b5
          have hown:=owns_part q4 (hi:=(hi'.ev m.env).toNat) (by omega)
          have hL:=q3.1.sub (hi'.ev m.env).toNat 0
          refine ⟨fun hn=>⟨⟨⟨A.ok_mono q2.1 hn,trivial,A.ok_mono b3.1 hn⟩,by simp only [KK.has,D.ev,dec_enc];exact hL,trivial⟩,fun x hx=>by rw [List.mem_singleton.1 hx];show nn<nn+1;omega⟩,rfl,fun e' he ht=>?_⟩
          have h0:e' (nn+0)=enc (((dec (r.x.ev e')).take (hi'.ev e').toNat).drop 0):=(ht 0 _ _ rfl).1
          rw [List.drop_zero,A.ev_congr q2.1 he,A.ev_congr b3.1 he] at h0
          have hv:dec (A.ev e' (.var nn))=(dec (r.x.ev m.env)).take (hi'.ev m.env).toNat:=by
           show dec (e' (nn+0))=_
           rw [h0,dec_enc]
          rw [List.drop_zero] at hL
          show (r.k.hasL (dec (A.ev e' (.var nn)))/\True)/\w.ownsRow w0.heap.size r.elem r.k.sz u (dec (A.ev e' (.var nn))).length (flat r.k (dec (A.ev e' (.var nn))))
          rw [hv,b5']
          exact ⟨⟨hL,trivial⟩,hown⟩
         ·cases hd
        ·cases hd
       ·rename_i e k
        cases hd
        have hu1:u=.slice none 0 0:=hu1
        refine ⟨fun _=>⟨trivial,fun x hx=>?_⟩,rfl,fun e' _ _=>?_⟩
        ·simp only [List.mem_cons,List.not_mem_nil,or_false] at hx
         rcases hx with rfl | rfl <;> trivial
        ·simp only [List.map_cons,List.map_nil,Oh.leaves,lhas,Oh.rel,List.headD_cons,A.ev,dec_zero]
         exact ⟨⟨⟨by simp,by simp⟩,⟨by simp [has,lo,hi],trivial⟩⟩,.slice none 0 0,World.ownsRow_nil ..,rfl,by simp,by rw [hu1];rfl⟩
       ·rename_i e k id lo' hi' k'
        split at hd
        ·rename_i r hr0
         split at hd
         ·rename_i hc
          simp only [Bool.and_eq_true,beq_iff_eq] at hc
          obtain ⟨⟨⟨⟨⟨hc1,hc2⟩,hc3⟩,hc4⟩,hc6⟩,hc5⟩:=hc
          cases hd
          have hk:=LKeq_ok hc3
          subst hk
          have hk2:=LKeq_ok hc4
          subst hk2
          subst hc2
          have hz:=isZ_ok hc5
          subst hz
          obtain ⟨b1,b2,b3,b4,b5,b6⟩:=(show C.rel m Y.nv Y.al (.slv id (.lit 0) hi' r.k) u from hu1)
          obtain ⟨q1,q2,_,_,q3⟩:=hrep.row_ok hr0
          have q4:=q3.2.1
          rw [hc1] at q4
          simp only [if_true] at q4
          rw [q3.lenV] at b4
          have c1:0<=hi'.ev m.env:=b4.2.1
          have c2:hi'.ev m.env<=((dec (r.x.ev m.env)).length:Int):=b4.2.2.1
          have c3:=b4.2.2.2
          refine ⟨fun hn=>⟨trivial,fun x hx=>?_⟩,rfl,fun e' he ht=>?_⟩
          ·simp only [List.mem_cons,List.not_mem_nil,or_false] at hx
           rcases hx with rfl | rfl
           ·exact A.ok_mono q2.1 (by simpa using hn)
           ·exact A.ok_mono b3.1 (by simpa using hn)
          ·have hx0:A.ev e' r.x=A.ev m.env r.x:=A.ev_congr q2.1 he
           have hv0:A.ev e' hi'=A.ev m.env hi':=A.ev_congr b3.1 he
           show lhas [.lst r.k,.int .i64] [A.ev e' r.x,A.ev e' hi']/\lentAt r.k (fun v'=>w.ownsRow w0.heap.size r.elem r.k.sz v' (dec (A.ev e' r.x)).length (flat r.k (dec (A.ev e' r.x)))) (dec (A.ev e' r.x)) (A.ev e' hi') u
           rw [hx0,hv0]
           exact ⟨⟨q3.1,by simp only [has,lo,hi];omega,trivial⟩,m.sv id,q4,q3.2.2 hc6,⟨c1,c2⟩,isView.zero b5⟩
         ·cases hd
        ·cases hd
       ·rename_i e k id hi' n
        split at hd
        ·rename_i b hb
         split at hd
         ·rename_i hc
          simp only [Bool.and_eq_true,beq_iff_eq,decide_eq_true_eq] at hc
          obtain ⟨⟨⟨⟨⟨hc1,hcf⟩,hc2⟩,hn0⟩,hn1⟩,hlen⟩:=hc
          split at hd
          ·rename_i ds' as' htk
           cases hd
           obtain ⟨b1,b2,b3,b4⟩:=(show C.rel m Y.nv Y.al (.slS id 0 hi' n) u from hu1)
           obtain ⟨k1,k2,vs',k3,k4⟩:=hrep.own id b (box_some hb) hc1
           rw [hcf] at k3
           obtain ⟨g1,g3,g4⟩:=takeNK_ok (T:=T) _ _ _ _ _ htk m Y.nv vs' k4
           have hvl:vs'.length=n*k.sz:=by rw [<- k4.length,hlen]
           refine ⟨fun hn=>⟨gen_append _ _ _ _ (g1 hn).1 fun e1 he1 ht1=>⟨⟨trivial,(g1 hn).2⟩,?_,trivial⟩,?_⟩,rfl,fun e' he ht=>?_⟩
           ·simp only [KK.has,D.ev,A.ev,dec_zero,dec_enc,List.nil_append]
            exact ⟨by rw [List.length_map,g3];omega,(g4 e1 (fun i hi=>he1 i (by omega)) ht1).2⟩
           ·intro x hx
            simp only [List.mem_cons,List.not_mem_nil,or_false] at hx
            rcases hx with rfl | rfl
            ·show nn+ds'.length<nn+(ds'++_).length
             simp
            ·exact A.ok_mono b2.1 (by omega)
           ·obtain ⟨t1,t2⟩:=Told.append.1 ht
            have h0:e' (nn+ds'.length)=enc (as'.map (·.ev e')):=by
             have h1:e' (nn+ds'.length+0)=enc (dec 0++as'.map (·.ev e')):=(t2 0 _ _ rfl).1
             rwa [dec_zero,List.nil_append] at h1
            obtain ⟨f1,f2⟩:=g4 e' he t1
            have hv0:A.ev e' hi'=A.ev m.env hi':=A.ev_congr b2.1 he
            have hl:(as'.map (·.ev e')).length=n:=by rw [List.length_map,g3]
            show lhas [.lst k,.int .i64] [e' (nn+ds'.length),A.ev e' hi']/\lentAt k (fun v'=>w.ownsRow w0.heap.size e k.sz v' (dec (e' (nn+ds'.length))).length (flat k (dec (e' (nn+ds'.length))))) (dec (e' (nn+ds'.length))) (A.ev e' hi') u
            rw [h0,dec_enc,hv0,f1,hl]
            refine ⟨⟨(show k.hasL (dec (enc (as'.map (·.ev e')))) by rw [dec_enc];exact ⟨by rw [hl];omega,f2⟩),by simp only [has,lo,hi];omega,trivial⟩,.slice (some ⟨(m.rho id).1,0,none⟩) n n,⟨hvl,.inr ⟨(m.rho id).1,n,vs'.toArray,rfl,k2,by rw [k3,hc2],Nat.le_refl _,by unfold maxLen;omega,by simpa using hvl,?_⟩⟩,rfl,⟨b3.1,by rw [hl];exact b3.2⟩,?_⟩
            ·rw [List.take_of_length_le (by rw [<- hvl];simp)]
            ·rw [b4,subV_zero];simp [M.at,k1]
          ·cases hd
         ·cases hd
        ·cases hd
       ·rename_i e k id n n'
        split at hd
        ·rename_i b hb
         split at hd
         ·rename_i hc
          simp only [Bool.and_eq_true,beq_iff_eq,decide_eq_true_eq] at hc
          obtain ⟨⟨⟨⟨⟨⟨hc1,hcf⟩,hc2⟩,hn0⟩,hn1⟩,hnn⟩,hlen⟩:=hc
          split at hd
          ·rename_i ds' as' htk
           cases hd
           subst hnn
           have hu1:=(show C.rel m Y.nv Y.al (.slice id 0 n n) u from hu1)
           obtain ⟨k1,k2,vs',k3,k4⟩:=hrep.own id b (box_some hb) hc1
           rw [hcf] at k3
           obtain ⟨g1,g3,g4⟩:=takeNK_ok (T:=T) _ _ _ _ _ htk m Y.nv vs' k4
           have hvl:vs'.length=n*k.sz:=by rw [<- k4.length,hlen]
           refine ⟨fun hn=>⟨gen_append _ _ _ _ (g1 hn).1 fun e1 he1 ht1=>⟨⟨trivial,(g1 hn).2⟩,?_,trivial⟩,?_⟩,rfl,fun e' he ht=>?_⟩
           ·simp only [KK.has,D.ev,A.ev,dec_zero,dec_enc,List.nil_append]
            exact ⟨by rw [List.length_map,g3];omega,(g4 e1 (fun i hi=>he1 i (by omega)) ht1).2⟩
           ·intro x hx
            rw [List.mem_singleton.1 hx]
            show nn+ds'.length<nn+(ds'++_).length
            simp
           ·obtain ⟨t1,t2⟩:=Told.append.1 ht
            have h0:e' (nn+ds'.length)=enc (as'.map (·.ev e')):=by
             have h1:e' (nn+ds'.length+0)=enc (dec 0++as'.map (·.ev e')):=(t2 0 _ _ rfl).1
             rwa [dec_zero,List.nil_append] at h1
            obtain ⟨f1,f2⟩:=g4 e' he t1
            have hl:(as'.map (·.ev e')).length=n:=by rw [List.length_map,g3]
            show lhas [.lst k] [e' (nn+ds'.length)]/\w.ownsRow w0.heap.size e k.sz u (dec (e' (nn+ds'.length))).length (flat k (dec (e' (nn+ds'.length))))
            rw [h0,dec_enc,f1,hl]
            refine ⟨⟨(show k.hasL (dec (enc (as'.map (·.ev e')))) by rw [dec_enc];exact ⟨by rw [hl];omega,f2⟩),trivial⟩,hvl,.inr ⟨(m.rho id).1,n,vs'.toArray,?_,k2,by rw [k3,hc2],Nat.le_refl _,by unfold maxLen;omega,by simpa using hvl,?_⟩⟩
            ·rw [hu1.2];simp [M.at,k1]
            ·rw [List.take_of_length_le (by rw [<- hvl];simp)]
          ·cases hd
         ·cases hd
        ·cases hd
       ·rename_i e ls id n n'
        split at hd
        ·rename_i b hb
         split at hd
         ·rename_i hc
          simp only [Bool.and_eq_true,beq_iff_eq] at hc
          obtain ⟨⟨⟨⟨hc1,hcf⟩,hc2⟩,hn0⟩,hn1⟩:=hc
          subst hn0
          subst hn1
          have hu1:=(show C.rel m Y.nv Y.al (.slice id 0 b.cells.length b.cells.length) u from hu1)
          obtain ⟨k1,k2,vs',k3,k4⟩:=hrep.own id b (box_some hb) hc1
          rw [hcf] at k3
          obtain ⟨g1,g3,g4⟩:=takeLs_ok (T:=T) _ _ _ _ _ hd m Y.nv vs' k4
          refine ⟨g1,g3,fun e' he ht=>?_⟩
          obtain ⟨g5,g6⟩:=g4 e' he ht
          have hl:=k4.length
          refine ⟨g6,(m.rho id).1,k2,?_,?_⟩
          ·rw [g5,<- hl,hu1.2];simp [M.at,k1]
          ·rw [g5,k3,hc2,hl]
         ·cases hd
        ·cases hd
       ·cases hd
      obtain ⟨o1,o2,o3⟩:=one
      refine ⟨fun hn=>⟨gen_append _ _ _ _ (o1 hn).1 fun e1 he1 _=>?_,?_⟩,fun e2 he2 ht2=>?_⟩
      ·have hx:MExt m Y.nv Y.al {m with env:=e1 } Y.nv Y.al:=⟨fun i hi=>he1 i (by omega),fun _ _=>rfl,rfl,fun _ _=>rfl,Nat.le_refl _,fun _ h=>h⟩
       exact ((ih _ _ _ _ hr (hrep.names e1 (fun i hi=>he1 i (by omega)) Y.nv (Nat.le_refl _)) (hu2.mono hx)).1 (by show Y.nv<=_;omega)).1
      ·intro x hx
       rcases List.mem_append.1 hx with hx | hx
       ·exact A.ok_mono ((o1 hn).2 x hx) (by simp)
       ·exact A.ok_mono ((i1 (by omega)).2 x hx) (by simp;omega)
      ·rw [Told.append] at ht2
       obtain ⟨h1,h2⟩:=o3 e2 he2 ht2.1
       have h3:=i2 e2 he2 ht2.2
       have e1:(List.map (fun x=>A.ev e2 x) d2++List.map (fun x=>A.ev e2 x) r2).take (lcount s.leaves)=List.map (fun x=>A.ev e2 x) d2:=by
        rw [List.take_append_of_le_length (by simp [o2]),List.take_of_length_le (by simp [o2])]
       have e2':(List.map (fun x=>A.ev e2 x) d2++List.map (fun x=>A.ev e2 x) r2).drop (lcount s.leaves)=List.map (fun x=>A.ev e2 x) r2:=by
        rw [List.drop_append_of_le_length (by simp [o2]),List.drop_of_length_le (by simp [o2])];rfl
       simp only [List.map_append,outsRel,e1,e2']
       exact ⟨h1,h2,h3⟩
theorem ptrs_length (w:World):∀ (ins:List Sh) (xs:List Int) (args:List Value) (nn id:Nat),insRel w ins xs args->(inSh nn id ins).2.length=(ptrs ins args).length
 | [],_,args,nn,id,h=>by cases args <;> rfl
 | s::ss,xs,[],nn,id,h=>h.elim
 | s::ss,xs,u::args,nn,id,h=>by
  cases s with
  | one l=>exact ptrs_length w ss _ args _ _ h.2.2
  | agg l=>exact ptrs_length w ss _ args _ _ h.2.2
  | ll=>exact ptrs_length w ss _ args _ _ h.2.2
  | ptr l=>simp only [inSh,ptrs,List.length_cons];rw [ptrs_length w ss _ args _ _ h.2.2]
  | lst k=>simp only [inSh,ptrs,List.length_cons];rw [ptrs_length w ss _ args _ _ h.2.2]
  | lent k=>simp only [inSh,ptrs,List.length_cons];rw [ptrs_length w ss _ args _ _ h.2.2]
theorem inSh_some:∀ (ins:List Sh) (nn id:Nat) (j:Nat),j<(inSh nn id ins).2.length->∃ b,(inSh nn id ins).2[j]?=some (some b)
 | [],_,_,_,h=>by simp [inSh] at h
 | s::ss,nn,id,j,h=>by
  cases s with
  | one l=>exact inSh_some ss _ _ j h
  | agg l=>exact inSh_some ss _ _ j h
  | ll=>exact inSh_some ss _ _ j h
  | ptr l =>
   cases j with
   | zero=>exact ⟨_,rfl⟩
   | succ j=>simpa [inSh] using inSh_some ss (nn+lcount l) (id+1) j (by simpa [inSh] using h)
  | lst k =>
   cases j with
   | zero=>exact ⟨_,rfl⟩
   | succ j=>simpa [inSh] using inSh_some ss (nn+1) (id+1) j (by simpa [inSh] using h)
  | lent k =>
   cases j with
   | zero=>exact ⟨_,rfl⟩
   | succ j=>simpa [inSh] using inSh_some ss (nn+2) (id+1) j (by simpa [inSh] using h)
def envOf (xs:List Int):Nat->Int:=fun i=>xs.getD i 0
theorem GlobOk.below {gls:Gls} {w0 w:World} (h:GlobOk gls w0) (hb:Below w0.heap.size w0 w):GlobOk gls w:=fun p hp=>by
 obtain ⟨h1,h2,h3⟩:=h p hp
 exact ⟨Nat.lt_of_lt_of_le h1 hb.size,h2,fun j c hc=>by rw [hb.cell (p:=⟨p.1,j,none⟩) h1];exact h3 j c hc⟩
theorem K.ok.up {X:K} {gls:Gls} (h:X.ok P):X.ok P gls:=fun w _=>h w fun _ hp=>absurd hp (List.not_mem_nil)
theorem glB_mem:∀ (gls:Gls) (id:Nat) (p:Nat×Nat),p∈glB id gls->∃ j q,gls[j]?=some q/\p=(q.1,id+j)
 | [],_,p,h=>absurd h (List.not_mem_nil)
 | q::r,id,p,h=>by
  rcases List.mem_cons.1 h with rfl | h
  ·exact ⟨0,q,rfl,rfl⟩
  ·obtain ⟨j,q',h1,h2⟩:=glB_mem r (id+1) p h
   exact ⟨j+1,q',by simpa using h1,by rw [h2];congr 1;omega⟩
theorem gl_box {l:List (Option Box)} {gls:Gls} {id:Nat} {b:Box} (h:(l++gls.map (fun p=>some ({cells:=p.2,elem:=0,own:=false }:Box)))[id]?=some (some b)) :
  l[id]?=some (some b)∨∃ j p,id=l.length+j/\gls[j]?=some p/\b={cells:=p.2,elem:=0,own:=false }:=by
 rcases Nat.lt_or_ge id l.length with hl | hl
 ·rw [List.getElem?_append_left hl] at h;exact .inl h
 ·rw [List.getElem?_append_right hl,List.getElem?_map] at h
  cases hg:gls[id-l.length]? with
  | none=>rw [hg] at h;cases h
  | some p =>
   rw [hg] at h
   simp only [Option.map_some,Option.some.injEq] at h
   exact .inr ⟨id-l.length,p,by omega,hg,h.symm⟩
theorem ctr_of_run {gls:Gls} (hm:P.follows .mixedOrders=true) (hT:∀ (g:Nat) X,T[g]?=some X->X.ok P gls) {X:K} {fn:Func} (fuel:Nat) (hf:P.funcs[X.fn]?=some fn) (hn:(fn.name == "runtime.NumGoroutine")=false) (hext:X.ext=false) (hok:X.ins.all okSh=true)
  (hh:∀ (w:World) (xs:List Int) (args:List Value),insRel w X.ins xs args->X.pre xs->(tree P T LA fuel fn X.ins X.outs gls).holds T ⟨fun ys=>ys=X.sem xs,[]⟩ (envOf xs)):X.ok P gls:=by
 intro w hG args xs hin hpre
 rw [hext]
 simp only [Bool.false_eq_true,if_false]
 have h1:=hh w xs args hin hpre
 unfold tree at h1
 cases hb:fn.body with
 | none=>rw [hb] at h1;exact h1.elim
 | some c =>
  rw [hb] at h1
  simp only at h1
  refine ⟨run_callFunc hf hn hb,calls_of_wp hf hb ?_⟩
  let m:M:={env:=envOf xs,rho:=fun id=>(ptrs X.ins args++gls.map fun (p:Nat×List C)=>(p.1,0)).getD id (0,0),ext:={base:=w },sv:=fun id=>(slvs X.ins args).getD id .nilFunc }
  let Y:=initS fn X.ins gls
  have hlen:=ptrs_length w X.ins xs args 0 0 hin
  have hal:∀ j,j<(inSh 0 0 X.ins).2.length->Y.al (0+j)=true:=fun j hj=>by
   obtain ⟨b,hb⟩:=inSh_some X.ins 0 0 j hj
   exact al_iff.2 ⟨b,by rw [Nat.zero_add];show ((inSh 0 0 X.ins).2++_)[j]?=_;rw [List.getElem?_append_left hj];exact hb⟩
  obtain ⟨v1,v2⟩:=in_ok X.ins xs args 0 0 hok hin m Y.nv Y.al rfl (fun i x hx=>by show xs.getD (0+i) 0=x;rw [Nat.zero_add,List.getD_eq_getElem?_getD,hx];rfl) (by show 0+icount X.ins<=icount X.ins;omega)
   (fun j p hp=>by show (ptrs X.ins args++_).getD (0+j) (0,0)=p;rw [Nat.zero_add,List.getD_eq_getElem?_getD,List.getElem?_append_left (List.getElem?_eq_some_iff.1 hp).1,hp];rfl) hal (fun j v hv=>by show (slvs X.ins args).getD (0+j) .nilFunc=v;rw [Nat.zero_add,List.getD_eq_getElem?_getD,hv];rfl)
  have hrho:∀ (j:Nat) p,gls[j]?=some p->m.rho ((inSh 0 0 X.ins).2.length+j)=(p.1,0):=fun j p hp=>by
   show (ptrs X.ins args++gls.map fun (p:Nat×List C)=>(p.1,0)).getD _ (0,0)=_
   rw [hlen,List.getD_eq_getElem?_getD,List.getElem?_append_right (by omega),List.getElem?_map,Nat.add_sub_cancel_left,hp];rfl
  have hbase:Rep w m {Y with tmps:=[] } {tmps:=#[],defers:=[] } w:=by
   refine ⟨rfl,rfl,fun i s hi=>by simp at hi,Below.refl _ _,fun id b hb ho=>?_,fun id b hb ho=>?_,fun id id' b b' hb hb' ho _ _=>?_,fun p hp=>absurd hp (List.not_mem_nil),fun p hp=>?_,fun id b r hb hr=>?_,fun id b r hb hr ho=>?_,fun id b r id' b' r' hb hr hb' hr' ho=>?_,rfl⟩
   ·rcases gl_box hb with hb | ⟨j,p,_,_,rfl⟩
    ·rw [(v2 id b hb).1] at ho;cases ho
    ·cases ho
   ·rcases gl_box hb with hb | ⟨j,p,rfl,hp,rfl⟩
    ·have:=v2 id b hb
     rw [Nat.zero_add] at this
     exact this.2.1
    ·obtain ⟨g1,g2,g3⟩:=hG p (List.mem_of_getElem? hp)
     refine .inr ⟨by rw [hrho j p hp];exact g1,fun i c hc=>⟨cstV c,?_,?_⟩⟩
     ·have:=g3 i c hc
      simp only [M.at,hrho j p hp,Nat.zero_add]
      exact this
     ·have hcb:cstB c=true:=List.all_eq_true.1 g2 c (List.mem_of_getElem? hc)
      have:=cst_rel (m:=m) (nv:=Y.nv) (al:=Y.al) c
      rw [if_pos hcb] at this
      exact this
   ·rcases gl_box hb with hb | ⟨j,p,_,_,rfl⟩
    ·rw [(v2 id b hb).1] at ho;cases ho
    ·cases ho
   ·obtain ⟨j,q,h1,rfl⟩:=glB_mem _ _ _ hp
    refine ⟨al_iff.2 ⟨{cells:=q.2,elem:=0,own:=false },?_⟩,hrho j q h1⟩
    show ((inSh 0 0 X.ins).2++gls.map _)[(inSh 0 0 X.ins).2.length+j]?=_
    rw [List.getElem?_append_right (by omega),List.getElem?_map,Nat.add_sub_cancel_left,h1];rfl
   ·rcases gl_box hb with hb | ⟨j,p,_,_,rfl⟩
    ·have:=v2 id b hb
     rw [Nat.zero_add] at this
     obtain ⟨r1,r2,r3,r4⟩:=this.2.2 r hr
     exact ⟨r1,by rw [r2];exact r1,by rw [r2],r3⟩
    ·cases hr
   ·rcases gl_box hb with hb | ⟨j,p,_,_,rfl⟩
    ·rw [((v2 id b hb).2.2 r hr).2.2.2] at ho;cases ho
    ·cases hr
   ·rcases gl_box hb with hb | ⟨j,p,_,_,rfl⟩
    ·rw [((v2 id b hb).2.2 r hr).2.2.2] at ho;cases ho
    ·cases hr
  have hR:Rep w m Y {tmps:=args.toArray++Array.replicate (fn.ntmps-args.toArray.size) undef,defers:=[] } w:=enter_rep hbase v1 fn.ntmps
  refine run_sound hm (fun g X hg w' hb=>hT g X hg w' (hG.below hb)) fuel (.code c) Y (fin P fn X.outs) m _ w _ _ hR rfl h1 fun e Y' m' a' w' goal' x1 x2 x3 x4 x5=>?_
  have key:e=.normal∨e=.ret->bodyPost P fn (fun e w'=>∃ vs,e=.returned (retV vs)/\outsRel w.heap.size w' X.outs (X.sem xs) vs/\Below w.heap.size w w') (exitOf e) a' w':=by
   intro he
   have x6:(match resS P Y' fn with | none=>.bad 401 "" | some vs=>match takeOuts Y' Y'.nv X.outs vs with | none=>.bad 402 "" | some r=>letts Y'.nv r.1 (.ret r.2):Tree).holds T goal' m'.env:=by
    rcases he with rfl | rfl <;> exact x5
   cases hrs:resS P Y' fn with
   | none=>rw [hrs] at x6;exact x6.elim
   | some vs =>
    rw [hrs] at x6
    simp only at x6
    cases hto:takeOuts Y' Y'.nv X.outs vs with
    | none=>rw [hto] at x6;exact x6.elim
    | some r =>
     rw [hto] at x6
     simp only at x6
     obtain ⟨r1,r2⟩:=r
     obtain ⟨us,u1,u2⟩:=res_ok x4 hrs
     obtain ⟨o1,o2⟩:=takeOuts_ok (T:=T) _ _ _ _ _ hto x4 u2
     obtain ⟨e1,k1,k2,k3,k4⟩:=letts_holds _ _ _ x6 (o1 (Nat.le_refl _)).1
     have hout:=o2 e1 (fun i hi=>k1 i hi) k3
     have hg:r2.map (·.ev e1)=X.sem xs:=by
      have:goal'.goal (r2.map (·.ev e1)):=k4
      rw [x1.1] at this;exact this
     rw [hg] at hout
     have hd:=x4.defers
     have:=x4.below
     rcases he with rfl | rfl <;> exact ⟨hd,retV us,u1,us,rfl,hout,this⟩
  cases e with
  | normal=>exact key (.inl rfl)
  | ret=>exact key (.inr rfl)
  | exit id=>exact x5.elim
end
def seqE (e:Nat->Int) (n:Nat):Nat->List Int
 | 0=>[]
 | k+1=>e n::seqE e (n+1) k
def Tree.says (T:List K):Tree->Gl->(Nat->Int)->Prop
 | .ret as,g,e=>g.goal (as.map (·.ev e))
 | .split n t f,g,e=>(e n≠0->t.says T g e)/\(e n=0->f.says T g e)
 | .lett n kk d t,g,e=>e n=d.ev T e->kk.has (e n)->t.says T g e
 | .req q as t,g,e=>(match T[q]? with | some X=>X.pre (as.map (·.ev e)) | none=>False)/\t.says T g e
 | .nz a t,g,e=>a.ev e≠0/\t.says T g e
 | .loop inits kks n0 t,g,e=>∃ (I:List Int->Prop) (μ:List Int->Nat),I (inits.map (·.ev e)) /\
   ∀ e',(∀ i,i<n0->e' i=e i)->kkHas kks (seqE e' n0 kks.length)->I (seqE e' n0 kks.length)->t.says T {g with stk:=g.stk++[fun us=>I us/\μ us<μ (seqE e' n0 kks.length)] } e'
 | .back lvl as,g,e=>match g.stk[lvl]? with | some R=>R (as.map (·.ev e)) | none=>False
 | .bad _ _,_,_=>False
def A.okB (n:Nat):A->Bool
 | .lit _=>true
 | .var k=>decide (k<n)
 | .limb k _=>decide (k<n)
 | .elt _ k _=>decide (k<n)
def D.okB (n:Nat):D->Bool
 | .bin _ _ a b=>a.okB n&&b.okB n
 | .cmp _ a b=>a.okB n&&b.okB n
 | .conv _ a=>a.okB n
 | .not a=>a.okB n
 | .app _ _ as=>as.all (A.okB n)
 | .join as=>as.all (A.okB n)
 | .eqs l=>l.all fun p=>p.1.okB n&&p.2.okB n
 | .sel i as=>i.okB n&&as.all (A.okB n)
 | .put i _ x y=>i.okB n&&x.okB n&&y.okB n
 | .llen x=>x.okB n
 | .lget x i=>x.okB n&&i.okB n
 | .lapp x as=>x.okB n&&as.all (A.okB n)
 | .lsub x lo hi=>x.okB n&&lo.okB n&&hi.okB n
 | .lput x i y=>x.okB n&&i.okB n&&y.okB n
 | .lrep c y=>c.okB n&&y.okB n
 | .lcpy x y=>x.okB n&&y.okB n
 | .lcat x y=>x.okB n&&y.okB n
 | .lsame x y=>x.okB n&&y.okB n
def wfT:Nat->Tree->Bool
 | nn,.ret as=>as.all (A.okB nn)
 | nn,.split n t f=>decide (n<nn)&&wfT nn t&&wfT nn f
 | nn,.lett n _ d t=>decide (nn<=n)&&d.okB nn&&wfT (n+1) t
 | nn,.req _ as t=>as.all (A.okB nn)&&wfT nn t
 | nn,.nz a t=>a.okB nn&&wfT nn t
 | nn,.loop inits kks n0 t=>inits.all (A.okB nn)&&decide (nn<=n0)&&wfT (n0+kks.length) t
 | nn,.back _ as=>as.all (A.okB nn)
 | _,.bad _ _=>true
theorem A.okB_ok {n:Nat} {a:A} (h:a.okB n=true):a.ok n:=by
 cases a <;> simp [A.okB] at h <;> first | trivial | exact h
theorem A.okB_all {n:Nat} {as:List A} (h:as.all (A.okB n)=true):∀ a∈as,a.ok n:=fun a ha=>A.okB_ok (List.all_eq_true.1 h a ha)
theorem D.okB_ok {n:Nat} {d:D} (h:d.okB n=true):d.ok n:=by
 cases d <;> simp only [D.okB,Bool.and_eq_true] at h
 case bin=>exact ⟨A.okB_ok h.1,A.okB_ok h.2⟩
 case cmp=>exact ⟨A.okB_ok h.1,A.okB_ok h.2⟩
 case conv=>exact A.okB_ok h
 case not=>exact A.okB_ok h
 case app=>exact A.okB_all h
 case join=>exact A.okB_all h
 case sel=>exact ⟨A.okB_ok h.1,A.okB_all h.2⟩
 case put=>exact ⟨A.okB_ok h.1.1,A.okB_ok h.1.2,A.okB_ok h.2⟩
 case llen=>exact A.okB_ok h
 case lget=>exact ⟨A.okB_ok h.1,A.okB_ok h.2⟩
 case lapp=>exact ⟨A.okB_ok h.1,A.okB_all h.2⟩
 case lsub=>exact ⟨A.okB_ok h.1.1,A.okB_ok h.1.2,A.okB_ok h.2⟩
 case lput=>exact ⟨A.okB_ok h.1.1,A.okB_ok h.1.2,A.okB_ok h.2⟩
 case lrep=>exact ⟨A.okB_ok h.1,A.okB_ok h.2⟩
 case lcpy=>exact ⟨A.okB_ok h.1,A.okB_ok h.2⟩
 case lcat=>exact ⟨A.okB_ok h.1,A.okB_ok h.2⟩
 case lsame=>exact ⟨A.okB_ok h.1,A.okB_ok h.2⟩
 case eqs=>exact fun p hp=>by have:=List.all_eq_true.1 h p hp;rw [Bool.and_eq_true] at this;exact ⟨A.okB_ok this.1,A.okB_ok this.2⟩
theorem kkHas_len:∀ {ks:List KK} {vs:List Int},kkHas ks vs->vs.length=ks.length
 | [],[],_=>rfl
 | _::_,_::_,h=>by simp [kkHas_len h.2]
 | [],_::_,h=>h.elim
 | _::_,[],h=>h.elim
theorem seqE_eq:∀ (vs:List Int) (e:Nat->Int) (n:Nat),(∀ (i:Nat) x,vs[i]?=some x->e (n+i)=x)->seqE e n vs.length=vs
 | [],_,_,_=>rfl
 | v::vs,e,n,h=>by
  simp only [List.length_cons,seqE]
  rw [seqE_eq vs e (n+1) fun i x hx=>by have:=h (i+1) x (by simpa using hx);rwa [show n+1+i=n+(i+1) by omega]]
  rw [show e n=v by simpa using h 0 v rfl]
theorem says_holds {T:List K}:∀ (t:Tree) (nn:Nat) (g:Gl) (e:Nat->Int),wfT nn t=true->(∀ e',(∀ i,i<nn->e' i=e i)->t.says T g e')->t.holds T g e
 | .ret as,nn,g,e,_,h=>h e fun _ _=>rfl
 | .bad _ _,nn,g,e,_,h=>h e fun _ _=>rfl
 | .back _ _,nn,g,e,_,h=>h e fun _ _=>rfl
 | .split n t f,nn,g,e,hw,h=>by
  simp only [wfT,Bool.and_eq_true,decide_eq_true_eq] at hw
  obtain ⟨⟨h1,h2⟩,h3⟩:=hw
  exact ⟨fun hn=>says_holds t nn g e h2 fun e' he'=>(h e' he').1 (by rw [he' n h1];exact hn),fun hn=>says_holds f nn g e h3 fun e' he'=>(h e' he').2 (by rw [he' n h1];exact hn)⟩
 | .lett n kk d t,nn,g,e,hw,h=>by
  simp only [wfT,Bool.and_eq_true,decide_eq_true_eq] at hw
  obtain ⟨⟨h1,h2⟩,h3⟩:=hw
  intro v hv hk
  refine says_holds t (n+1) g _ h3 fun e' he'=>?_
  have low:∀ i,i<nn->e' i=e i:=fun i hi=>by rw [he' i (by omega)];simp [upd];omega
  have hn:e' n=v:=by rw [he' n (by omega)];simp [upd]
  refine h e' low ?_ (by rw [hn];exact hk)
  rw [hn,hv,D.ev_congr (D.okB_ok h2) low]
 | .req q as t,nn,g,e,hw,h=>by
  simp only [wfT,Bool.and_eq_true] at hw
  exact ⟨(h e fun _ _=>rfl).1,says_holds t nn g e hw.2 fun e' he'=>(h e' he').2⟩
 | .nz a t,nn,g,e,hw,h=>by
  simp only [wfT,Bool.and_eq_true] at hw
  exact ⟨(h e fun _ _=>rfl).1,says_holds t nn g e hw.2 fun e' he'=>(h e' he').2⟩
 | .loop inits kks n0 t,nn,g,e,hw,h=>by
  simp only [wfT,Bool.and_eq_true,decide_eq_true_eq] at hw
  obtain ⟨⟨h1,h2⟩,h3⟩:=hw
  obtain ⟨I,μ,h4,h5⟩:=h e fun _ _=>rfl
  refine ⟨I,μ,h4,fun vs hk hI=>?_⟩
  have hl:=kkHas_len hk
  refine says_holds t (n0+kks.length) _ _ h3 fun e' he'=>?_
  have hs:seqE e' n0 kks.length=vs:=by
   rw [<- hl]
   refine seqE_eq vs e' n0 fun i x hx=>?_
   have hi:=(List.getElem?_eq_some_iff.1 hx).1
   rw [he' _ (by omega)]
   exact updL_get _ _ _ _ _ hx
  have:=h5 e' (fun i hi=>by rw [he' i (by omega)];exact updL_low _ _ _ _ hi) (by rw [hs];exact hk) (by rw [hs];exact hI)
  rw [hs] at this
  exact this
def ikks:List Sh->List KK
 | []=>[]
 | s::ss=>kksOf s.leaves++ikks ss
theorem okSh_leaves {s:Sh} (h:okSh s=true):s.leaves.all okL=true:=by
 cases s with
 | one l=>simpa [okSh,Sh.leaves] using h
 | agg ls=>exact h
 | ptr ls=>simp only [okSh,Bool.and_eq_true] at h;exact h.1.1
 | lst k=>rfl
 | lent k=>rfl
 | ll=>rfl
theorem insRel_kk {w:World}:∀ (ins:List Sh) (xs:List Int) (args:List Value),insRel w ins xs args->kkHas (ikks ins) xs
 | [],xs,args,h=>by rw [h.1];trivial
 | s::ss,xs,[],h=>h.elim
 | s::ss,xs,u::args,h=>by
  have:=kk_append (kk_of_lhas _ _ h.1) (insRel_kk ss _ _ h.2.2)
  rwa [List.take_append_drop] at this
theorem ikks_len:∀ (ins:List Sh),ins.all okSh=true->(ikks ins).length=icount ins
 | [],_=>rfl
 | s::ss,h=>by
  simp only [List.all_cons,Bool.and_eq_true] at h
  simp only [ikks,icount,List.length_append,ikks_len ss h.2]
  congr 1
  have:=okSh_leaves h.1
  generalize s.leaves=ls at this
  induction ls with
  | nil=>rfl
  | cons l ls ih =>
   simp only [List.all_cons,Bool.and_eq_true] at this
   cases l with
   | cst c=>simp only [kksOf,ih this.2,lcount,L.n];omega
   | _=>simp only [kksOf,List.length_cons,ih this.2,lcount,L.n];omega
def AllOk (P:Program) (T:List K) (gls:Gls:=[]):Prop :=
 match T with
 | []=>True
 | X::T=>X.ok P gls/\AllOk P T gls
theorem AllOk.get {P:Program} {gls:Gls}:∀ {T:List K},AllOk P T gls->∀ (g:Nat) X,T[g]?=some X->X.ok P gls
 | [],_,g,X,h=>by simp at h
 | X'::T,hT,g,X,h=>by
  cases g with
  | zero=>simp at h;subst h;exact hT.1
  | succ g=>exact AllOk.get hT.2 g X (by simpa using h)
theorem ctr_says {P:Program} {T:List K} {LA:List Ann} {gls:Gls} (hm:P.follows .mixedOrders=true) (hT:AllOk P T gls) {X:K} {fn:Func} (fuel:Nat) (hf:P.funcs[X.fn]?=some fn) (hn:(fn.name == "runtime.NumGoroutine")=false) (hext:X.ext=false) (hok:X.ins.all okSh=true)
  {t:Tree} (ht:tree P T LA fuel fn X.ins X.outs gls=t) (hw:wfT (icount X.ins) t=true)
  (hh:∀ e:Nat->Int,kkHas (ikks X.ins) (seqE e 0 (icount X.ins))->X.pre (seqE e 0 (icount X.ins))->t.says T ⟨fun ys=>ys=X.sem (seqE e 0 (icount X.ins)),[]⟩ e):X.ok P gls:=by
 refine ctr_of_run (LA:=LA) hm hT.get fuel hf hn hext hok fun w xs args hin hpre=>?_
 rw [ht]
 refine says_holds t _ _ _ hw fun e he=>?_
 have hkk:=insRel_kk _ _ _ hin
 have hl:xs.length=icount X.ins:=by rw [kkHas_len hkk,ikks_len _ hok]
 have hs:seqE e 0 (icount X.ins)=xs:=by
  rw [<- hl]
  refine seqE_eq xs e 0 fun i x hx=>?_
  have hi:=(List.getElem?_eq_some_iff.1 hx).1
  rw [Nat.zero_add,he i (by omega)]
  simp [envOf,hx]
 have:=hh e (by rw [hs];exact hkk) (by rw [hs];exact hpre)
 rw [hs] at this
 exact this
end Go.Sx

namespace Go.Sx
open Go Go.RowKit
inductive W where | wi (n:Int) | wl (l:List Int)
def W.toI:W->Int | .wi n=>n | .wl l=>enc l
def W.list?:W->Option (List Int) | .wl l=>some l | .wi n=>if n=0 then some [] else none
def W.int?:W->Option Int | .wi n=>some n | .wl _=>none
def intsEq:List Int->List Int->Bool
 | [],[]=>true
 | a::as,b::bs=>a==b&&intsEq as bs
 | _,_=>false
def W.eq:W->W->Bool
 | .wi a,.wi b=>a==b
 | .wl a,.wl b=>intsEq a b
 | _,_=>false
def wsEq:List W->List W->Bool
 | [],[]=>true
 | a::as,b::bs=>a.eq b&&wsEq as bs
 | _,_=>false
theorem intsEq_ok:∀ {a b:List Int},intsEq a b=true->a=b
 | [],[],_=>rfl
 | x::a,y::b,h=>by
  simp only [intsEq,Bool.and_eq_true,beq_iff_eq] at h
  rw [h.1,intsEq_ok h.2]
 | [],_::_,h=>by simp [intsEq] at h
 | _::_,[],h=>by simp [intsEq] at h
theorem W.eq_ok {a b:W} (h:a.eq b=true):a=b:=by
 cases a <;> cases b <;> simp only [W.eq,beq_iff_eq,Bool.false_eq_true] at h
 ·rw [h]
 ·rw [intsEq_ok h]
theorem wsEq_ok:∀ {a b:List W},wsEq a b=true->a=b
 | [],[],_=>rfl
 | x::a,y::b,h=>by
  simp only [wsEq,Bool.and_eq_true] at h
  rw [W.eq_ok h.1,wsEq_ok h.2]
 | [],_::_,h=>by simp [wsEq] at h
 | _::_,[],h=>by simp [wsEq] at h
theorem W.list_ok {w:W} {l:List Int} (h:w.list?=some l):dec w.toI=l:=by
 cases w with
 | wl k=>simp only [W.list?,Option.some.injEq] at h;subst h;exact dec_enc _
 | wi n =>
  simp only [W.list?] at h
  split at h
  ·rename_i hn
   cases h;subst hn;exact dec_zero
  ·cases h
theorem W.int_ok {w:W} {n:Int} (h:w.int?=some n):w.toI=n:=by
 cases w with
 | wi k=>simp only [W.int?,Option.some.injEq] at h;exact h
 | wl k=>cases h
structure Sem1 where
 g:Nat
 args:List W
 outs:List W
def lookW (env:List (Nat×W)) (n:Nat):Option W :=
 match env with
 | []=>none
 | p::r=>if p.1==n then some p.2 else lookW r n
def A.cv (env:List (Nat×W)):A->Option W
 | .lit n=>some (.wi n)
 | .var n=>lookW env n
 | .limb n j=>match lookW env n with | some (.wi x)=>some (.wi (x/p64 j%18446744073709551616)) | _=>none
 | .elt _ n j=>match lookW env n with | some (.wl l)=>some (.wi (l.getD j 0)) | _=>none
def A.ci (env:List (Nat×W)) (a:A):Option Int:=match a.cv env with | some w=>w.int? | none=>none
def A.cl (env:List (Nat×W)) (a:A):Option (List Int):=match a.cv env with | some w=>w.list? | none=>none
def Ag (env:List (Nat×W)) (e:Nat->Int):Prop:=∀ p∈env,e p.1=p.2.toI
theorem lookW_ok {e:Nat->Int}:∀ {env:List (Nat×W)} {n:Nat} {w:W},lookW env n=some w->Ag env e->e n=w.toI
 | [],_,_,h,_=>by cases h
 | p::r,n,w,h,ha=>by
  simp only [lookW] at h
  split at h
  ·rename_i hp
   cases h
   rw [beq_iff_eq] at hp
   rw [<- hp];exact ha p (List.mem_cons_self ..)
  ·exact lookW_ok h fun q hq=>ha q (List.mem_cons_of_mem _ hq)
theorem A.cv_ok {env:List (Nat×W)} {e:Nat->Int} (ha:Ag env e) {a:A} {w:W} (h:a.cv env=some w):a.ev e=w.toI:=by
 cases a with
 | lit n=>simp only [A.cv,Option.some.injEq] at h;subst h;rfl
 | var n=>exact lookW_ok h ha
 | limb n j =>
  simp only [A.cv] at h
  split at h
  ·rename_i x hx
   cases h
   show e n/p64 j%18446744073709551616=_
   rw [lookW_ok hx ha];rfl
  ·cases h
 | elt k n j =>
  simp only [A.cv] at h
  split at h
  ·rename_i l hx
   cases h
   show (dec (e n)).getD j 0=_
   rw [lookW_ok hx ha]
   show (dec (enc l)).getD j 0=l.getD j 0
   rw [dec_enc]
  ·cases h
theorem A.ci_ok {env:List (Nat×W)} {e:Nat->Int} (ha:Ag env e) {a:A} {n:Int} (h:a.ci env=some n):a.ev e=n:=by
 unfold A.ci at h
 split at h
 ·rename_i w hw
  rw [A.cv_ok ha hw];exact W.int_ok h
 ·cases h
theorem A.cl_ok {env:List (Nat×W)} {e:Nat->Int} (ha:Ag env e) {a:A} {l:List Int} (h:a.cl env=some l):dec (a.ev e)=l:=by
 unfold A.cl at h
 split at h
 ·rename_i w hw
  rw [A.cv_ok ha hw];exact W.list_ok h
 ·cases h
theorem cvs_ok {env:List (Nat×W)} {e:Nat->Int} (ha:Ag env e):∀ {as:List A} {ws:List W},mapO (A.cv env) as=some ws->as.map (·.ev e)=ws.map W.toI
 | [],ws,h=>by simp only [mapO,Option.some.injEq] at h;subst h;rfl
 | a::as,ws,h=>by
  simp only [mapO] at h
  split at h
  ·cases h
  ·rename_i y hy
   split at h
   ·cases h
   ·rename_i ys hys
    cases h
    simp only [List.map_cons,A.cv_ok ha hy,cvs_ok ha hys]
theorem cis_ok {env:List (Nat×W)} {e:Nat->Int} (ha:Ag env e):∀ {as:List A} {ws:List Int},mapO (A.ci env) as=some ws->as.map (·.ev e)=ws
 | [],ws,h=>by simp only [mapO,Option.some.injEq] at h;subst h;rfl
 | a::as,ws,h=>by
  simp only [mapO] at h
  split at h
  ·cases h
  ·rename_i y hy
   split at h
   ·cases h
   ·rename_i ys hys
    cases h
    simp only [List.map_cons,A.ci_ok ha hy,cis_ok ha hys]
def eqsC (env:List (Nat×W)):List (A×A)->Option Bool
 | []=>some true
 | p::r=>match p.1.ci env,p.2.ci env,eqsC env r with
  | some a,some b,some c=>some (a==b&&c)
  | _,_,_=>none
theorem eqsC_ok {env:List (Nat×W)} {e:Nat->Int} (ha:Ag env e):∀ {l:List (A×A)} {b:Bool},eqsC env l=some b->(l.all fun p=>p.1.ev e==p.2.ev e)=b
 | [],b,h=>by simp only [eqsC,Option.some.injEq] at h;subst h;rfl
 | p::r,b,h=>by
  simp only [eqsC] at h
  split at h
  ·rename_i x y c hx hy hc
   cases h
   rw [List.all_cons,A.ci_ok ha hx,A.ci_ok ha hy,eqsC_ok ha hc]
  ·cases h
def Oracle:Type:=Nat->List W->Option (List W)
def OrOk (T:List K) (fd:Oracle):Prop:=∀ g as os,fd g as=some os->∃ X,T[g]?=some X/\X.pre (as.map W.toI)/\X.sem (as.map W.toI)=os.map W.toI
def D.cv (fd:Oracle) (env:List (Nat×W)):D->Option W
 | .bin op k a b=>match a.ci env,b.ci env with | some x,some y=>some (.wi (binE op k x y)) | _,_=>none
 | .cmp op a b=>match a.ci env,b.ci env with | some x,some y=>some (.wi (b2i (cmpE op x y))) | _,_=>none
 | .conv k a=>match a.ci env with | some x=>some (.wi (wr k x)) | _=>none
 | .not a=>match a.ci env with | some x=>some (.wi (if x=0 then 1 else 0)) | _=>none
 | .app g j as=>match mapO (A.cv env) as with
  | some ws=>match fd g ws with
   | some os=>os[j]?
   | none=>none
  | none=>none
 | .join as=>match mapO (A.ci env) as with | some l=>some (.wi (joinE l)) | none=>none
 | .eqs l=>match eqsC env l with | some b=>some (.wi (b2i b)) | none=>none
 | .sel i as=>match i.ci env,mapO (A.ci env) as with | some k,some l=>some (.wi (l.getD k.toNat 0)) | _,_=>none
 | .put i j x y=>match i.ci env with | some k=>if k=(j:Int) then x.cv env else y.cv env | none=>none
 | .llen x=>match x.cl env with | some l=>some (.wi (l.length:Int)) | none=>none
 | .lget x i=>match x.cl env,i.ci env with | some l,some k=>some (.wi (l.getD k.toNat 0)) | _,_=>none
 | .lapp x ys=>match x.cl env,mapO (A.ci env) ys with | some l,some k=>some (.wl (l++k)) | _,_=>none
 | .lsub x lo hi=>match x.cl env,lo.ci env,hi.ci env with | some l,some a,some b=>some (.wl ((l.take b.toNat).drop a.toNat)) | _,_,_=>none
 | .lput x i y=>match x.cl env,i.ci env,y.ci env with | some l,some a,some b=>some (.wl (l.set a.toNat b)) | _,_,_=>none
 | .lrep n y=>match n.ci env,y.ci env with | some a,some b=>some (.wl (List.replicate a.toNat b)) | _,_=>none
 | .lcpy x y=>match x.cl env,y.cl env with | some a,some b=>some (.wl (b.take a.length++a.drop b.length)) | _,_=>none
 | .lcat x y=>match x.cl env,y.cl env with | some a,some b=>some (.wl (a++b)) | _,_=>none
 | .lsame x y=>match x.cl env,y.cl env with | some a,some b=>some (.wi (b2i (intsEq a b))) | _,_=>none
theorem intsEq_beq:∀ (a b:List Int),intsEq a b=(a==b)
 | [],[]=>rfl
 | x::a,y::b=>by rw [intsEq,intsEq_beq a b];rfl
 | [],_::_=>rfl
 | _::_,[]=>rfl
theorem getD_map (os:List W) (j:Nat) {w:W} (h:os[j]?=some w):(os.map W.toI).getD j 0=w.toI:=by
 rw [List.getD_eq_getElem?_getD,List.getElem?_map,h];rfl
theorem D.cv_ok {T:List K} {fd:Oracle} (hT:OrOk T fd) {env:List (Nat×W)} {e:Nat->Int} (ha:Ag env e) {d:D} {w:W} (h:d.cv fd env=some w):d.ev T e=w.toI:=by
 cases d with
 | bin op k a b =>
  simp only [D.cv] at h
  split at h
  ·rename_i x y hx hy;cases h;simp only [D.ev,A.ci_ok ha hx,A.ci_ok ha hy];rfl
  ·cases h
 | cmp op a b =>
  simp only [D.cv] at h
  split at h
  ·rename_i x y hx hy;cases h;simp only [D.ev,A.ci_ok ha hx,A.ci_ok ha hy];rfl
  ·cases h
 | conv k a =>
  simp only [D.cv] at h
  split at h
  ·rename_i x hx;cases h;simp only [D.ev,A.ci_ok ha hx];rfl
  ·cases h
 | not a =>
  simp only [D.cv] at h
  split at h
  ·rename_i x hx;cases h;simp only [D.ev,A.ci_ok ha hx];rfl
  ·cases h
 | app g j as =>
  simp only [D.cv] at h
  split at h
  ·rename_i ws hws
   split at h
   ·rename_i os hos
    obtain ⟨X,k1,_,k2⟩:=hT _ _ _ hos
    simp only [D.ev,k1,cvs_ok ha hws,k2]
    exact getD_map os j h
   ·cases h
  ·cases h
 | join as =>
  simp only [D.cv] at h
  split at h
  ·rename_i l hl;cases h;simp only [D.ev,cis_ok ha hl];rfl
  ·cases h
 | eqs l =>
  simp only [D.cv] at h
  split at h
  ·rename_i b hb;cases h;simp only [D.ev,eqsC_ok ha hb];rfl
  ·cases h
 | sel i as =>
  simp only [D.cv] at h
  split at h
  ·rename_i k l hk hl;cases h;simp only [D.ev,cis_ok ha hl,A.ci_ok ha hk];rfl
  ·cases h
 | put i j x y =>
  simp only [D.cv] at h
  split at h
  ·rename_i k hk
   simp only [D.ev,A.ci_ok ha hk]
   split at h
   ·rename_i hj;rw [if_pos hj];exact A.cv_ok ha h
   ·rename_i hj;rw [if_neg hj];exact A.cv_ok ha h
  ·cases h
 | llen x =>
  simp only [D.cv] at h
  split at h
  ·rename_i l hl;cases h;simp only [D.ev,A.cl_ok ha hl];rfl
  ·cases h
 | lget x i =>
  simp only [D.cv] at h
  split at h
  ·rename_i l k hl hk;cases h;simp only [D.ev,A.cl_ok ha hl,A.ci_ok ha hk];rfl
  ·cases h
 | lapp x ys =>
  simp only [D.cv] at h
  split at h
  ·rename_i l k hl hk;cases h;simp only [D.ev,A.cl_ok ha hl,cis_ok ha hk];rfl
  ·cases h
 | lsub x lo hi =>
  simp only [D.cv] at h
  split at h
  ·rename_i l a b hl h1 h2;cases h;simp only [D.ev,A.cl_ok ha hl,A.ci_ok ha h1,A.ci_ok ha h2];rfl
  ·cases h
 | lput x i y =>
  simp only [D.cv] at h
  split at h
  ·rename_i l a b hl h1 h2;cases h;simp only [D.ev,A.cl_ok ha hl,A.ci_ok ha h1,A.ci_ok ha h2];rfl
  ·cases h
 | lrep n y =>
  simp only [D.cv] at h
  split at h
  ·rename_i a b h1 h2;cases h;simp only [D.ev,A.ci_ok ha h1,A.ci_ok ha h2];rfl
  ·cases h
 | lcpy x y =>
  simp only [D.cv] at h
  split at h
  ·rename_i a b h1 h2;cases h;simp only [D.ev,A.cl_ok ha h1,A.cl_ok ha h2];rfl
  ·cases h
 | lcat x y =>
  simp only [D.cv] at h
  split at h
  ·rename_i a b h1 h2;cases h;simp only [D.ev,A.cl_ok ha h1,A.cl_ok ha h2];rfl
  ·cases h
 | lsame x y =>
  simp only [D.cv] at h
  split at h
  ·rename_i a b h1 h2;cases h;simp only [D.ev,A.cl_ok ha h1,A.cl_ok ha h2,<- intsEq_beq];rfl
  ·cases h
inductive Rs where | done (ws:List W) | back (l:Nat) (ws:List W)
def itW (f:List W->Option Rs) (lvl len:Nat):Nat->List W->Option Rs
 | 0,_=>none
 | n+1,ws=>match f ws with
  | some (.back l us)=>if l==lvl then (if us.length==len then itW f lvl len n us else none) else some (.back l us)
  | r=>r
def putW:Nat->List W->List (Nat×W)->List (Nat×W)
 | _,[],env=>env
 | n,w::ws,env=>(n,w)::putW (n+1) ws env
def lowW (n0:Nat):List (Nat×W)->List (Nat×W)
 | []=>[]
 | p::r=>if Nat.blt p.1 n0 then p::lowW n0 r else lowW n0 r
def Tree.cr (fd:Oracle) (N:Nat):Tree->Nat->List (Nat×W)->Option Rs
 | .ret aq,_,env=>match mapO (A.cv env) aq with | some ws=>some (.done ws) | none=>none
 | .back lv aq,_,env=>match mapO (A.cv env) aq with | some ws=>some (.back lv ws) | none=>none
 | .split n t f,lvl,env=>match lookW env n with
  | some (.wi x)=>if x=0 then f.cr fd N lvl env else t.cr fd N lvl env
  | _=>none
 | .lett n _ d t,lvl,env=>match d.cv fd env with | some w=>t.cr fd N lvl ((n,w)::env) | none=>none
 | .req g aq t,lvl,env=>match mapO (A.cv env) aq with
  | some ws=>match fd g ws with | some _=>t.cr fd N lvl env | none=>none
  | none=>none
 | .nz a t,lvl,env=>match a.ci env with | some x=>if x=0 then none else t.cr fd N lvl env | none=>none
 | .loop is kks n0 t,lvl,env=>match mapO (A.cv env) is with
  | some ws=>if ws.length==kks.length then itW (fun us=>t.cr fd N (lvl+1) (putW n0 us (lowW n0 env))) lvl kks.length N ws else none
  | none=>none
 | .bad _ _,_,_=>none
def Rs.ok (g:Gl):Rs->Prop
 | .done ws=>g.goal (ws.map W.toI)
 | .back l ws=>∃ R,g.stk[l]?=some R/\R (ws.map W.toI)
theorem lowW_mem {n0:Nat} {p:Nat×W}:∀ {env:List (Nat×W)},p∈lowW n0 env->p∈env/\p.1<n0
 | [],h=>absurd h (List.not_mem_nil)
 | q::r,h=>by
  unfold lowW at h
  split at h
  ·rename_i hb
   rcases List.mem_cons.1 h with rfl | h
   ·exact ⟨List.mem_cons_self ..,by have:=Nat.le_of_ble_eq_true hb;omega⟩
   ·exact ⟨List.mem_cons_of_mem _ (lowW_mem h).1,(lowW_mem h).2⟩
  ·exact ⟨List.mem_cons_of_mem _ (lowW_mem h).1,(lowW_mem h).2⟩
theorem putW_ag {e:Nat->Int} {env:List (Nat×W)} (ha:Ag env e):∀ (ws:List W) (n:Nat),seqE e n ws.length=ws.map W.toI->Ag (putW n ws env) e
 | [],_,_=>ha
 | w::ws,n,h=>fun p hp=>by
  simp only [List.length_cons,seqE,List.map_cons,List.cons.injEq] at h
  rcases List.mem_cons.1 hp with rfl | hp
  ·exact h.1
  ·exact putW_ag ha ws (n+1) h.2 p hp
theorem least_ex {p:Nat->Prop}:∀ n,p n->∃ k,p k/\k<=n/\∀ m,p m->k<=m:=fun n=>by
 induction n using Nat.strongRecOn with
 | ind n ih =>
  intro hn
  by_cases h:∃ m,m<n/\p m
  ·obtain ⟨m,hm,hp⟩:=h
   obtain ⟨k,k1,k2,k3⟩:=ih m hm hp
   exact ⟨k,k1,by omega,k3⟩
  ·refine ⟨n,hn,Nat.le_refl _,fun m hm=>?_⟩
   exact Nat.le_of_not_lt fun hlt=>h ⟨m,hlt,hm⟩
open Classical in
noncomputable def leastW (p:Nat->Prop):Nat:=if h:∃ k,p k/\∀ m,p m->k<=m then h.choose else 0
theorem leastW_ok {p:Nat->Prop} {n:Nat} (h:p n):p (leastW p)/\∀ m,p m->leastW p<=m:=by
 obtain ⟨k,k1,_,k3⟩:=least_ex n h
 have hx:∃ k,p k/\∀ m,p m->k<=m:=⟨k,k1,k3⟩
 unfold leastW
 rw [dif_pos hx]
 exact hx.choose_spec
theorem cr_says {T:List K} {fd:Oracle} (hT:OrOk T fd) {N:Nat} :
  ∀ (t:Tree) (g:Gl) (e:Nat->Int) (env:List (Nat×W)) (r:Rs),t.cr fd N g.stk.length env=some r->Ag env e->r.ok g->t.says T g e
 | .ret aq,g,e,env,r,h,ha,hr=>by
  simp only [Tree.cr] at h
  split at h
  ·rename_i ws hws
   cases h
   show g.goal _
   rw [cvs_ok ha hws];exact hr
  ·cases h
 | .back l aq,g,e,env,r,h,ha,hr=>by
  simp only [Tree.cr] at h
  split at h
  ·rename_i ws hws
   cases h
   obtain ⟨R,h1,h2⟩:=hr
   show (match g.stk[l]? with | some R=>R _ | none=>False)
   rw [h1]
   show R _
   rw [cvs_ok ha hws];exact h2
  ·cases h
 | .split n t f,g,e,env,r,h,ha,hr=>by
  simp only [Tree.cr] at h
  split at h
  ·rename_i x hx
   have hv:e n=x:=lookW_ok hx ha
   split at h
   ·rename_i h0
    exact ⟨fun hn=>absurd (hv.trans h0) hn,fun _=>cr_says hT f g e env r h ha hr⟩
   ·rename_i h0
    exact ⟨fun _=>cr_says hT t g e env r h ha hr,fun hn=>absurd (hv.symm.trans hn) h0⟩
  ·cases h
 | .lett n kk d t,g,e,env,r,h,ha,hr=>by
  simp only [Tree.cr] at h
  split at h
  ·rename_i w hw
   intro hv _
   refine cr_says hT t g e _ r h (fun p hp=>?_) hr
   rcases List.mem_cons.1 hp with rfl | hp
   ·exact hv.trans (D.cv_ok hT ha hw)
   ·exact ha p hp
  ·cases h
 | .req q aq t,g,e,env,r,h,ha,hr=>by
  simp only [Tree.cr] at h
  split at h
  ·rename_i ws hws
   split at h
   ·rename_i os hos
    obtain ⟨X,k1,k2,_⟩:=hT _ _ _ hos
    refine ⟨?_,cr_says hT t g e env r h ha hr⟩
    rw [k1,cvs_ok ha hws];exact k2
   ·cases h
  ·cases h
 | .nz a t,g,e,env,r,h,ha,hr=>by
  simp only [Tree.cr] at h
  split at h
  ·rename_i x hx
   split at h
   ·cases h
   ·rename_i h0
    exact ⟨by rw [A.ci_ok ha hx];exact h0,cr_says hT t g e env r h ha hr⟩
  ·cases h
 | .loop is kks n0 t,g,e,env,r,h,ha,hr=>by
  simp only [Tree.cr] at h
  split at h
  ·rename_i ws hws
   split at h
   ·rename_i hl
    rw [beq_iff_eq] at hl
    let f:List W->Option Rs:=fun us=>t.cr fd N (g.stk.length+1) (putW n0 us (lowW n0 env))
    have h:itW f g.stk.length kks.length N ws=some r:=h
    let p:List Int->Nat->Prop:=fun us k=>∃ vs:List W,us=vs.map W.toI/\vs.length=kks.length/\itW f g.stk.length kks.length k vs=some r
    refine ⟨fun us=>∃ k,p us k,fun us=>leastW (p us),⟨N,ws,cvs_ok ha hws,hl,h⟩,fun e' he _ hI=>?_⟩
    obtain ⟨k0,hk0⟩:=hI
    obtain ⟨hk,hmin⟩:=leastW_ok hk0
    obtain ⟨k,hkk⟩:∃ k,k=leastW (p (seqE e' n0 kks.length)):=⟨_,rfl⟩
    rw [<- hkk] at hk
    obtain ⟨vs,v1,v2,v3⟩:=hk
    have ha':Ag (putW n0 vs (lowW n0 env)) e':=by
     refine putW_ag (fun q hq=>?_) vs n0 (by rw [v2];exact v1)
     obtain ⟨m1,m2⟩:=lowW_mem hq
     rw [he _ m2];exact ha q m1
    cases k with
    | zero=>cases v3
    | succ k =>
     simp only [itW] at v3
     cases hf:f vs with
     | none=>rw [hf] at v3;cases v3
     | some r1 =>
      have hl1:(g.stk++[fun us=>(∃ k,p us k)/\leastW (p us)<leastW (p (seqE e' n0 kks.length))]).length=g.stk.length+1:=by simp
      refine cr_says hT t {g with stk:=g.stk++[fun us=>(∃ k,p us k)/\leastW (p us)<leastW (p (seqE e' n0 kks.length))] } e' _ r1 (by rw [show ({g with stk:=g.stk++[fun us=>(∃ k,p us k)/\leastW (p us)<leastW (p (seqE e' n0 kks.length))] }:Gl).stk.length=g.stk.length+1 from hl1];exact hf) ha' ?_
      rw [hf] at v3
      have keep:r1=r->r1.ok {g with stk:=g.stk++[fun us=>(∃ k,p us k)/\leastW (p us)<leastW (p (seqE e' n0 kks.length))] }:=fun hq=>by
       subst hq
       cases r1 with
       | done us=>exact hr
       | back l us =>
        obtain ⟨R,h1,h2⟩:=hr
        exact ⟨R,by rw [List.getElem?_append_left (List.getElem?_eq_some_iff.1 h1).1];exact h1,h2⟩
      cases r1 with
      | done us=>exact keep (Option.some.inj v3)
      | back l us =>
       simp only at v3
       split at v3
       ·rename_i hlv
        rw [beq_iff_eq] at hlv
        split at v3
        ·rename_i hlen
         rw [beq_iff_eq] at hlen
         have hp:p (us.map W.toI) k:=⟨us,rfl,hlen,v3⟩
         have hlt:leastW (p (us.map W.toI))<leastW (p (seqE e' n0 kks.length)):=by
          have:=(leastW_ok hp).2 k hp
          omega
         refine ⟨fun us=>(∃ k,p us k)/\leastW (p us)<leastW (p (seqE e' n0 kks.length)),?_,⟨k,hp⟩,hlt⟩
         show (g.stk++[_])[l]?=_
         rw [hlv,List.getElem?_append_right (Nat.le_refl _),Nat.sub_self];rfl
        ·cases v3
       ·exact keep (Option.some.inj v3)
   ·cases h
  ·cases h
 | .bad _ _,g,e,env,r,h,_,_=>by simp [Tree.cr] at h
end Go.Sx
