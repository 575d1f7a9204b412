/- Part Gf of the proof. -/
import Derived.Test.YtlddchekkjjleaaGreatGe
import Derived.Laws.OwnMore
set_option linter.unusedVariables false
set_option linter.unusedSimpArgs false
namespace Go.Sx
open Go Go.RowKit
theorem mapO_get {α β:Type} {f:α → Option β}:∀ {l:List α} {q:List β},mapO f l=some q → q.length=l.length ∧ ∀ (j:Nat) x,l[j]?=some x → ∃ y,q[j]?=some y ∧ f x=some y
 | [],q,h=>by simp [mapO] at h; subst h; exact ⟨rfl,by simp⟩
 | x :: l,q,h=>by
  unfold mapO at h
  split at h
  ·cases h
  ·rename_i y hy
   split at h
   ·cases h
   ·rename_i ys hys
    cases h
    obtain ⟨h1,h2⟩:=mapO_get hys
    refine ⟨by simp [h1],fun j z hz=>?_⟩
    cases j with
    | zero=>simp at hz; subst hz; exact ⟨y,rfl,hy⟩
    | succ j=>simpa using h2 j z (by simpa using hz)
theorem lIds_mem:∀ {q:List (A × Option Nat)} {j:Nat} {x:A} {id:Nat},q[j]?=some (x,some id) → id ∈ lIds q:=fun {q j x id} h =>
 List.mem_filterMap.2 ⟨(x,some id),List.mem_of_getElem? h,rfl⟩
theorem unlike_q:∀ (q:List (A × Option Nat)),unlike (lIds q)=true → ∀ (j j':Nat) x x' id id',q[j]?=some (x,some id) → q[j']?=some (x',some id') → j ≠ j' → id ≠ id'
 | [],_,j,j',x,x',id,id',h,_,_=>by simp at h
 | (x0,none) :: q,hu,j,j',x,x',id,id',h,h',hne=>by
  have hu:unlike (lIds q)=true:=hu
  cases j with
  | zero=>simp at h
  | succ j=>cases j' with
   | zero=>simp at h'
   | succ j'=>exact unlike_q q hu j j' x x' id id' (by simpa using h) (by simpa using h') (by omega)
 | (x0,some i) :: q,hu,j,j',x,x',id,id',h,h',hne=>by
  have hu:unlike (i :: lIds q)=true:=hu
  simp only [unlike,Bool.and_eq_true,Bool.not_eq_true',List.contains_eq_mem,decide_eq_false_iff_not] at hu
  cases j with
  | zero=>cases j' with
   | zero=>exact absurd rfl hne
   | succ j' =>
    simp at h
    have:=lIds_mem (show q[j']?=some (x',some id') by simpa using h')
    intro e
    exact hu.1 (by rw [h.2,e]; exact this)
  | succ j=>cases j' with
   | zero =>
    simp at h'
    have:=lIds_mem (show q[j]?=some (x,some id) by simpa using h)
    intro e
    exact hu.1 (by rw [h'.2,← e]; exact this)
   | succ j'=>exact unlike_q q hu.2 j j' x x' id id' (by simpa using h) (by simpa using h') (by omega)
theorem al_room (σ:St) (n:Nat):({σ with boxes:=σ.boxes ++ List.replicate n none }:St).al=σ.al:=by
 funext id
 unfold St.al
 by_cases hl:id < σ.boxes.length
 ·simp [List.getElem?_append_left hl]
 ·rw [List.getElem?_append_right (by omega),List.getElem?_eq_none (show σ.boxes.length ≤ id by omega)]
  by_cases h2:id - σ.boxes.length < n
  ·simp [h2]
  ·rw [List.getElem?_eq_none (by simp; omega)]
theorem none_iff {σ:St} {i:Nat}:σ.boxes[i]?=some none ↔ i < σ.boxes.length ∧ σ.al i=false:=by
 unfold St.al
 constructor
 ·intro h; exact ⟨(List.getElem?_eq_some_iff.1 h).1,by rw [h]⟩
 ·rintro ⟨h1,h2⟩
  rw [List.getElem?_eq_getElem h1] at h2 ⊢
  cases hb:σ.boxes[i] with
  | none=>rfl
  | some b=>rw [hb] at h2; cases h2
theorem setH_blen (σ:St) (cs:List C) (h:Hp):(setH σ cs h).boxes.length=σ.boxes.length:=by
 cases h <;> simp only [setH] <;> (repeat' split) <;> simp
theorem putH_blen:∀ (hav:List (Hp × List L)) (nn:Nat) (σ:St),(putH σ nn hav).boxes.length=σ.boxes.length
 | [],_,_=>rfl
 | (h,ls) :: r,nn,σ=>by simp only [putH]; rw [putH_blen r,setH_blen]
theorem kk_lists:∀ (l:List LH) (xs:List Int),xs.length=l.length → (∀ (j:Nat) h x,l[j]?=some h → xs[j]?=some x → h.k.hasL (dec x)) → kkHas (l.map fun h=>.lst h.k) xs
 | [],[],_,_=>trivial
 | h :: l,x :: xs,hl,hx=>⟨hx 0 h x rfl rfl,kk_lists l xs (by simpa using hl) fun j h' x' h1 h2=>hx (j + 1) h' x' (by simpa using h1) (by simpa using h2)⟩
 | [],_ :: _,hl,_=>by simp at hl
 | _ :: _,[],hl,_=>by simp at hl
theorem addL_same:∀ (l:List LH) (σ:St) (id nn:Nat),(addL σ id nn l).nv=σ.nv ∧ (addL σ id nn l).kn=σ.kn ∧ (addL σ id nn l).gl=σ.gl ∧ (addL σ id nn l).lvl=σ.lvl
 | [],_,_,_=>⟨rfl,rfl,rfl,rfl⟩
 | h :: l,σ,id,nn=>addL_same l _ _ _
section
variable {T:List K} {w0:World} {m:M} {σ:St} {a:Act} {w:World}
theorem Rep.setT (h:Rep w0 m σ a w) {t:Nat} {s:SV} {v:Value} (hv:a.tmps[t]?=some v) (hs:s.rel m σ.nv σ.al v):Rep w0 m {σ with tmps:=σ.tmps.set t s } a w:=by
 refine ⟨h.defers,by simp [h.size],fun i u hi=>?_,h.below,h.own,h.ro,h.inj,h.kn,h.gl,h.rows,h.rbox,h.rsep⟩
 have hi:(σ.tmps.set t s)[i]?=some u:=hi
 by_cases hti:t=i
 ·subst hti
  have hlt:t < σ.tmps.length:=by simpa using (List.getElem?_eq_some_iff.1 hi).1
  rw [List.getElem?_set_self hlt] at hi
  cases hi
  exact ⟨v,hv,hs⟩
 ·rw [List.getElem?_set_ne hti] at hi
  exact h.tmp i u hi
def Apart (m:M) (σ:St) (g:Nat):Prop :=
 (∀ (id:Nat) (b:Box),σ.boxes[id]?=some (some b) → b.own=true → (m.rho id).1 ≠ g) ∧
 ∀ (id:Nat) (b:Box) (r:Row),σ.boxes[id]?=some (some b) → b.row=some r → r.own=true → (m.sv id).ownBlock ≠ some g
def Sepv (vs:List Value):Prop:=∀ (j j':Nat) v v' g,j ≠ j' → vs[j]?=some v → vs[j']?=some v' → v.ownBlock=some g → v'.ownBlock ≠ some g
theorem addL_rep:∀ (l:List LH) (σ:St) (id nn:Nat) (m:M) (vs:List Value),Rep w0 m σ a w → (∀ j,j < l.length → σ.boxes[id + j]?=some none) → vs.length=l.length →
  (∀ (j:Nat) h v,l[j]?=some h → vs[j]?=some v → a.tmps[h.slot]?=some v ∧ nn + j < σ.nv ∧ h.k.hasL (dec (m.env (nn + j))) ∧
   w.ownsRow w0.heap.size h.elem h.k.sz v (dec (m.env (nn + j))).length (flat h.k (dec (m.env (nn + j)))) ∧ (h.full=true → fullV v) ∧ ∀ g,v.ownBlock=some g → Apart m σ g) → Sepv vs →
  ∃ m',m'.env=m.env ∧ MExt m σ.nv σ.al m' (addL σ id nn l).nv (addL σ id nn l).al ∧ Rep w0 m' (addL σ id nn l) a w:=by
 intro l
 induction l with
 | nil=>intro σ id nn m vs h _ _ _ _; exact ⟨m,rfl,MExt.refl ..,h⟩
 | cons hd l ih =>
  intro σ id nn m vs h hbx hlen hx hsep
  cases vs with
  | nil=>simp at hlen
  | cons v vs =>
   obtain ⟨x1,x2,x3,x4,xf,x5⟩:=hx 0 hd v rfl rfl
   simp only [Nat.add_zero] at x2 x3 x4
   have hn:σ.boxes[id]?=some none:=hbx 0 (by simp)
   have hnl:id < σ.boxes.length:=(List.getElem?_eq_some_iff.1 hn).1
   obtain ⟨bb,cap,hform⟩:=owns_form x4
   obtain ⟨r1,r2⟩:=h.rowIn (nid:=id) hn (row:=v.ownBlock) (w':=w) ⟨rfl,rfl,rfl,Nat.le_refl _,fun _ _ _=>rfl⟩
    (fun k hk=>⟨(x4.lt k hk).1,(x5 k hk).1,(x5 k hk).2⟩) (r:={x:=.var nn,x0:=.var nn,k:=hd.k,elem:=hd.elem,own:=true,full:=hd.full }) (v:=v)
    ⟨x2,trivial⟩ ⟨x2,trivial⟩ rfl ⟨x3,by simp only [if_true]; exact x4,xf⟩ (fun g _ hg=>.inl hg)
   have r3:=r1.setT (t:=hd.slot) (s:=.vl (.one (.sl id))) x1 ⟨by rw [al_setBox]; simp [hnl],by simp [M.row],by rw [hform]; rfl⟩
   have hih:=ih _ (id + 1) (nn + 1) (m.row id v) vs r3 (fun j hj=>?_) (by simpa using hlen) (fun j h' v' hh hv=>?_) (fun j j' u u' g hne hu hu'=>hsep (j + 1) (j' + 1) u u' g (by omega) (by simpa using hu) (by simpa using hu'))
   ·obtain ⟨m',e1,e2,e3⟩:=hih
    exact ⟨m',e1,r2.trans e2,e3⟩
   ·have:=hbx (j + 1) (by simpa using hj)
    rw [show id + (j + 1)=id + 1 + j by omega] at this
    show (σ.boxes.set id _)[id + 1 + j]?=_
    rw [List.getElem?_set_ne (by omega)]; exact this
   ·obtain ⟨y1,y2,y3,y4,yf,y5⟩:=hx (j + 1) h' v' (by simpa using hh) (by simpa using hv)
    rw [show nn + (j + 1)=nn + 1 + j by omega] at y2 y3 y4
    refine ⟨y1,y2,y3,y4,yf,fun g hg=>⟨fun i b hi hbo=>?_,fun i b r hi hr hro=>?_⟩⟩
    ·have hi:(σ.boxes.set id (some (rowBox {x:=.var nn,x0:=.var nn,k:=hd.k,elem:=hd.elem,own:=true,full:=hd.full })))[i]?=some (some b):=hi
     by_cases hin:id=i
     ·subst hin
      rw [List.getElem?_set_self hnl] at hi
      cases hi; cases hbo
     ·rw [List.getElem?_set_ne hin] at hi
      exact (y5 g hg).1 i b hi hbo
    ·have hi:(σ.boxes.set id (some (rowBox {x:=.var nn,x0:=.var nn,k:=hd.k,elem:=hd.elem,own:=true,full:=hd.full })))[i]?=some (some b):=hi
     by_cases hin:id=i
     ·subst hin
      have:(m.row id v).sv id=v:=by simp [M.row]
      rw [this]
      intro e
      exact hsep 0 (j + 1) v v' g (by omega) rfl (by simpa using hv) e hg
     ·rw [List.getElem?_set_ne hin] at hi
      have:(m.row id v).sv i=m.sv i:=by simp [M.row,Ne.symm hin]
      rw [this]
      exact (y5 g hg).2 i b r hi hr hro
theorem takeL_ok (h:Rep w0 m σ a w) {l:LH} {x:A} {o:Option Nat} (ht:takeL σ l=some (x,o)) :
  ∃ v,a.tmps[l.slot]?=some v ∧ x.wf σ.nv m.env ∧ l.k.hasL (dec (x.ev m.env)) ∧ w.ownsRow w0.heap.size l.elem l.k.sz v (dec (x.ev m.env)).length (flat l.k (dec (x.ev m.env))) ∧ (l.full=true → fullV v) ∧
   ((o=none → v.ownBlock=none) ∧ ∀ id,o=some id → ∃ b r,σ.boxes[id]?=some (some b) ∧ b.row=some r ∧ r.own=true ∧ v=m.sv id):=by
 unfold takeL at ht
 split at ht
 ·rename_i hs
  cases ht
  obtain ⟨v,hv,hr⟩:=h.tmp _ _ hs
  have hr:v=.slice none 0 0:=hr
  subst hr
  refine ⟨_,hv,⟨trivial,trivial⟩,?_,?_,fun _=>rfl,fun _=>rfl,fun _ h=>by cases h⟩
  ·simp only [A.ev,dec_zero]; exact ⟨by simp,by simp⟩
  ·simp only [A.ev,dec_zero]; exact World.ownsRow_nil ..
 ·rename_i id hs
  split at ht
  ·rename_i r hr
   split at ht
   ·rename_i hc
    simp only [Bool.and_eq_true,beq_iff_eq] at hc
    obtain ⟨⟨⟨hc1,hc2⟩,hc3⟩,hc4⟩:=hc
    cases ht
    obtain ⟨v,hv,hrel⟩:=h.tmp _ _ hs
    have hrel:σ.al id=true ∧ v=m.sv id ∧ v.oneCell'=true:=hrel
    obtain ⟨b,hb,hbr⟩:=row_box hr
    obtain ⟨q1,q2,_,_,q3⟩:=h.row_ok hr
    have q4:=q3.2.1
    rw [hc1] at q4
    simp only [if_true] at q4
    have hk:=LKeq_ok hc3
    refine ⟨v,hv,q2,by rw [← hk]; exact q3.1,by rw [← hk,← hc2,hrel.2.1]; exact q4,fun hf=>by rw [hrel.2.1]; exact q3.2.2 (by simpa [hf] using hc4),(fun h=>by cases h),fun i hi=>?_⟩
    cases hi
    exact ⟨b,r,hb,hbr,hc1,hrel.2.1⟩
   ·cases ht
  ·cases ht
 ·cases ht
structure FromRow (ms mt:M) (σs σt:St) (ids:List Nat):Prop where
 box:∀ (id:Nat) (b:Box),σt.boxes[id]?=some (some b) → b.own=true → ∃ b',σs.boxes[id]?=some (some b') ∧ b'.own=true ∧ mt.rho id=ms.rho id
 row:∀ (id:Nat) (b:Box) (r:Row),σt.boxes[id]?=some (some b) → b.row=some r → r.own=true → id ∉ ids ∧ (∃ b',σs.boxes[id]?=some (some b') ∧ b'.row=some r) ∧ mt.sv id=ms.sv id
theorem apart_of {mt:M} {σt:St} {ids:List Nat} (h:Rep w0 m σ a w) (hf:FromRow m mt σ σt ids) {id:Nat} {b:Box} {r:Row} (hb:σ.boxes[id]?=some (some b)) (hr:b.row=some r) (ho:r.own=true) (hid:id ∈ ids) {g:Nat} (hg:(m.sv id).ownBlock=some g):Apart mt σt g:=by
 refine ⟨fun i c hi hc=>?_,fun i c q hi hq hqo=>?_⟩
 ·obtain ⟨b',k1,k2,k3⟩:=hf.box i c hi hc
  intro e
  exact h.rbox id b r hb hr ho i b' k1 k2 (by rw [hg,← k3,e])
 ·obtain ⟨k1,⟨b',k2,k3⟩,k4⟩:=hf.row i c q hi hq hqo
  rw [k4]
  rcases h.rsep id b r i b' q hb hr k2 k3 ho hqo (fun e=>k1 (e ▸ hid)) with h1 | h1
  ·rw [hg] at h1; cases h1
  ·rw [hg] at h1; exact h1
theorem lists_ok (h:Rep w0 m σ a w) {l:List LH} {q:List (A × Option Nat)} (hq:mapO (takeL σ) l=some q) (hu:unlike (lIds q)=true) {mt:M} {σt:St} (hf:FromRow m mt σ σt (lIds q)) :
  ∃ vs:List Value,vs.length=l.length ∧ Sepv vs ∧ ∀ (j:Nat) hj v,l[j]?=some hj → vs[j]?=some v → ∃ x o,q[j]?=some (x,o) ∧ a.tmps[hj.slot]?=some v ∧ x.wf σ.nv m.env ∧ hj.k.hasL (dec (x.ev m.env)) ∧
   w.ownsRow w0.heap.size hj.elem hj.k.sz v (dec (x.ev m.env)).length (flat hj.k (dec (x.ev m.env))) ∧ (hj.full=true → fullV v) ∧ ∀ g,v.ownBlock=some g → Apart mt σt g:=by
 obtain ⟨q1,q2⟩:=mapO_get hq
 have fact:∀ (j:Nat) hj v,l[j]?=some hj → (l.map fun h=>(a.tmps[h.slot]?).getD default)[j]?=some v → ∃ x o,q[j]?=some (x,o) ∧ a.tmps[hj.slot]?=some v ∧ x.wf σ.nv m.env ∧ hj.k.hasL (dec (x.ev m.env)) ∧
   w.ownsRow w0.heap.size hj.elem hj.k.sz v (dec (x.ev m.env)).length (flat hj.k (dec (x.ev m.env))) ∧ (hj.full=true → fullV v) ∧ ((o=none → v.ownBlock=none) ∧ ∀ id,o=some id → ∃ b r,σ.boxes[id]?=some (some b) ∧ b.row=some r ∧ r.own=true ∧ v=m.sv id):=by
  intro j hj v h1 h2
  obtain ⟨⟨x,o⟩,h3,h4⟩:=q2 j hj h1
  obtain ⟨v',k1,k2,k3,k4,kf,k5⟩:=takeL_ok h h4
  have:v'=v:=by
   rw [List.getElem?_map,h1] at h2
   simp [k1] at h2
   exact h2
  subst this
  exact ⟨x,o,h3,k1,k2,k3,k4,kf,k5⟩
 refine ⟨l.map fun h=>(a.tmps[h.slot]?).getD default,by simp,fun j j' v v' g hne h1 h2 hg hg'=>?_,fun j hj v h1 h2=>?_⟩
 ·have l1:j < l.length:=by simpa using (List.getElem?_eq_some_iff.1 h1).1
  have l2:j' < l.length:=by simpa using (List.getElem?_eq_some_iff.1 h2).1
  obtain ⟨x,o,k1,k2,_,_,_,_,k3⟩:=fact j _ v (List.getElem?_eq_getElem l1) h1
  obtain ⟨x',o',k1',k2',_,_,_,_,k3'⟩:=fact j' _ v' (List.getElem?_eq_getElem l2) h2
  cases o with
  | none=>rw [k3.1 rfl] at hg; cases hg
  | some id=>cases o' with
   | none=>rw [k3'.1 rfl] at hg'; cases hg'
   | some id' =>
    obtain ⟨b,r,c1,c2,c3,c4⟩:=k3.2 id rfl
    obtain ⟨b',r',d1,d2,d3,d4⟩:=k3'.2 id' rfl
    rcases h.rsep id b r id' b' r' c1 c2 d1 d2 c3 d3 (unlike_q q hu j j' x x' id id' k1 k1' hne) with e | e
    ·rw [← c4,hg] at e; cases e
    ·rw [← c4,← d4,hg,hg'] at e; exact e rfl
 ·obtain ⟨x,o,k1,k2,k3,k4,k5,kf,k6⟩:=fact j hj v h1 h2
  refine ⟨x,o,k1,k2,k3,k4,k5,kf,fun g hg=>?_⟩
  cases o with
  | none=>rw [k6.1 rfl] at hg; cases hg
  | some id =>
   obtain ⟨b,r,c1,c2,c3,c4⟩:=k6.2 id rfl
   exact apart_of h hf c1 c2 c3 (lIds_mem k1) (by rw [← c4]; exact hg)
end
end Go.Sx

namespace Go.Sx
open Go Go.RowKit
section
variable {P:Program} {T:List K} {w0:World} {m:M} {σ:St} {a:Act} {w:World} {o:Oper}
theorem zeroK_ok {k:LK} {z:Value} (h:zeroK k z=true):z.cells.toList=k.vals 0 ∧ ∀ l ls,k ≠ .tup l ls:=by
 unfold zeroK at h
 split at h
 ·cases h
 ·rename_i hk
  split at h
  ·rename_i v hv
   split at h
   ·rename_i n htk
    have hn:n=0:=by simpa using h
    subst hn
    obtain ⟨r1,r2⟩:=vOf_rel (m:=⟨fun _=>0,fun _=>(0,0),fun _=>default,fun _=>.nilFunc⟩) (nv:=0) (al:=fun _=>false) hv
    obtain ⟨vs,g1,g2,_⟩:=V.rel_cells r1 r2
    obtain ⟨_,_,k3⟩:=takeLs_ok (T:=[]) _ _ _ _ _ htk _ 0 vs g2
    have:=(k3 (fun _=>0) (fun _ _=>rfl) (fun i kk d hi=>by simp at hi)).1
    rw [List.map_cons,List.map_nil,leaf_vals hk] at this
    rw [g1]
    exact ⟨by simpa [A.ev] using this.symm,hk⟩
   ·cases h
  ·cases h
theorem made_flat {k:LK} {z:Value} (hz:z.cells.toList=k.vals 0) (n:Nat):(madeCells z.cells (n * k.sz)).toList=flat k (List.replicate n 0):=by
 have h1:flat k (List.replicate n 0)=(List.replicate n (k.vals 0)).flatten:=by
  simp [flat,List.flatMap,List.map_replicate]
 have hl:(k.vals 0).length=k.sz:=vals_len k 0
 have hs:z.cells.size=(k.vals 0).length:=by rw [← hz]; simp
 rw [h1,← range_mod,hl]
 unfold madeCells
 rw [Array.toList_map,Array.toList_range]
 refine List.map_congr_left fun i _=>?_
 rw [hs,hl,← hz]
 simp [Array.getElem!_eq_getD,Array.getD_eq_getD_getElem?,List.getD_eq_getElem?_getD]
structure MakeSpec (P:Program) (σ:St) (o:Oper) (g:Made) (t:TypeId) (l c:Operand) (i:TypeInfo) (z:Value) (kl kc:IntKind):Prop where
 op:o.op=.makeSlice t l c
 und:P.underlying t=some (.slice g.elem)
 info:P.info? g.elem=some i
 zero:i.zero=some z
 size:i.size=g.k.sz
 bytes:i.bytes ≤ 16384
 zk:zeroK g.k z=true
 cl:σ.cell l=some (.int kl g.a)
 cc:σ.cell c=some (.int kc g.a)
theorem make_spec {g:Made} (h:makeP P σ o.op=some g):∃ t l c i z kl kc,MakeSpec P σ o g t l c i z kl kc:=by
 unfold makeP at h
 split at h
 ·rename_i t l c hop
  split at h
  ·rename_i e hu
   split at h
   ·rename_i i k hi hk
    split at h
    ·rename_i z hz
     split at h
     ·rename_i hcond
      simp only [Bool.and_eq_true,beq_iff_eq,decide_eq_true_eq] at hcond
      split at h
      ·rename_i kl a' kc b' hl hc
       split at h
       ·rename_i hab
        have:=eqA_ok hab
        subst this
        cases h
        exact ⟨t,l,c,i,z,kl,kc,hop,hu,hi,hz,hcond.1.1.2,hcond.1.2,hcond.2,hl,hc⟩
       ·cases h
      ·cases h
     ·cases h
    ·cases h
   ·cases h
  ·cases h
 ·cases h
theorem LK.has_zero (k:LK) (hk:∀ l ls,k ≠ .tup l ls):k.has 0:=by
 cases k with
 | num=>simp [LK.has,N384]
 | int k=>exact Sx.has_zero k
 | tup l ls=>exact absurd rfl (hk l ls)
theorem make_ok (hR:Rep w0 m σ a w) {nid:Nat} (hn:σ.boxes[nid]?=some none) {g:Made} (hg:makeP P σ o.op=some g) {goal:Gl} {t:Tree} {K:Act → World → Prop} {Q:Exit → Act → World → Prop}
  (hh:(letts σ.nv [(.bit,.cmp .leq (.lit 0) g.a),(.bit,.cmp .lss g.a (.lit 4294967296))] (.nz (.var σ.nv) (.nz (.var (σ.nv + 1)) (.lett (σ.nv + 2) (.lst g.k) (.lrep g.a (.lit 0)) t)))).holds T goal m.env)
  (hK:∀ m' a' w',MExt m σ.nv σ.al m' (makeS σ nid g o.dst).nv (makeS σ nid g o.dst).al → Rep w0 m' (makeS σ nid g o.dst) a' w' → t.holds T goal m'.env → K a' w'):o.wp P a w K Q:=by
 obtain ⟨ty,l,c,i,z,kl,kc,G⟩:=make_spec hg
 obtain ⟨l1,l2,l3⟩:=hR.cell G.cl
 obtain ⟨c1,c2,c3⟩:=hR.cell G.cc
 have gen:GenOk T m.env σ.nv [(.bit,.cmp .leq (.lit 0) g.a),(.bit,.cmp .lss g.a (.lit 4294967296))] :=
  ⟨⟨trivial,l1.1⟩,b2i_bit _,⟨A.ok_mono l1.1 (by omega),trivial⟩,b2i_bit _,trivial⟩
 obtain ⟨e1,b1,b2,b3,b4⟩:=letts_holds _ _ _ hh gen
 have hae:g.a.ev e1=g.a.ev m.env:=A.ev_congr l1.1 b1
 have d0:e1 σ.nv=b2i (decide (0 ≤ g.a.ev e1)):=(b3 0 _ _ rfl).1
 have d1:e1 (σ.nv + 1)=b2i (decide (g.a.ev e1 < 4294967296)):=(b3 1 _ _ rfl).1
 obtain ⟨z0,z1,lt⟩:=b4
 have z0:e1 σ.nv ≠ 0:=z0
 have z1:e1 (σ.nv + 1) ≠ 0:=z1
 have y0:0 ≤ g.a.ev e1:=bit_yes (by rw [← d0]; exact z0)
 have y1:g.a.ev e1 < 4294967296:=bit_yes (by rw [← d1]; exact z1)
 rw [hae] at y0 y1
 obtain ⟨n,hnn⟩:=Int.eq_ofNat_of_zero_le y0
 have hd:D.ev T e1 (.lrep g.a (.lit 0))=enc (List.replicate n 0):=by
  show enc (List.replicate (g.a.ev e1).toNat 0)=_
  rw [hae,hnn]; rfl
 have hhas:g.k.hasL (List.replicate n 0):=⟨by rw [List.length_replicate]; omega,fun q hq=>by rw [(List.mem_replicate.1 hq).2]; exact g.k.has_zero (zeroK_ok G.zk).2⟩
 have t1:=lt (enc (List.replicate n 0)) hd.symm (by simp only [KK.has,dec_enc]; exact hhas)
 have henv:∀ j,j < σ.nv → upd e1 (σ.nv + 2) (enc (List.replicate n 0)) j=m.env j:=fun j hj=>by
  simp only [upd]; rw [if_neg (by omega)]; exact b1 j hj
 have hnm:=hR.names _ henv (σ.nv + 3) (by omega)
 have hbytes:i.bytes * n ≤ 281474976710656:=by
  have h1:i.bytes * n ≤ 16384 * 4294967296:=Nat.mul_le_mul G.bytes (by omega)
  omega
 obtain ⟨w',hrun,hown,hgrow⟩:=run_make_full (P:=P) w w0.heap.size ty g.elem i z g.k.sz G.und G.info G.zero G.size kl kc n hbytes (by simp only [maxLen]; omega) hR.below.size
 rw [made_flat (zeroK_ok G.zk).1] at hown
 have hbel:Below w.heap.size w w':=⟨hgrow.os,hgrow.tape,hgrow.output,hgrow.size,fun k hk=>hgrow.block k hk (by simp)⟩
 have hn':({σ with nv:=σ.nv + 3 }:St).boxes[nid]?=some none:=hn
 have hev:dec (A.ev (upd e1 (σ.nv + 2) (enc (List.replicate n 0))) (.var (σ.nv + 2)))=List.replicate n 0:=by simp [A.ev,upd,dec_enc]
 obtain ⟨r1,r2⟩:=hnm.newRow hn' hbel (r:={x:=.var (σ.nv + 2),x0:=.var (σ.nv + 2),k:=g.k,elem:=g.elem,own:=true,full:=true }) (v:=.slice (some ⟨w.heap.size,0,none⟩) n n)
  ⟨by show σ.nv + 2 < σ.nv + 3; omega,trivial⟩ ⟨by show σ.nv + 2 < σ.nv + 3; omega,trivial⟩ rfl
  (by simp only [hev]; exact ⟨hhas,by simp only [if_true,List.length_replicate]; exact hown,fun _=>rfl⟩) (fun b _ hb=>by cases hb; exact Nat.le_refl _)
 have hnl:nid < σ.boxes.length:=(List.getElem?_eq_some_iff.1 hn).1
 have eq:makeS σ nid g o.dst=(({σ with nv:=σ.nv + 3 }:St).setBox nid (rowBox {x:=.var (σ.nv + 2),x0:=.var (σ.nv + 2),k:=g.k,elem:=g.elem,own:=true,full:=true })).put o.dst (.vl (.one (.sl nid))):=by
  unfold makeS; rw [lset_eq]; rfl
 have fin:=r1.put (s:=.vl (.one (.sl nid))) (v:=.slice (some ⟨w.heap.size,0,none⟩) n n) ⟨by
  rw [al_setBox]; simp [hnl],by simp [M.row],rfl⟩ o.dst
 have hal:∀ (τ:St) (d:Option Nat) (q:SV),(τ.put d q).al=τ.al ∧ (τ.put d q).nv=τ.nv:=fun τ d q=>by cases d <;> exact ⟨rfl,rfl⟩
 unfold Oper.wp
 have hex:(execOp a.eval o).run P w=.ok (.value (.slice (some ⟨w.heap.size,0,none⟩) n n)) w':=by
  simp only [execOp,G.op,l3,c3,hnn]
  simp [hrun]
 rw [hex]
 refine hK _ _ _ ?_ (by rw [eq]; exact fin) t1
 rw [eq,(hal _ _ _).1,(hal _ _ _).2]
 exact MExt.trans (m':={m with env:=upd e1 (σ.nv + 2) (enc (List.replicate n 0)) }) (nv':=σ.nv + 3) (al':=σ.al) ⟨henv,fun _ _=>rfl,rfl,fun _ _=>rfl,by omega,fun _ h=>h⟩ r2
theorem run_copy_any (w:World) (dT sT ty elem:TypeId) (g dLen dCap:Nat) (ad:Addr) (sLen sCap sz:Nat) (cur:Array Value) (t:TypeId) (cs:List Value)
  (hu:P.underlying dT=some (.slice elem)) (hs:szOf P elem=some sz) (hg:w.heap[g]?=some (.cells cur t (0,0))) (hn:cs.length=Nat.min sLen dLen * sz)
  (hsrc:∀ j v,cs[j]?=some v → w.cell? (ad.add j)=some v) (hfit:cs.length ≤ cur.size) (h1:∀ v ∈ cs,v.oneCell'=true) :
  (Builtin.copy_ #[dT,sT] ty #[.slice (some ⟨g,0,none⟩) dLen dCap,.slice (some ad) sLen sCap]).run P w =
   .ok (goInt (Nat.min sLen dLen)) (w.setRow g (cs ++ cur.toList.drop cs.length).toArray):=by
 have hl:=run_loadCells_list (P:=P) w ad cs hsrc
 have hst:=run_storeCells_at P g 0 t cs 0 cur w hg (by simpa using hfit) h1
 simp only [Nat.add_zero,Nat.zero_add,List.take_zero,List.nil_append] at hst
 simp [Builtin.copy_,run_underlying hu,Builtin.lenOf,Builtin.firstCells,run_sizeOf hs,← hn,hl,hst]
theorem run_copy_zero (w:World) (dT sT ty elem:TypeId) (ad:Addr) (dLen dCap sz:Nat) (hu:P.underlying dT=some (.slice elem)) (hs:szOf P elem=some sz) :
  (Builtin.copy_ #[dT,sT] ty #[.slice (some ad) dLen dCap,.slice none 0 0]).run P w=.ok (goInt 0) w:=by
 simp [Builtin.copy_,run_underlying hu,Builtin.lenOf,Builtin.firstCells,run_sizeOf hs,storeCells]
structure CopySpec (P:Program) (σ:St) (nn:Nat) (o:Oper) (g:Copy) (t t':TypeId) (d s:Operand) (e:TypeId) (v:V):Prop where
 op:o.op=.call {callee:=.builtin .copy,args:=#[d,s],argTypes:=#[t,t'] }
 und:P.underlying t=some (.slice e)
 cell:σ.cell d=some (.sl g.id)
 box:σ.boxes[g.id]?=some (some g.b)
 row:g.b.row=some g.r
 own:g.r.own=true
 size:szOf P e=some g.r.k.sz
 src:σ.v s=some v
 take:takeSh σ nn (.lst g.r.k) v=some (g.defs,[g.y])
theorem copy_spec {nn:Nat} {g:Copy} (h:copyP P σ nn o.op=some g):∃ t t' d s e v,CopySpec P σ nn o g t t' d s e v:=by
 unfold copyP at h
 split at h
 ·rename_i c hop
  split at h
  ·rename_i t t' d s hc ht hx
   split at h
   ·rename_i e id hu hcd
    split at h
    ·rename_i b z hb hz
     split at h
     ·rename_i r hr
      split at h
      ·rename_i hcond
       simp only [Bool.and_eq_true,beq_iff_eq] at hcond
       split at h
       ·rename_i ds y hsrc
        cases h
        unfold srcK at hsrc
        split at hsrc
        ·rename_i v hv
         split at hsrc
         ·rename_i ds' y' htk
          cases hsrc
          refine ⟨t,t',d,s,e,v,?_,hu,hcd,box_some hb,hr,hcond.1,by rw [hz,hcond.2],hv,htk⟩
          rw [hop]
          obtain ⟨callee,args,tys⟩:=c
          simp only at hc ht hx
          subst hc
          have ea:args=#[d,s]:=Array.ext' (by simpa using hx)
          have et:tys=#[t,t']:=Array.ext' (by simpa using ht)
          rw [ea,et]
         ·cases hsrc
        ·cases hsrc
       ·cases h
      ·cases h
     ·cases h
    ·cases h
   ·cases h
  ·cases h
 ·cases h
theorem copy_ok (hR:Rep w0 m σ a w) {g:Copy} (hg:copyP P σ σ.nv o.op=some g) {goal:Gl} {t:Tree} {K:Act → World → Prop} {Q:Exit → Act → World → Prop}
  (hh:(letts σ.nv (g.defs ++ [(.int .i64,.llen g.r.x0),(.bit,.cmp .lss (.lit 0) (.var (σ.nv + g.defs.length)))]) (.nz (.var (σ.nv + (g.defs.length + 1)))
 (.lett (σ.nv + (g.defs.length + 2)) (.lst g.r.k) (.lcpy g.r.x g.y) t))).holds T goal m.env)
  (hK:∀ m' a' w',MExt m σ.nv σ.al m' (copyS σ g o.dst).nv (copyS σ g o.dst).al → Rep w0 m' (copyS σ g o.dst) a' w' → t.holds T goal m'.env → K a' w'):o.wp P a w K Q:=by
 obtain ⟨ty,ty',d,s,e,v,G⟩:=copy_spec hg
 obtain ⟨q1,q2,q6,q3⟩:=hR.rows g.id g.b g.r G.box G.row
 have hd:σ.al g.id=true ∧ a.eval d=m.sv g.id ∧ (a.eval d).oneCell'=true:=hR.cell G.cell
 obtain ⟨k1,k2,k3⟩:=takeSh_ok (T:=T) G.take hR (hR.v_ G.src)
 obtain ⟨k1,k4⟩:=k1 (Nat.le_refl _)
 generalize hl:dec (g.r.x.ev m.env)=l at q3 q6
 have hlmax:=q3.1.1
 have gen:GenOk T m.env σ.nv (g.defs ++ [(.int .i64,.llen g.r.x0),(.bit,.cmp .lss (.lit 0) (.var (σ.nv + g.defs.length)))]):=by
  refine gen_append _ _ _ _ k1 fun e' he _=>⟨A.ok_mono q2.1 (by omega),?_,⟨trivial,Nat.lt_succ_self _⟩,b2i_bit _,trivial⟩
  simp only [KK.has,D.ev]
  rw [A.ev_congr q2.1 he,q6]
  simp only [has,lo,hi]; omega
 obtain ⟨e1,b1,b2,b3,b4⟩:=letts_holds _ _ _ hh gen
 obtain ⟨c1,c2⟩:=(Told.append).1 b3
 have hxe:g.r.x.ev e1=g.r.x.ev m.env:=A.ev_congr q1.1 b1
 have hx0e:g.r.x0.ev e1=g.r.x0.ev m.env:=A.ev_congr q2.1 b1
 have d0:e1 (σ.nv + g.defs.length)=(l.length:Int):=by
  have:=(c2 0 _ _ rfl).1
  simpa [D.ev,hx0e,q6] using this
 have d1:e1 (σ.nv + g.defs.length + 1)=b2i (decide (0 < e1 (σ.nv + g.defs.length))):=(c2 1 _ _ rfl).1
 obtain ⟨nzf,lt⟩:=b4
 have hpos:0 < l.length:=by
  have h0:e1 (σ.nv + g.defs.length + 1) ≠ 0:=nzf
  have:=bit_yes (b:=0 < e1 (σ.nv + g.defs.length)) (by rw [← d1]; exact h0)
  omega
 obtain ⟨hy1,hy2⟩:=k3 e1 b1 c1
 simp only [List.map_cons,List.map_nil,Sh.leaves,lhas,Sh.rel,List.headD_cons] at hy1 hy2
 generalize hye:dec (g.y.ev e1)=y at hy1 hy2
 have hde:D.ev T e1 (.lcpy g.r.x g.y)=enc (y.take l.length ++ l.drop y.length):=by simp only [D.ev,hxe,hl,hye]
 have hhas:g.r.k.hasL (y.take l.length ++ l.drop y.length):=by
  refine ⟨?_,fun q hq=>?_⟩
  ·simp only [List.length_append,List.length_take,List.length_drop]; omega
  ·rcases List.mem_append.1 hq with hq | hq
   ·exact hy1.1.2 q (List.mem_of_mem_take hq)
   ·exact q3.1.2 q (List.mem_of_mem_drop hq)
 have hlen':(y.take l.length ++ l.drop y.length).length=l.length:=by
  simp only [List.length_append,List.length_take,List.length_drop]; omega
 have t1:=lt (enc (y.take l.length ++ l.drop y.length)) hde.symm (by simp only [KK.has,dec_enc]; exact hhas)
 have henv:∀ j,j < σ.nv → upd e1 (σ.nv + (g.defs.length + 2)) (enc (y.take l.length ++ l.drop y.length)) j=m.env j:=fun j hj=>by
  simp only [upd]; rw [if_neg (by omega)]; exact b1 j hj
 have hnm:=hR.names _ henv (σ.nv + (g.defs.length + 3)) (by omega)
 have hev:dec (A.ev (upd e1 (σ.nv + (g.defs.length + 2)) (enc (y.take l.length ++ l.drop y.length))) (.var (σ.nv + (g.defs.length + 2))))=y.take l.length ++ l.drop y.length:=by simp [A.ev,upd,dec_enc]
 have hxn:g.r.x.ev (upd e1 (σ.nv + (g.defs.length + 2)) (enc (y.take l.length ++ l.drop y.length)))=g.r.x.ev m.env:=A.ev_congr q1.1 henv
 have q4:=q3.2.1
 rw [G.own] at q4
 simp only [if_true] at q4
 rcases q4.2 with ⟨hv,hn⟩ | ⟨gb,cap,cur,hv,hbase,hgb,hc1,hc2,hc3,hc4⟩
 ·omega
 have hfl:(flat g.r.k l).length=l.length * g.r.k.sz:=flat_len _ _
 have hcs:(flat g.r.k (y.take l.length)).length=Nat.min y.length l.length * g.r.k.sz:=by
  rw [flat_len,List.length_take,Nat.min_comm]
 have hfit:(flat g.r.k (y.take l.length)).length ≤ cur.size:=by
  rw [hcs,hc3]
  exact Nat.mul_le_mul_right _ (Nat.le_trans (Nat.min_le_right _ _) hc1)
 have hrun:(Builtin.copy_ #[ty,ty'] o.type #[a.eval d,a.eval s]).run P w=.ok (goInt (Nat.min y.length l.length)) (w.setRow gb (flat g.r.k (y.take l.length) ++ cur.toList.drop (flat g.r.k (y.take l.length)).length).toArray):=by
  rw [hd.2.1,hv]
  rcases hy2 with ⟨hs,hy0⟩ | ⟨ad,scap,hs,hb,hsc,hcell⟩
  ·rw [hs,hy0]
   have:=run_copy_zero (P:=P) w ty ty' o.type e ⟨gb,0,none⟩ l.length cap g.r.k.sz G.und G.size
   simp only [List.length_nil,List.take_nil]
   rw [this]
   have e2:flat g.r.k ([]:List Int)=[]:=rfl
   rw [e2]
   simp only [List.length_nil,List.drop_zero,List.nil_append,Array.toArray_toList]
   rw [setRow_self w gb cur _ (0,0) hgb]
   simp
  ·rw [hs]
   refine run_copy_any (P:=P) w ty ty' o.type e gb l.length cap ad y.length scap g.r.k.sz cur g.r.elem _ G.und G.size hgb hcs (fun j u hj=>?_) hfit (flat_one _ _)
   refine hcell j u ?_
   rw [flat_take,List.getElem?_take] at hj
   split at hj
   ·exact hj
   ·cases hj
 have hex:(execOp a.eval o).run P w=.ok (.value (goInt (Nat.min y.length l.length))) (w.setRow gb (flat g.r.k (y.take l.length) ++ cur.toList.drop (flat g.r.k (y.take l.length)).length).toArray):=by
  simp only [execOp,G.op,resolve]
  simp only [invoke,builtin,Sem.run_bind,Sem.run_pure,Result.andThen_ok,List.map_toArray,List.map_cons,List.map_nil,hrun]
 unfold Oper.wp
 rw [hex]
 have hbox':({σ with nv:=σ.nv + (g.defs.length + 3) }:St).boxes[g.id]?=some (some g.b):=G.box
 have hat:RowAt w0 (w.setRow gb (flat g.r.k (y.take l.length) ++ cur.toList.drop (flat g.r.k (y.take l.length)).length).toArray) {g.r with x:=.var (σ.nv + (g.defs.length + 2)) } (m.sv g.id) (y.take l.length ++ l.drop y.length):=by
  refine ⟨hhas,?_,q3.2.2⟩
  simp only [G.own,if_true]
  refine ⟨by rw [flat_len],.inr ⟨gb,cap,_,by rw [hlen']; exact hv,hbase,setRow_heap w _ _ _ _ _ hgb,by rw [hlen']; exact hc1,hc2,?_,?_⟩⟩
  ·simp only [List.size_toArray,List.length_append,List.length_drop,Array.length_toList]; omega
  ·rw [hlen',List.toList_toArray,flat_append,flat_drop,← hc4]
   have hle:(flat g.r.k (y.take l.length)).length ≤ l.length * g.r.k.sz:=by rw [hcs]; exact Nat.mul_le_mul_right _ (Nat.min_le_right _ _)
   rw [List.take_append,List.take_of_length_le hle]
   congr 1
   rw [hcs,← List.drop_take]
   by_cases hyl:y.length ≤ l.length
   ·rw [show Nat.min y.length l.length=y.length from Nat.min_eq_left hyl]
   ·have e1:Nat.min y.length l.length=l.length:=Nat.min_eq_right (by omega)
    rw [e1,List.drop_of_length_le (by rw [List.length_take]; omega),List.drop_of_length_le]
    rw [List.length_take]
    have:=Nat.mul_le_mul_right g.r.k.sz (show l.length ≤ y.length by omega)
    omega
 have r1:=hnm.wrRow hbox' G.row G.own (g:=gb) (x:=.var (σ.nv + (g.defs.length + 2))) (by show (m.sv g.id).ownBlock=some gb; rw [hv]; rfl) ⟨by show σ.nv + (g.defs.length + 2) < σ.nv + (g.defs.length + 3); omega,trivial⟩
  (by rw [hev,hlen']; simp only [hxn,hl]) (by rw [hev]; exact hat)
 have fin:=r1.put (s:=.vl (.one .top)) (v:=goInt (Nat.min y.length l.length)) trivial o.dst
 have eq:copyS σ g o.dst=(({σ with nv:=σ.nv + (g.defs.length + 3) }:St).setBox g.id (g.b.upd (.row (.var (σ.nv + (g.defs.length + 2)))))).put o.dst (.vl (.one .top)):=by
  unfold copyS; rw [lset_eq]; rfl
 have hal:∀ (τ:St) (d:Option Nat) (q:SV),(τ.put d q).al=τ.al ∧ (τ.put d q).nv=τ.nv:=fun τ d q=>by cases d <;> exact ⟨rfl,rfl⟩
 have hals:(({σ with nv:=σ.nv + (g.defs.length + 3) }:St).setBox g.id (g.b.upd (.row (.var (σ.nv + (g.defs.length + 2)))))).al=σ.al:=by
  funext i
  rw [al_setBox]
  split
  ·rename_i hi; rw [hi.1]; exact (al_iff.2 ⟨g.b,G.box⟩).symm
  ·rfl
 refine hK _ _ _ ?_ (by rw [eq]; exact fin) t1
 rw [eq,(hal _ _ _).1,(hal _ _ _).2,hals]
 exact ⟨henv,fun _ _=>rfl,rfl,fun _ _=>rfl,by show σ.nv ≤ σ.nv + (g.defs.length + 3); omega,fun _ h=>h⟩
end
end Go.Sx

namespace Go.Sx
open Go Go.RowKit
section
variable {P:Program} {T:List K} {w0:World} {m:M} {σ:St} {a:Act} {w:World}
theorem dropB_get {bs:List (Option Box)} {id i:Nat} {b:Box} (h:(dropB bs id)[i]?=some (some b)):∃ b',bs[i]?=some (some b') ∧ b'.elem=b.elem ∧ b'.row=b.row ∧ (b'.cells=b.cells ∧ b'.own=b.own ∧ i ≠ id ∨ b.cells=[] ∧ b.own=false):=by
 unfold dropB at h
 rw [lget?_eq] at h
 split at h
 ·rename_i b0 hb0
  rw [lset_eq] at h
  by_cases hi:id=i
  ·subst hi
   have hl:id < bs.length:=(List.getElem?_eq_some_iff.1 hb0).1
   simp [hl] at h
   subst h
   exact ⟨b0,hb0,rfl,rfl,.inr ⟨rfl,rfl⟩⟩
  ·rw [List.getElem?_set_ne hi] at h
   exact ⟨b,h,rfl,rfl,.inl ⟨rfl,rfl,fun e=>hi e.symm⟩⟩
 ·rename_i hn
  exact ⟨b,h,rfl,rfl,.inl ⟨rfl,rfl,fun e=>hn b (by rw [← e]; exact h)⟩⟩
theorem dropB_len (bs:List (Option Box)) (id:Nat):(dropB bs id).length=bs.length:=by
 unfold dropB
 split
 ·rw [lset_eq]; simp
 ·rfl
theorem dropB_al (σ:St) (id:Nat):({σ with boxes:=dropB σ.boxes id }:St).al=σ.al:=by
 funext i
 unfold St.al dropB
 simp only [lget?_eq,lset_eq]
 cases hb0:σ.boxes[id]? with
 | none=>rfl
 | some ob=>cases ob with
  | none=>rfl
  | some b0 =>
   simp only
   by_cases hi:id=i
   ·subst hi
    have hl:id < σ.boxes.length:=(List.getElem?_eq_some_iff.1 hb0).1
    rw [List.getElem?_set_self hl,hb0]
   ·rw [List.getElem?_set_ne hi]
theorem Rep.dropB (h:Rep w0 m σ a w) (id:Nat):Rep w0 m {σ with boxes:=Sx.dropB σ.boxes id } a w:=by
 have hal:=dropB_al σ id
 have own':∀ {i:Nat} {b:Box},(Sx.dropB σ.boxes id)[i]?=some (some b) → b.own=true → ∃ b',σ.boxes[i]?=some (some b') ∧ b'.own=true ∧ b'.elem=b.elem ∧ b'.cells=b.cells:=by
  intro i b hi ho
  obtain ⟨b',h1,h2,_,h4⟩:=dropB_get hi
  rcases h4 with ⟨h4,h5,_⟩ | ⟨_,h5⟩
  ·exact ⟨b',h1,h5.trans ho,h2,h4⟩
  ·rw [ho] at h5; cases h5
 have row':∀ {i:Nat} {b:Box} {r:Row},(Sx.dropB σ.boxes id)[i]?=some (some b) → b.row=some r → ∃ b',σ.boxes[i]?=some (some b') ∧ b'.row=some r:=by
  intro i b r hi hr
  obtain ⟨b',h1,_,h3,_⟩:=dropB_get hi
  exact ⟨b',h1,h3.trans hr⟩
 refine ⟨h.defers,h.size,?_,h.below,?_,?_,?_,h.kn,?_,?_,?_,?_⟩
 ·rw [hal]; exact h.tmp
 ·rw [hal]; intro i b hi ho
  obtain ⟨b',h1,h2,h3,h4⟩:=own' hi ho
  obtain ⟨g1,g2,vs,g3,g4⟩:=h.own i b' h1 h2
  exact ⟨g1,g2,vs,by rw [← h3]; exact g3,by rw [← h4]; exact g4⟩
 ·rw [hal]; intro i b hi ho
  obtain ⟨b',h1,h2,_,h4⟩:=dropB_get hi
  rcases h4 with ⟨h4,h5,_⟩ | ⟨h4,_⟩
  ·have:=h.ro i b' h1 (h5.trans ho)
   rw [h4] at this
   exact this
  ·exact .inl h4
 ·intro i i' b b' hi hi' ho ho' hd
  obtain ⟨c,h1,h2,_⟩:=own' hi ho
  obtain ⟨c',k1,k2,_⟩:=own' hi' ho'
  exact h.inj i i' c c' h1 k1 h2 k2 hd
 ·rw [hal]; exact h.gl
 ·intro i b r hi hr
  obtain ⟨b',h1,h2⟩:=row' hi hr
  exact h.rows i b' r h1 h2
 ·intro i b r hi hr ho i' b' hi' hbo
  obtain ⟨c,h1,h2⟩:=row' hi hr
  obtain ⟨c',k1,k2,_⟩:=own' hi' hbo
  exact h.rbox i c r h1 h2 ho i' c' k1 k2
 ·intro i b r i' b' r' hi hr hi' hr' ho ho' hd
  obtain ⟨c,h1,h2⟩:=row' hi hr
  obtain ⟨c',k1,k2⟩:=row' hi' hr'
  exact h.rsep i c r i' c' r' h1 h2 k1 k2 ho ho' hd
theorem Rep.retmp (h:Rep w0 m σ a w) (t:Nat) (s:SV) (hs:∀ v,a.tmps[t]?=some v → s.rel m σ.nv σ.al v):Rep w0 m {σ with tmps:=σ.tmps.set t s } a w:=by
 refine ⟨h.defers,by simp [h.size],fun i s' hi=>?_,h.below,h.own,h.ro,h.inj,h.kn,h.gl,h.rows,h.rbox,h.rsep⟩
 simp only [List.getElem?_set] at hi
 split at hi
 ·rename_i he
  subst he
  split at hi
  ·rename_i hl
   cases hi
   have:t < a.tmps.size:=by rw [h.size]; exact hl
   exact ⟨a.tmps[t],Array.getElem?_eq_getElem this,hs _ (Array.getElem?_eq_getElem this)⟩
  ·cases hi
 ·exact h.tmp i s' hi
structure FrzSpec (P:Program) (σ:St) (nn:Nat) (g:Frz) (b:Box):Prop where
 cell:σ.cell (.tmp g.slot)=some (.slice g.id 0 g.n g.n)
 box:σ.box g.id=some b
 own:b.own=true
 elem:b.elem=g.elem
 pos:0 < g.n
 max:g.n ≤ 1024
 len:b.cells.length=g.n * g.k.sz
 take:takeNK g.k nn g.n b.cells=some (g.defs,g.as)
theorem freeze_spec {nn:Nat} {op:Op} {g:Frz} (h:freezeP P σ nn op=some g):∃ b,FrzSpec P σ nn g b:=by
 unfold freezeP at h
 split at h
 ·split at h
  ·split at h
   ·rename_i id n cap hc
    split at h
    ·split at h
     ·rename_i k b hk hb
      split at h
      ·rename_i hcond
       simp only [Bool.and_eq_true,beq_iff_eq,decide_eq_true_eq] at hcond
       obtain ⟨⟨⟨⟨⟨⟨c1,c2⟩,c3⟩,c4⟩,c5⟩,c6⟩,c7⟩:=hcond
       split at h
       ·rename_i ds as ht
        cases h
        subst c4
        exact ⟨b,hc,hb,c1,c3,c5,c6,c7,ht⟩
       ·cases h
      ·cases h
     ·cases h
    ·cases h
   ·cases h
  ·cases h
 ·cases h
theorem freeze_ok (hR:Rep w0 m σ a w) {op:Op} {g:Frz} (hg:freezeP P σ σ.nv op=some g) {goal:Gl} {t:Tree}
  (hh:(letts σ.nv (g.defs ++ [(.lst g.k,.lapp (.lit 0) g.as)]) t).holds T goal m.env) :
  ∃ m',MExt m σ.nv σ.al m' (freezeS σ g).nv (freezeS σ g).al ∧ Rep w0 m' (freezeS σ g) a w ∧ t.holds T goal m'.env:=by
 obtain ⟨b,G⟩:=freeze_spec hg
 obtain ⟨k1,k2,vs,k3,k4⟩:=hR.own g.id b (box_some G.box) G.own
 obtain ⟨g1,g3,g4⟩:=takeNK_ok (T:=T) _ _ _ _ _ G.take m σ.nv vs k4
 have hvl:vs.length=g.n * g.k.sz:=by rw [← k4.length,G.len]
 have fin:∀ e',(∀ i,i < σ.nv → e' i=m.env i) → Told T e' σ.nv g.defs → g.k.hasL (g.as.map (·.ev e')) ∧ flat g.k (g.as.map (·.ev e'))=vs ∧ (g.as.map (·.ev e')).length=g.n:=fun e' he ht=>by
  obtain ⟨v1,v2⟩:=g4 e' he ht
  have hl:(g.as.map (·.ev e')).length=g.n:=by rw [List.length_map,g3]
  exact ⟨⟨by rw [hl]; have:=G.max; omega,v2⟩,v1,hl⟩
 have gen:GenOk T m.env σ.nv (g.defs ++ [(.lst g.k,.lapp (.lit 0) g.as)]):=by
  refine gen_append _ _ _ _ (g1 (Nat.le_refl _)).1 fun e1 he1 ht1=>⟨⟨trivial,(g1 (Nat.le_refl _)).2⟩,?_,trivial⟩
  simp only [KK.has,D.ev,A.ev,dec_zero,dec_enc,List.nil_append]
  exact (fin e1 he1 ht1).1
 obtain ⟨e1,b1,b2,b3,b4⟩:=letts_holds _ _ _ hh gen
 obtain ⟨c1,c2⟩:=(Told.append).1 b3
 obtain ⟨f1,f2,f3⟩:=fin e1 b1 c1
 have h0:e1 (σ.nv + g.defs.length)=enc (g.as.map (·.ev e1)):=by
  have h1:e1 (σ.nv + g.defs.length + 0)=enc (dec 0 ++ g.as.map (·.ev e1)):=(c2 0 _ _ rfl).1
  rwa [dec_zero,List.nil_append] at h1
 generalize hl:g.as.map (·.ev e1)=l at f1 f2 f3 h0
 have hnm:=hR.names e1 b1 (σ.nv + (g.defs.length + 1)) (by omega)
 have hdr:=(hnm.dropB g.id).room 1
 have hal1:({σ with nv:=σ.nv + (g.defs.length + 1),boxes:=Sx.dropB σ.boxes g.id ++ List.replicate 1 none }:St).al=σ.al:=by
  rw [← dropB_al σ g.id]; exact al_room {σ with boxes:=Sx.dropB σ.boxes g.id } 1
 have hbx:∀ {i:Nat} {bx:Box},(Sx.dropB σ.boxes g.id ++ List.replicate 1 none)[i]?=some (some bx) → (Sx.dropB σ.boxes g.id)[i]?=some (some bx):=by
  intro i bx hi
  rcases Nat.lt_or_ge i (Sx.dropB σ.boxes g.id).length with h | h
  ·rwa [List.getElem?_append_left h] at hi
  ·rw [List.getElem?_append_right h] at hi
   have:=List.mem_of_getElem? hi
   rw [List.mem_replicate] at this
   cases this.2
 have hev:dec (A.ev e1 (.var (σ.nv + g.defs.length)))=l:=by
  show dec (e1 (σ.nv + g.defs.length))=l
  rw [h0,dec_enc]
 have hn1:(Sx.dropB σ.boxes g.id ++ List.replicate 1 none)[σ.boxes.length]?=some none:=by
  rw [List.getElem?_append_right (by rw [dropB_len]; exact Nat.le_refl _),dropB_len]; simp
 have hat0:m.at g.id 0=⟨(m.rho g.id).1,0,none⟩:=by simp [M.at,k1]
 obtain ⟨q1,q2⟩:=hdr.rowIn (nid:=σ.boxes.length) hn1 (row:=some (m.rho g.id).1) (w':=w) ⟨rfl,rfl,rfl,Nat.le_refl _,fun _ _ _=>rfl⟩
  (fun k hk=>by
   cases hk
   refine ⟨k2,fun id b' hb' ho e=>?_,fun id b' q hb' hq hqo e=>?_⟩
   ·obtain ⟨c,d1,_,_,d4⟩:=dropB_get (hbx hb')
    rcases d4 with ⟨_,d5,d6⟩ | ⟨_,d5⟩
    ·exact hR.inj id g.id c b d1 (box_some G.box) (d5.trans ho) G.own d6 e
    ·rw [ho] at d5; cases d5
   ·obtain ⟨c,d1,_,d3,_⟩:=dropB_get (hbx hb')
    exact hR.rbox id c q d1 (d3.trans hq) hqo g.id b (box_some G.box) G.own e)
  (r:={x:=.var (σ.nv + g.defs.length),x0:=.var (σ.nv + g.defs.length),k:=g.k,elem:=g.elem,own:=true,full:=true }) (v:=.slice (some ⟨(m.rho g.id).1,0,none⟩) g.n g.n)
  ⟨by show σ.nv + g.defs.length < σ.nv + (g.defs.length + 1); omega,trivial⟩ ⟨by show σ.nv + g.defs.length < σ.nv + (g.defs.length + 1); omega,trivial⟩ rfl
  (by
   show RowAt w0 w _ _ (dec (A.ev e1 (.var (σ.nv + g.defs.length))))
   rw [hev]
   refine ⟨f1,?_,fun _=>rfl⟩
   simp only [if_true]
   rw [f2,f3]
   exact ⟨hvl,.inr ⟨(m.rho g.id).1,g.n,vs.toArray,rfl,k2,by rw [k3,G.elem],Nat.le_refl _,by have:=G.max; unfold maxLen; omega,by simpa using hvl,by rw [List.take_of_length_le (by rw [← hvl]; simp)]⟩⟩)
  (fun g' _ hg'=>.inl hg')
 have eq:freezeS σ g={(({σ with nv:=σ.nv + (g.defs.length + 1),boxes:=Sx.dropB σ.boxes g.id ++ List.replicate 1 none }:St).setBox σ.boxes.length (rowBox {x:=.var (σ.nv + g.defs.length),x0:=.var (σ.nv + g.defs.length),k:=g.k,elem:=g.elem,own:=true,full:=true })) with tmps:=σ.tmps.set g.slot (.vl (.one (.sl σ.boxes.length))) }:=by
  unfold freezeS St.setBox
  rw [lset_eq]
  have:(Sx.dropB σ.boxes g.id ++ List.replicate 1 none).set σ.boxes.length (some (rowBox {x:=.var (σ.nv + g.defs.length),x0:=.var (σ.nv + g.defs.length),k:=g.k,elem:=g.elem,own:=true,full:=true }))=Sx.dropB σ.boxes g.id ++ [some (rowBox {x:=.var (σ.nv + g.defs.length),x0:=.var (σ.nv + g.defs.length),k:=g.k,elem:=g.elem,own:=true,full:=true })]:=by
   rw [List.set_append_right _ _ (by rw [dropB_len]; exact Nat.le_refl _),dropB_len]; simp
  simp only [this]
 have hc:=hR.cell G.cell
 have hnl:σ.boxes.length < (Sx.dropB σ.boxes g.id ++ List.replicate 1 none).length:=by simp [dropB_len]
 refine ⟨({m with env:=e1 }:M).row σ.boxes.length (.slice (some ⟨(m.rho g.id).1,0,none⟩) g.n g.n),?_,?_,b4⟩
 ·rw [eq]
  refine MExt.trans (m':={m with env:=e1 }) (nv':=σ.nv + (g.defs.length + 1)) (al':=σ.al) ⟨b1,fun _ _=>rfl,rfl,fun _ _=>rfl,by omega,fun _ h=>h⟩ ?_
  rw [hal1] at q2
  exact q2
 ·rw [eq]
  refine q1.retmp g.slot _ fun v hv=>⟨by rw [al_setBox,if_pos ⟨rfl,hnl⟩],?_,?_⟩
  ·have he:a.eval (.tmp g.slot)=v:=by simp [Act.eval,hv]
   rw [← he,hc.2,hat0]
   simp [M.row]
  ·have he:a.eval (.tmp g.slot)=v:=by simp [Act.eval,hv]
   rw [← he,hc.2]; rfl
end
end Go.Sx

namespace Go.Sx
open Go Go.RowKit
section
variable {P:Program} {T:List K} {LA:List Ann} {w0:World} {m:M} {σ:St} {a:Act} {w:World}
def jobWp (P:Program) (n:Nat) (Q:Exit → Act → World → Prop):Job → Act → World → Prop
 | .code c,a,w=>c.wp P Q a w
 | .rounds c,a,w=>Code.rounds P c Q n a w
 | .ops all l,a,w=>wpList P all Q l a w
def Sound (P:Program) (T:List K) (LA:List Ann) (n:Nat):Prop:=∀ (job:Job) (σ:St) (k:Ex → St → Tree) (w0:World) (m:M) (a:Act) (w:World) (goal:Gl) (Q:Exit → Act → World → Prop),
 Rep w0 m σ a w → σ.lvl=goal.stk.length → (run P T LA n job σ k).holds T goal m.env →
 (∀ e σ' m' a' w' goal',GExt goal goal' → σ'.lvl=goal'.stk.length → MExt m σ.nv σ.al m' σ'.nv σ'.al → Rep w0 m' σ' a' w' → (k e σ').holds T goal' m'.env → Q (exitOf e) a' w') → jobWp P n Q job a w
theorem plan_new {nn nid:Nat} {op:Op} {p:Plan} (hp:plan P T σ nn nid op=.ok p) (he:isNew p.eff=true):mayNew op=true:=by
 cases op with
 | alloc e=>rfl
 | box e x=>rfl
 | buildSlice t n ps=>rfl
 | call c=>rfl
 | binOp op t x y yt =>
  exfalso
  simp only [plan] at hp
  split at hp
  ·split at hp
   ·rename_i q hq
    cases hp
    obtain ⟨id,r,e,n,rfl,rfl,hr,hut,hn,rfl⟩:=rowNil_spec hq
    cases he
   rename_i hnone
   clear hnone
   unfold planBin at hp
   split at hp
   ·simp only [binInt,mkP] at hp
    repeat' split at hp
    all_goals (first | (cases hp; done) | (cases hp; cases he; done))
   all_goals
    try simp only [mkP,okP] at hp
    repeat' split at hp
    all_goals (first | (cases hp; done) | (cases hp; cases he; done))
  ·cases hp
 | _ =>
  exfalso
  simp only [plan,okP,partC,mkP,loadRow,partP] at hp
  repeat' split at hp
  all_goals (first | (cases hp; done) | (cases hp; cases he; done))
theorem room_ok (h:Rep w0 m σ a w) (op:Op):Rep w0 m (room σ op) a w ∧ (room σ op).nv=σ.nv ∧ (room σ op).lvl=σ.lvl ∧ (room σ op).al=σ.al ∧ (mayNew op=true → (room σ op).boxes[σ.boxes.length]?=some none):=by
 unfold room
 split
 ·refine ⟨h.room 1,rfl,rfl,?_,fun _=>by simp⟩
  funext id
  unfold St.al
  by_cases hl:id < σ.boxes.length
  ·simp [List.getElem?_append_left hl]
  ·simp only [List.getElem?_eq_none (show σ.boxes.length ≤ id by omega)]
   rw [List.getElem?_append_right (by omega)]
   by_cases h2:id - σ.boxes.length=0
   ·simp [h2]
   ·rw [List.getElem?_eq_none (by simp; omega)]
 ·rename_i hm
  exact ⟨h,rfl,rfl,rfl,fun e=>absurd e hm⟩
theorem knows (h:Rep w0 m σ a w) {v:Nat} {t f:Tree} {goal:Gl} (hh:(Tree.split v t f).holds T goal m.env) (hv:v < σ.nv) :
  (Rep w0 m (σ.know v true) a w ∧ t.holds T goal m.env ∧ m.env v ≠ 0) ∨ (Rep w0 m (σ.know v false) a w ∧ f.holds T goal m.env ∧ m.env v=0):=by
 obtain ⟨h1,h2⟩:=hh
 by_cases hz:m.env v=0
 ·exact .inr ⟨h.know hv (by simp [hz]),h2 hz,hz⟩
 ·exact .inl ⟨h.know hv (by simp [hz]),h1 hz,hz⟩
structure DropOk (σ σd:St) (n:Nat) (ids:List Nat):Prop where
 nv:σd.nv=σ.nv
 kn:σd.kn=σ.kn
 gl:σd.gl=σ.gl
 len:σd.tmps.length=σ.tmps.length
 al:σd.al=σ.al
 box:∀ (id:Nat) (b:Box),σd.boxes[id]?=some (some b) → ∃ b',σ.boxes[id]?=some (some b') ∧ b'.own=b.own ∧ (b.row=none ∨ b'.row=b.row ∧ id ∉ ids)
 room:∀ j,j < n → σd.boxes[σ.boxes.length + j]?=some none
theorem loopD_ok (hR:Rep w0 m σ a w) (c:Code) (ann:Ann) (q:List (A × Option Nat)):Rep w0 m (loopD σ c ann q) a w ∧ DropOk σ (loopD σ c ann q) ann.lsts.length (lIds q):=by
 unfold loopD
 generalize (((Code.dsts c).filter fun t=>!ann.hav.any fun p=>isSlot t p.1) ++ ann.lsts.map (·.slot))=dl
 obtain ⟨s1,s2,s3,s4,s5,s6⟩:=dropT_same dl σ
 have h1:=dropT_rep dl hR
 have h2:=h1.noRows (lIds q)
 have h3:=h2.room ann.lsts.length
 have hald:(dropT σ dl).al=σ.al:=by funext id; unfold St.al; rw [s2]
 refine ⟨h3,s1,s3,s4,s6,?_,fun id b hb=>?_,fun j hj=>?_⟩
 ·exact (al_room {dropT σ dl with boxes:=Sx.noRows (dropT σ dl).boxes (lIds q) } _).trans ((noRows_al (lIds q) (dropT σ dl)).trans hald)
 ·have hb:(Sx.noRows (dropT σ dl).boxes (lIds q) ++ List.replicate ann.lsts.length none)[id]?=some (some b):=hb
  rw [s2] at hb
  have hl:id < (Sx.noRows σ.boxes (lIds q)).length:=by
   rcases Nat.lt_or_ge id (Sx.noRows σ.boxes (lIds q)).length with h | h
   ·exact h
   ·rw [List.getElem?_append_right h] at hb
    have:=List.mem_of_getElem? hb
    rw [List.mem_replicate] at this
    cases this.2
  rw [List.getElem?_append_left hl] at hb
  obtain ⟨b',k1,k2,k3,k4,k5⟩:=noRows_get _ hb
  exact ⟨b',k1,k4,k5⟩
 ·show (Sx.noRows (dropT σ dl).boxes (lIds q) ++ List.replicate ann.lsts.length none)[σ.boxes.length + j]?=some none
  rw [s2,List.getElem?_append_right (by rw [noRows_len]; omega),noRows_len]
  rw [List.getElem?_replicate]
  simp [hj]
theorem loop_ok (hR:Rep w0 m σ a w) {goal:Gl} (hlvl:σ.lvl=goal.stk.length) {ann:Ann} {q:List (A × Option Nat)} {d:Defs × List A} {body:Tree} {c:Code} {k:Ex → St → Tree} {Q:Exit → Act → World → Prop} {why why':String}
  (hq:mapO (takeL σ) ann.lsts=some q) {σd:St} (hσd:σd=loopD σ c ann q)
  (hd:takeH σd σ.nv ann.hav=some d) (ha:havOk ann.hav=true) (hun:unlike (lIds q)=true)
  {σh:St} (hσh:σh=loopH σ σd ann (σ.nv + d.1.length)) {σH:St} (hσH:σH=addL σh σ.boxes.length (σ.nv + d.1.length + hcount ann.hav) ann.lsts)
  (hh:(letts σ.nv d.1 (.loop (d.2 ++ q.map (·.1)) (hkks ann.hav ++ ann.lsts.map fun h=>.lst h.k) (σ.nv + d.1.length) body)).holds T goal m.env)
  (hbody:∀ m' a' w' goal' Q',Rep w0 m' σH a' w' → σH.lvl=goal'.stk.length → body.holds T goal' m'.env →
   (∀ e σ' m'' a'' w'' goal'',GExt goal' goal'' → σ'.lvl=goal''.stk.length → MExt m' σH.nv σH.al m'' σ'.nv σ'.al → Rep w0 m'' σ' a'' w'' →
    (match e with
     | .normal=>match backL σh σ' ann.lsts with
      | none=>.bad 315 why
      | some as=>match backH σh σ' (σ.nv + d.1.length) ann.hav with
       | some b=>letts σ'.nv b.1 (.back σ.lvl (b.2 ++ as))
       | none=>.bad 311 why'
     | e=>k e σ':Tree).holds T goal'' m''.env → Q' (exitOf e) a'' w'') → c.wp P Q' a' w')
  (hQ:∀ e σ' m' a' w' goal',GExt goal goal' → σ'.lvl=goal'.stk.length → MExt m σ.nv σ.al m' σ'.nv σ'.al → Rep w0 m' σ' a' w' → (k e σ').holds T goal' m'.env → Q (exitOf e) a' w') :
  (Code.loop c).wp P Q a w:=by
 obtain ⟨d1,d2⟩:=d
 obtain ⟨pos,hav,lsts⟩:=ann
 simp only at hd ha hσh hσH hh hbody hq
 obtain ⟨hRd,D⟩:=loopD_ok hR c ⟨pos,hav,lsts⟩ q
 rw [← hσd] at hRd D
 have Droom:∀ j,j < lsts.length → σd.boxes[σ.boxes.length + j]?=some none:=D.room
 obtain ⟨t1,t2,t3⟩:=takeH_ok (T:=T) hRd hav _ _ _ hd
 obtain ⟨g1,g2⟩:=t1 (by rw [D.nv]; omega)
 obtain ⟨e0,b1,b2,b3,b4⟩:=letts_holds _ _ _ hh g1
 obtain ⟨I,μ,i1,i2⟩:=b4
 obtain ⟨t4,_⟩:=t3 e0 (fun i hi=>b1 i (by rw [D.nv] at hi; omega)) b3
 have hnv:σh.nv=σ.nv + d1.length + (hcount hav + lsts.length):=by rw [hσh]; rfl
 have hhead:HeadOk σh (σ.nv + d1.length) hav:=by rw [hσh]; exact head_ok hRd ha (by rw [D.nv]; omega)
 have halh:σh.al=σ.al:=by rw [hσh]; exact (putH_al hav _ _).trans D.al
 have hknh:σh.kn=σ.kn:=by rw [hσh]; exact (putH_same hav _ _).1.trans D.kn
 have hglh:σh.gl=σ.gl:=by rw [hσh]; exact (putH_same hav _ _).2.trans D.gl
 have hlenh:σh.tmps.length=σd.tmps.length:=by rw [hσh]; exact (putH_len hav _ _)
 have htmph:σh.tmps=(putH σd (σ.nv + d1.length) hav).tmps:=by rw [hσh]; rfl
 have hboxh:σh.boxes=(putH σd (σ.nv + d1.length) hav).boxes:=by rw [hσh]; rfl
 have hlvh:σh.lvl=σ.lvl + 1:=by rw [hσh]; rfl
 have hsl:=havOk_slot ha
 obtain ⟨a1,a2,a3,a4⟩:=addL_same lsts σh σ.boxes.length (σ.nv + d1.length + hcount hav)
 rw [← hσH] at a1 a2 a3 a4
 have hroom:∀ j,j < lsts.length → σh.boxes[σ.boxes.length + j]?=some none:=fun j hj=>by
  have h1:=none_iff.1 (Droom j hj)
  rw [none_iff,halh,← D.al]
  refine ⟨?_,h1.2⟩
  rw [hboxh,putH_blen]; exact h1.1
 obtain ⟨q1,q2⟩:=mapO_get hq
 let J:Nat → Act → World → Prop:=fun n a' w'=>∃ (mr:M) (us:List Int),kkHas (hkks hav ++ lsts.map fun h=>.lst h.k) us ∧ I us ∧ μ us=n ∧ mr.env=updL e0 (σ.nv + d1.length) us ∧ MExt m σ.nv σ.al mr σH.nv σH.al ∧ Rep w0 mr σH a' w'
 have hkn':∀ (vs:List Int),∀ p ∈ σh.kn,p.1 < σh.nv ∧ decide (updL e0 (σ.nv + d1.length) vs p.1 ≠ 0)=p.2:=by
  intro vs p hp
  rw [hknh] at hp
  obtain ⟨h1,h2⟩:=hR.kn p hp
  refine ⟨by omega,?_⟩
  rw [updL_low _ _ _ _ (by omega),b1 _ h1]; exact h2
 have heads:∀ {σs:St} {ms:M} {as':Act} {ws:World} {E e1:Nat → Int} {qs:List (A × Option Nat)} {ba:List A},Rep w0 ms σs as' ws → mapO (takeL σs) lsts=some qs → unlike (lIds qs)=true →
   Rep w0 {ms with env:=E } σh as' ws → FromRow ms {ms with env:=E } σs σh (lIds qs) → (∀ i,i < σs.nv → e1 i=ms.env i) → ba.length=hcount hav → kkHas (hkks hav) (ba.map (·.ev e1)) →
   E=updL e0 (σ.nv + d1.length) ((ba ++ qs.map (·.1)).map (·.ev e1)) → MExt m σ.nv σ.al {ms with env:=E } σh.nv σh.al →
   kkHas (hkks hav ++ lsts.map fun h=>.lst h.k) ((ba ++ qs.map (·.1)).map (·.ev e1)) ∧ ∃ mr:M,mr.env=E ∧ MExt m σ.nv σ.al mr σH.nv σH.al ∧ Rep w0 mr σH as' ws:=by
  intro σs ms as' ws E e1 qs ba h1 h2 h3 h4 h5 h6 h7 h8 h9 h10
  obtain ⟨vs,l1,l2,l3⟩:=lists_ok h1 h2 h3 h5
  obtain ⟨p1,p2⟩:=mapO_get h2
  have hE:∀ (j:Nat) x o,qs[j]?=some (x,o) → x.wf σs.nv ms.env → E (σ.nv + d1.length + hcount hav + j)=x.ev ms.env:=fun j x o hj hx=>by
   rw [h9,Nat.add_assoc (σ.nv + d1.length)]
   rw [updL_get _ _ _ (hcount hav + j) (x.ev e1) (by
    rw [List.map_append,List.getElem?_append_right (by rw [List.length_map,h7]; omega),List.length_map,h7]
    simp [hj])]
   exact A.ev_congr hx.1 h6
  refine ⟨?_,?_⟩
  ·rw [List.map_append]
   refine kk_append h8 (kk_lists _ _ (by simp [p1]) fun j h x hj hx=>?_)
   have hjl:j < vs.length:=by rw [l1]; exact (List.getElem?_eq_some_iff.1 hj).1
   obtain ⟨y,o,k1,_,k3,k4,_⟩:=l3 j h _ hj (List.getElem?_eq_getElem hjl)
   simp [k1] at hx
   rw [← hx,A.ev_congr k3.1 h6]; exact k4
  ·obtain ⟨mr,r1,r2,r3⟩:=addL_rep lsts σh σ.boxes.length (σ.nv + d1.length + hcount hav) {ms with env:=E } vs h4 hroom l1 (fun j h v hj hv=>by
    obtain ⟨x,o,k1,k2,k3,k4,k5,kf,k6⟩:=l3 j h v hj hv
    have hjl:=(List.getElem?_eq_some_iff.1 hj).1
    have:=hE j x o k1 k3
    refine ⟨k2,by rw [hnv]; omega,?_,?_,kf,k6⟩
    ·simp only [this]; exact k4
    ·simp only [this]; exact k5) l2
   rw [← hσH] at r2 r3
   exact ⟨mr,r1,h10.trans r2,r3⟩
 have J0:J (μ ((d2 ++ q.map (·.1)).map (·.ev e0))) a w:=by
  have hx0:MExt m σ.nv σ.al {m with env:=updL e0 (σ.nv + d1.length) ((d2 ++ q.map (·.1)).map (·.ev e0)) } σh.nv σh.al:=by
   refine ⟨fun i hi=>?_,fun _ _=>rfl,rfl,fun _ _=>rfl,by omega,fun id hid=>by rw [halh]; exact hid⟩
   show updL e0 _ _ i=_
   rw [updL_low _ _ _ _ (by omega),b1 i hi]
  have hrep:Rep w0 {m with env:=updL e0 (σ.nv + d1.length) ((d2 ++ q.map (·.1)).map (·.ev e0)) } σh a w:=by
   refine gen_rep (T:=T) (n0:=σ.nv + d1.length) (N:=σ.nv) (e:=e0) hRd hd (fun i hi=>b1 i (by rw [D.nv] at hi; omega)) b3 ha (fun i hi=>?_) (fun i x hx=>updL_get _ _ _ _ _ ?_) (by omega) (by omega) hlenh (fun i s hi=>?_) (fun id b hb=>?_) (hkn' _) (fun p hp=>?_) (fun id b r hb hr=>?_)
   ·rw [updL_low _ _ _ _ (by omega),b1 i hi]
   ·rw [List.map_append,List.getElem?_append_left (List.getElem?_eq_some_iff.1 hx).1]; exact hx
   ·rw [htmph] at hi
    right
    refine ⟨hi,?_⟩
    rcases putH_tmps hav _ _ i s hi with ⟨h1,_⟩ | ⟨j,ls,h1,_⟩
    ·obtain ⟨v,_,hr⟩:=hRd.tmp i s h1
     right
     have:=SV.rel_okN hr
     rw [D.nv,D.al] at this
     rw [halh]; exact this
    ·exact .inl ⟨_,List.mem_of_getElem? h1,rfl⟩
   ·rw [hboxh] at hb
    refine ⟨hb,?_⟩
    obtain ⟨b0,h1,h2,h3,h4⟩:=putH_boxes hav _ _ id b hsl hb
    rcases h4 with ⟨rfl,_⟩ | ⟨j,t,ls,h5,h6,_⟩
    ·right
     rw [halh,← D.al]
     rw [← D.nv]
     cases ho:b.own with
     | true=>obtain ⟨_,_,vs,_,hr⟩:=hRd.own id b h1 ho; exact fun c hc=>Rels.okN hr c hc
     | false =>
      intro c hc
      rcases hRd.ro id b h1 ho with h0 | ⟨_,hr⟩
      ·rw [h0] at hc; cases hc
      obtain ⟨j,hj⟩:=List.mem_iff_getElem?.1 hc
      obtain ⟨v,_,hv⟩:=hr j c hj
      exact C.rel_okN hv
    ·exact .inl ⟨j,t,ls,h5,h6⟩
   ·rw [hglh] at hp
    rw [halh]
    exact hR.gl p hp
   ·rw [hboxh] at hb
    obtain ⟨b0,h1,h2⟩:=putH_row hav _ _ id b hb
    obtain ⟨r1,r2,_⟩:=hRd.rows id b0 r h1 (h2.symm.trans hr)
    rw [← D.nv]
    exact ⟨r1.1,r2.1⟩
  have hfr:FromRow m {m with env:=updL e0 (σ.nv + d1.length) ((d2 ++ q.map (·.1)).map (·.ev e0)) } σ σh (lIds q):=by
   refine ⟨fun id b hb ho=>?_,fun id b r hb hr ho=>?_⟩
   ·rw [hboxh] at hb
    obtain ⟨b0,h1,h2,_⟩:=putH_boxes hav _ _ id b hsl hb
    obtain ⟨b',k1,k2,_⟩:=D.box id b0 h1
    exact ⟨b',k1,by rw [k2,← h2]; exact ho,rfl⟩
   ·rw [hboxh] at hb
    obtain ⟨b0,h1,h2⟩:=putH_row hav _ _ id b hb
    obtain ⟨b',k1,k2,k3⟩:=D.box id b0 h1
    have hr0:b0.row=some r:=h2.symm.trans hr
    rcases k3 with k3 | ⟨k3,k4⟩
    ·rw [hr0] at k3; cases k3
    ·exact ⟨k4,⟨b',k1,k3.trans hr0⟩,rfl⟩
  obtain ⟨hk,mr,m1,m2,m3⟩:=heads hR hq hun hrep hfr (fun i hi=>b1 i hi) t2 t4 rfl hx0
  exact ⟨mr,_,hk,i1,rfl,m1,m2,m3⟩
 refine wp_loop_ex J J0 fun n a' w' hJ=>?_
 obtain ⟨mr,vs,v2,v3,v4,v5,v6,v7⟩:=hJ
 have hbh:=i2 vs v2 v3
 rw [← v5] at hbh
 refine hbody mr a' w' _ _ v7 (by rw [a4,hlvh]; simp [hlvl]) hbh fun e σ' m'' a'' w'' goal'' x1 x2 x3 x4 x5=>?_
 have xg:GExt goal goal'':=GExt.trans (g':={goal with stk:=goal.stk ++ [fun us=>I us ∧ μ us < μ vs] }) ⟨rfl,_,rfl⟩ x1
 cases e with
 | exit id=>exact hQ (.exit id) σ' m'' a'' w'' goal'' xg x2 (v6.trans x3) x4 x5
 | ret=>exact hQ .ret σ' m'' a'' w'' goal'' xg x2 (v6.trans x3) x4 x5
 | normal =>
  simp only at x5
  show ∃ n',n' < n ∧ J n' a'' w''
  cases hbl:backL σh σ' lsts with
  | none=>rw [hbl] at x5; exact x5.elim
  | some as =>
  rw [hbl] at x5
  simp only at x5
  cases hb:backH σh σ' (σ.nv + d1.length) hav with
  | none=>rw [hb] at x5; exact x5.elim
  | some bb =>
   rw [hb] at x5
   simp only at x5
   obtain ⟨bd,ba⟩:=bb
   unfold backL at hbl
   split at hbl
   ·cases hbl
   rename_i qs hqs
   split at hbl
   case isFalse=>cases hbl
   rename_i hql
   cases hbl
   simp only [Bool.and_eq_true,List.all_eq_true,Option.isNone_iff_eq_none] at hql
   unfold backH at hb
   split at hb
   ·cases hb
   ·rename_i dd hdd
    simp only at hb
    split at hb
    ·rename_i hcond
     cases hb
     simp only [Bool.and_eq_true,List.all_eq_true] at hcond
     obtain ⟨⟨c1,c2⟩,c3⟩:=hcond
     obtain ⟨c4,c5⟩:=tmpsLe_ok c1
     have c6:=boxesLe_ok c2
     obtain ⟨u1,u2,u3⟩:=takeH_ok (T:=T) x4 hav _ _ _ hdd
     obtain ⟨f1,f2⟩:=u1 (Nat.le_refl _)
     obtain ⟨e1,k1,k2,k3,k4⟩:=letts_holds _ _ _ x5 f1
     obtain ⟨u4,_⟩:=u3 e1 (fun i hi=>k1 i hi) k3
     have k5:I ((ba ++ qs.map (·.1)).map (·.ev e1)) ∧ μ ((ba ++ qs.map (·.1)).map (·.ev e1)) < μ vs:=by
      obtain ⟨_,r,hr⟩:=x1
      simp only [Tree.holds] at k4
      rw [hr] at k4
      have:(goal.stk ++ [fun us=>I us ∧ μ us < μ vs] ++ r)[σ.lvl]?=some (fun us=>I us ∧ μ us < μ vs):=by
       rw [hlvl,List.append_assoc,List.getElem?_append_right (Nat.le_refl _)]; simp
      simp only [this] at k4
      exact k4
     have hHnv:σH.nv=σ.nv + d1.length + (hcount hav + lsts.length):=a1.trans hnv
     have hx:=v6.trans x3
     have henv:∀ i,i < σ.nv + d1.length → updL e0 (σ.nv + d1.length) ((ba ++ qs.map (·.1)).map (·.ev e1)) i=m''.env i:=fun i hi=>by
      rw [updL_low _ _ _ _ hi,x3.env i (by omega),v5,updL_low _ _ _ _ hi]
     have hrep:Rep w0 {m'' with env:=updL e0 (σ.nv + d1.length) ((ba ++ qs.map (·.1)).map (·.ev e1)) } σh a'' w'':=by
      refine gen_rep (T:=T) (n0:=σ.nv + d1.length) (N:=σ.nv + d1.length) (e:=e1) x4 hdd (fun i hi=>k1 i hi) k3 ha henv (fun i x hx=>updL_get _ _ _ _ _ ?_) (by omega) (by omega) (by rw [c4,putH_len]) (fun i s hi=>?_) (fun id b hb=>?_) (hkn' _) (fun p hp=>?_) hhead.row
      ·rw [List.map_append,List.getElem?_append_left (List.getElem?_eq_some_iff.1 hx).1]; exact hx
      ·rcases c5 i s hi with h | h
       ·exact .inl h
       ·rcases hhead.tmp i s hi with h' | h' | h'
        ·exact .inl h'
        ·exact .inr ⟨h,.inl h'⟩
        ·exact .inr ⟨h,.inr h'⟩
      ·refine ⟨c6 id b hb,?_⟩
       rcases hhead.box id b hb with ⟨j,t,ls,h1,h2⟩ | h
       ·have:=c3 _ (List.mem_of_getElem? h1)
        simp only at this
        exact .inl ⟨j,t,ls,h1,by rw [← sEqb_ok this]; exact h2⟩
       ·exact .inr h
      ·rw [hglh] at hp
       obtain ⟨q1,q2⟩:=hR.gl p hp
       exact ⟨by rw [halh]; exact q1,by rw [hx.rho _ q1]; exact q2⟩
     have hfr:FromRow m'' {m'' with env:=updL e0 (σ.nv + d1.length) ((ba ++ qs.map (·.1)).map (·.ev e1)) } σ' σh (lIds qs):=by
      refine ⟨fun id b hb ho=>?_,fun id b r hb hr ho=>?_⟩
      ·obtain ⟨b0,h1,h2,_⟩:=putH_boxes hav _ _ id b hsl (c6 id b hb)
       exact ⟨b0,h1,by rw [← h2]; exact ho,rfl⟩
      ·obtain ⟨b0,h1,h2⟩:=putH_row hav _ _ id b (c6 id b hb)
       refine ⟨fun hid=>?_,⟨b0,h1,h2.symm.trans hr⟩,rfl⟩
       have:=hql.2 id hid
       simp only [St.row,St.box_def,hb,hr] at this
       cases this
     have hx0:MExt m σ.nv σ.al {m'' with env:=updL e0 (σ.nv + d1.length) ((ba ++ qs.map (·.1)).map (·.ev e1)) } σh.nv σh.al:=by
      refine ⟨fun i hi=>?_,hx.rho,hx.ext,hx.sv,by omega,fun id hid=>by rw [halh]; exact hid⟩
      show updL e0 _ _ i=_
      rw [updL_low _ _ _ _ (by omega),b1 i hi]
     obtain ⟨hk,mr',m1,m2,m3⟩:=heads x4 hqs hql.1 hrep hfr (fun i hi=>k1 i hi) u2 u4 rfl hx0
     exact ⟨_,by rw [← v4]; exact k5.2,mr',_,hk,k5.1,rfl,m1,m2,m3⟩
    ·cases hb
theorem run_sound (hm:P.follows .mixedOrders=true) (hT:∀ (g:Nat) κ,T[g]?=some κ → κ.ok P):∀ n,Sound P T LA n:=by
 intro n
 induction n with
 | zero=>intro job σ k w0 m a w goal Q _ _ hh _; exact hh.elim
 | succ n ih =>
  intro job σ k w0 m a w goal Q hR hl hh hK
  have again:∀ {job':Job} {v:Nat} {k':Ex → St → Tree} {Q':Exit → Act → World → Prop},v < σ.nv → (Tree.split v (run P T LA n job' (σ.know v true) k') (run P T LA n job' (σ.know v false) k')).holds T goal m.env →
    (∀ e σ' m' a' w' goal',GExt goal goal' → σ'.lvl=goal'.stk.length → MExt m σ.nv σ.al m' σ'.nv σ'.al → Rep w0 m' σ' a' w' → (k' e σ').holds T goal' m'.env → Q' (exitOf e) a' w') → jobWp P n Q' job' a w:=by
   intro job' v k' Q' hv hs hk
   rcases knows hR hs hv with ⟨h1,h2,_⟩ | ⟨h1,h2,_⟩
   ·exact ih job' _ _ _ _ _ _ _ _ h1 hl h2 hk
   ·exact ih job' _ _ _ _ _ _ _ _ h1 hl h2 hk
  cases job with
  | rounds c =>
   show c.wp P (Exit.then (Code.rounds P c Q n) Q) a w
   refine ih (.code c) _ _ _ _ _ _ _ _ hR hl hh fun e σ' m' a' w' goal' x1 x2 x3 x4 x5=>?_
   cases e with
   | normal=>exact ih (.rounds c) _ _ _ _ _ _ _ _ x4 x2 x5 fun e σ'' m'' a'' w'' goal'' y1 y2 y3 y4 y5=>hK e σ'' m'' a'' w'' goal'' (x1.trans y1) y2 (x3.trans y3) y4 y5
   | exit id=>exact hK (.exit id) _ _ _ _ _ x1 x2 x3 x4 x5
   | ret=>exact hK .ret _ _ _ _ _ x1 x2 x3 x4 x5
  | ops all l =>
   cases l with
   | nil=>exact hK .normal _ _ _ _ _ (GExt.refl _) hl (MExt.refl ..) hR hh
   | cons o rest =>
    obtain ⟨g1,g2⟩:=guard_ok hR (all:=all) (o:=o)
    simp only [run] at hh
    have hrest:∀ {σ1:St} {m1:M} {a1:Act} {w1:World} {goal1:Gl},Rep w0 m1 σ1 a1 w1 → σ1.lvl=goal1.stk.length → GExt goal goal1 → MExt m σ.nv σ.al m1 σ1.nv σ1.al → (run P T LA n (.ops all rest) σ1 k).holds T goal1 m1.env → wpList P all Q rest a1 w1 :=
     fun h1 h2 h3 h4 h5=>ih (.ops all rest) _ _ _ _ _ _ _ _ h1 h2 h5 fun e σ'' m'' a'' w'' goal'' y1 y2 y3 y4 y5=>hK e σ'' m'' a'' w'' goal'' (h3.trans y1) y2 (h4.trans y3) y4 y5
    cases hg:guardG all σ o with
    | bad=>rw [hg] at hh; exact hh.elim
    | need v =>
     rw [hg] at hh
     simp only at hh
     split at hh
     ·rename_i hv; exact again (job':=.ops all (o :: rest)) hv hh hK
     ·exact hh.elim
    | no =>
     rw [hg] at hh
     show if Region.wanted o (yielded all a.tmps) then _ else _
     rw [if_neg (by rw [g2 hg]; simp)]
     have hp:=hR.put (s:=undefS) (v:=undef) ⟨[],rfl,trivial⟩ o.dst
     have hal:(σ.put o.dst undefS).al=σ.al:=by funext id; unfold St.al; rw [(put_same _ _ _).2.1]
     have hn:(σ.put o.dst undefS).nv=σ.nv:=(put_same _ _ _).1
     exact hrest hp (by rw [(put_same _ _ _).2.2.2.2.1]; exact hl) (GExt.refl _) (by rw [hal,hn]; exact MExt.refl ..) hh
    | yes =>
     rw [hg] at hh
     simp only at hh
     obtain ⟨r1,r2,r3,r4,r5⟩:=room_ok hR o.op
     have wl:o.wp P a w (wpList P all Q rest) Q → wpList P all Q (o :: rest) a w:=fun h=>by
      show if Region.wanted o (yielded all a.tmps) then _ else _
      rw [if_pos (g1 hg)]; exact .inl h
     cases hfz:freezeP P σ σ.nv o.op with
     | some g =>
      rw [hfz] at hh
      simp only at hh
      obtain ⟨m',y1,y2,y3⟩:=freeze_ok hR hfz hh
      exact ih (.ops all (o :: rest)) _ _ _ _ _ _ _ _ y2 hl y3 fun e σ'' m'' a'' w'' goal'' z1 z2 z3 z4 z5=>hK e σ'' m'' a'' w'' goal'' z1 z2 (y1.trans z3) z4 z5
     | none =>
     rw [hfz] at hh
     simp only at hh
     cases hgr:growP P (room σ o.op) σ.nv o.op with
     | some g =>
      rw [hgr] at hh
      simp only at hh
      have hmay:mayNew o.op=true:=by
       unfold growP at hgr
       split at hgr
       ·rename_i c hc; rw [hc]; rfl
       ·cases hgr
      rw [← r2] at hgr hh
      refine wl (grow_ok r1 (r5 hmay) hgr hh fun m' a' w' x3 x4 x5=>?_)
      rw [r2,r4] at x3
      have hlv:(growS (room σ o.op) σ.boxes.length g o.dst).lvl=goal.stk.length:=by
       unfold growS; rw [(put_same _ _ _).2.2.2.2.1]; exact r3.trans hl
      exact hrest x4 hlv (GExt.refl _) x3 x5
     | none =>
     rw [hgr] at hh
     simp only at hh
     cases hmk:makeP P (room σ o.op) o.op with
     | some g =>
      rw [hmk] at hh
      simp only at hh
      have hmay:mayNew o.op=true:=by
       unfold makeP at hmk
       split at hmk
       ·rename_i t l c hc; rw [hc]; rfl
       ·cases hmk
      rw [← r2] at hh
      refine wl (make_ok r1 (r5 hmay) hmk hh fun m' a' w' x3 x4 x5=>?_)
      rw [r2,r4] at x3
      have hlv:(makeS (room σ o.op) σ.boxes.length g o.dst).lvl=goal.stk.length:=by
       unfold makeS; rw [(put_same _ _ _).2.2.2.2.1]; exact r3.trans hl
      exact hrest x4 hlv (GExt.refl _) x3 x5
     | none =>
     rw [hmk] at hh
     simp only at hh
     cases hcp:copyP P (room σ o.op) σ.nv o.op with
     | some g =>
      rw [hcp] at hh
      simp only at hh
      rw [← r2] at hcp hh
      refine wl (copy_ok r1 hcp hh fun m' a' w' x3 x4 x5=>?_)
      rw [r2,r4] at x3
      have hlv:(copyS (room σ o.op) g o.dst).lvl=goal.stk.length:=by
       unfold copyS; rw [(put_same _ _ _).2.2.2.2.1]; exact r3.trans hl
      exact hrest x4 hlv (GExt.refl _) x3 x5
     | none =>
     rw [hcp] at hh
     simp only at hh
     cases hp:plan P T (room σ o.op) σ.nv σ.boxes.length o.op with
     | bad why=>rw [hp] at hh; exact hh.elim
     | need v =>
      rw [hp] at hh
      simp only at hh
      split at hh
      ·rename_i hv
       exact again (job':=.ops all (o :: rest)) hv hh hK
      ·exact hh.elim
     | ok p =>
      rw [hp] at hh
      simp only at hh
      refine wl (op_step hT r1 hp (by rw [r2]; exact Nat.le_refl _) (fun hn=>r5 (plan_new hp hn)) (σ.nv + p.defs.length + p.post.length) (Nat.le_refl _) hh fun m' a' w' _ _ x3 x4 x5=>?_)
      rw [r2,r4] at x3
      exact hrest x4 (by rw [(applyP_len _ _ _ _).2.2]; exact r3.trans hl) (GExt.refl _) (by rw [(applyP_len _ _ _ _).2.1]; exact x3) x5
     | call f args =>
      rw [hp] at hh
      simp only at hh
      cases hf:P.funcs[f]? with
      | none=>rw [hf] at hh; exact hh.elim
      | some fn =>
       rw [hf] at hh
       simp only at hh
       cases hb:fn.body with
       | none=>rw [hb] at hh; exact hh.elim
       | some c =>
        rw [hb] at hh
        simp only at hh
        split at hh
        ·exact hh.elim
        ·rename_i hnm
         obtain ⟨us,u1,u2⟩:=plan_call r1 hp
         rw [r2,r4] at u1
         refine wl ?_
         unfold Oper.wp
         rw [u2,run_callFunc hf (by simpa using hnm) hb]
         refine calls_of_wp hf hb ?_
         have hin:=enter_rep hR u1 fn.ntmps
         refine ih (.code c) _ _ _ _ _ _ _ _ hin hl hh fun e σ' m' a' w' goal' x1 x2 x3 x4 x5=>?_
         have key:e=.normal ∨ e=.ret → bodyPost P fn (fun e w'=>match e with | .returned v=>wpList P all Q rest (a.put o.dst v) w' | .panicked chain=>Q (.panic chain) a w' | .outgrown=>Q .outgrown a w') (exitOf e) a' w':=by
          intro he
          have x6:(match resS P σ' fn with | some vs=>run P T LA n (.ops all rest) ({σ' with tmps:=σ.tmps }.put o.dst (retS vs)) k | none=>.bad 307 o.pos).holds T goal' m'.env:=by
           rcases he with rfl | rfl <;> exact x5
          cases hrs:resS P σ' fn with
          | none=>rw [hrs] at x6; exact x6.elim
          | some vs =>
           rw [hrs] at x6
           simp only at x6
           obtain ⟨zs,z1,z2⟩:=res_ok x4 hrs
           have hback:=(hR.back x4 x3).put (s:=retS vs) (v:=retV zs) (ret_rel z2) o.dst
           have hal:(({σ' with tmps:=σ.tmps }:St).put o.dst (retS vs)).al=σ'.al:=by funext id; unfold St.al; rw [(put_same _ _ _).2.1]
           have hn:(({σ' with tmps:=σ.tmps }:St).put o.dst (retS vs)).nv=σ'.nv:=(put_same _ _ _).1
           have hgo:=hrest hback (by rw [(put_same _ _ _).2.2.2.2.1]; exact x2) x1 (by rw [hal,hn]; exact x3) x6
           have hd:=x4.defers
           rcases he with rfl | rfl <;> exact ⟨hd,retV zs,z1,hgo⟩
         cases e with
         | normal=>exact key (.inl rfl)
         | ret=>exact key (.inr rfl)
         | exit id=>exact x5.elim
  | code c =>
   show c.wp P Q a w
   cases c with
   | skip=>exact wp_skip (hK .normal _ _ _ _ _ (GExt.refl _) hl (MExt.refl ..) hR hh)
   | label l=>exact wp_label (hK .normal _ _ _ _ _ (GExt.refl _) hl (MExt.refl ..) hR hh)
   | exit id=>exact wp_exit (hK (.exit id) _ _ _ _ _ (GExt.refl _) hl (MExt.refl ..) hR hh)
   | ret=>exact wp_ret (hK .ret _ _ _ _ _ (GExt.refl _) hl (MExt.refl ..) hR hh)
   | seq x y =>
    refine wp_seq (ih (.code x) _ _ _ _ _ _ _ _ hR hl hh fun e σ' m' a' w' goal' x1 x2 x3 x4 x5=>?_)
    cases e with
    | normal=>exact ih (.code y) _ _ _ _ _ _ _ _ x4 x2 x5 fun e σ'' m'' a'' w'' goal'' y1 y2 y3 y4 y5=>hK e σ'' m'' a'' w'' goal'' (x1.trans y1) y2 (x3.trans y3) y4 y5
    | exit id=>exact hK (.exit id) _ _ _ _ _ x1 x2 x3 x4 x5
    | ret=>exact hK .ret _ _ _ _ _ x1 x2 x3 x4 x5
   | block id c =>
    refine wp_block (ih (.code c) _ _ _ _ _ _ _ _ hR hl hh fun e σ' m' a' w' goal' x1 x2 x3 x4 x5=>?_)
    cases e with
    | normal=>exact hK .normal _ _ _ _ _ x1 x2 x3 x4 x5
    | ret=>exact hK .ret _ _ _ _ _ x1 x2 x3 x4 x5
    | exit id' =>
     show if id'=id then Q .normal a' w' else Q (.exit id') a' w'
     simp only at x5
     by_cases hid:id'=id
     ·rw [if_pos hid]; rw [if_pos (by simpa using hid)] at x5; exact hK .normal _ _ _ _ _ x1 x2 x3 x4 x5
     ·rw [if_neg hid]; rw [if_neg (by simpa using hid)] at x5; exact hK (.exit id') _ _ _ _ _ x1 x2 x3 x4 x5
   | cond c x y =>
    simp only [run] at hh
    cases hc:σ.cell c with
    | none=>rw [hc] at hh; exact hh.elim
    | some cc =>
     rw [hc] at hh
     cases cc with
     | bool t =>
      simp only at hh
      obtain ⟨_,_,hv⟩:=hR.cell hc
      obtain ⟨t1,t2⟩:=hR.truth (x:=t)
      cases ht:truth σ t with
      | bad=>rw [ht] at hh; exact hh.elim
      | yes =>
       rw [ht] at hh
       exact wp_cond_true (by rw [hv]; simp [t1 ht]) (ih (.code x) _ _ _ _ _ _ _ _ hR hl hh hK)
      | no =>
       rw [ht] at hh
       exact wp_cond_false (by rw [hv]; simp [t2 ht]) (ih (.code y) _ _ _ _ _ _ _ _ hR hl hh hK)
      | need v =>
       rw [ht] at hh
       simp only at hh
       have:=truth_need ht
       subst this
       split at hh
       ·rename_i hlt
        rcases knows hR hh hlt with ⟨h1,h2,h3⟩ | ⟨h1,h2,h3⟩
        ·exact wp_cond_true (by rw [hv]; simp [A.ev,h3]) (ih (.code x) _ _ _ _ _ _ _ _ h1 hl h2 hK)
        ·exact wp_cond_false (by rw [hv]; simp [A.ev,h3]) (ih (.code y) _ _ _ _ _ _ _ _ h1 hl h2 hK)
       ·exact hh.elim
     | _=>exact hh.elim
   | region id ops draw =>
    simp only [run] at hh
    cases draw with
    | false=>exact wp_region_list (ih (.ops ops ops.toList) _ _ _ _ _ _ _ _ hR hl hh hK)
    | true =>
     simp only [if_true] at hh
     split at hh
     ·rename_i q htl
      split at hh
      ·rename_i hd
       refine draw_tail hm hT hR htl hd hh (fun m' a' w' σ0 σ' h1 h2 h3 h4 h5 h6=>by
        split at h6
        case isFalse=>exact h6.elim
        have hr:=dropT_rep (q.1.filterMap (·.dst)) h2
        obtain ⟨s1,s2,s3,s4,s5,s6⟩:=dropT_same (q.1.filterMap (·.dst)) σ0
        have hdp:dropT σ' (q.1.filterMap (·.dst))=dropT σ0 (q.1.filterMap (·.dst)):=by
         rw [← h3]; exact dropT_puts _ _ _ fun o ho t hd=>List.mem_filterMap.2 ⟨o,ho,hd⟩
        rw [hdp] at h6
        have hal:(dropT σ0 (q.1.filterMap (·.dst))).al=σ0.al:=by funext i; unfold St.al; rw [s2]
        have hlv:σ0.lvl=σ'.lvl:=by rw [← h3]; exact (puts_same _ _).2.symm
        exact ih (.ops ops q.1) _ _ _ _ _ _ _ _ hr (by rw [s5,hlv,h5]; exact hl) h6 fun e σ'' m'' a'' w'' goal'' y1 y2 y3 y4 y5=>hK e σ'' m'' a'' w'' goal'' y1 y2 (h1.trans (by rw [s1,hal] at y3; exact y3)) y4 y5) (fun σ' E h=>by split at h <;> first | assumption | exact h.elim)
      ·exact hh.elim
     split at hh
     ·rename_i hd
      refine draw_ok hm hT hR hd hh (fun m' a' w' σ' h1 h2 h3 h4=>by
       split at h4
       case isFalse=>exact h4.elim
       exact hK .normal _ _ _ _ _ (GExt.refl _) (h3.trans hl) h1 h2 h4) (fun σ' E h=>by split at h <;> first | assumption | exact h.elim)
     ·exact hh.elim
   | loop c =>
    simp only [run] at hh
    cases hf:findAnn LA (Code.firstPos c) with
    | none =>
     rw [hf] at hh
     exact wp_loop_rounds n (ih (.rounds c) _ _ _ _ _ _ _ _ hR hl hh hK)
    | some ann =>
     rw [hf] at hh
     simp only at hh
     split at hh
     ·exact hh.elim
     rename_i q hq
     split at hh
     ·exact hh.elim
     ·rename_i d hd
      split at hh
      ·rename_i ha
       simp only [Bool.and_eq_true] at ha
       refine loop_ok hR hl hq rfl hd ha.1 ha.2 rfl rfl hh (fun m' a' w' goal' Q' y1 y2 y3 y4=>ih (.code c) _ _ _ _ _ _ _ _ y1 y2 y3 y4) hK
      ·exact hh.elim
   | _=>exact hh.elim
end
end Go.Sx

namespace Go.Sx
open Go Go.RowKit
def noLst:L → Bool | .lst _=>false | _=>true
def okSh:Sh → Bool
 | .one l=>okL l
 | .agg ls=>ls.all okL
 | .ptr ls=>ls.all okL && !ls.isEmpty && ls.all noLst
 | .lst _=>true
 | .lent _=>true
def ptrOf:Value → Nat × Nat
 | .pointer (some p)=>(p.block,p.off)
 | _=>(0,0)
def ptrs:List Sh → List Value → List (Nat × Nat)
 | .ptr _ :: ss,v :: vs=>ptrOf v :: ptrs ss vs
 | .lst _ :: ss,_ :: vs=>(0,0) :: ptrs ss vs
 | .lent _ :: ss,_ :: vs=>(0,0) :: ptrs ss vs
 | _ :: ss,_ :: vs=>ptrs ss vs
 | _,_=>[]
def fullOf:Value → Value
 | .slice b _ c=>.slice b c c
 | v=>v
def slvs:List Sh → List Value → List Value
 | .ptr _ :: ss,v :: vs=>v :: slvs ss vs
 | .lst _ :: ss,v :: vs=>v :: slvs ss vs
 | .lent _ :: ss,v :: vs=>fullOf v :: slvs ss vs
 | _ :: ss,_ :: vs=>slvs ss vs
 | _,_=>[]
section
variable {P:Program} {T:List K} {LA:List Ann} {w:World}
theorem lvals_ne:∀ (ls:List L) (xs:List Int),ls.all okL=true → ls.all noLst=true → ls ≠ [] → lhas ls xs → lvals ls xs ≠ []
 | [],_,_,_,h,_=>absurd rfl h
 | .lst k :: ls,_,_,h,_,_=>by simp [noLst] at h
 | .cst c :: ls,_,h,_,_,_=>by simp [lvals]
 | .int k :: ls,[],_,_,_,h=>h.elim
 | .bool :: ls,[],_,_,_,h=>h.elim
 | .num :: ls,[],_,_,_,h=>h.elim
 | .int k :: ls,x :: xs,_,_,_,_=>by simp [lvals]
 | .bool :: ls,x :: xs,_,_,_,_=>by simp [lvals]
 | .num :: ls,x :: xs,_,_,_,_=>by simp [lvals,limbs]
theorem cell_lt {p:Addr} {v:Value} (h:w.cell? p=some v):p.block < w.heap.size:=by
 unfold World.cell? at h
 cases hb:w.heap[p.block]? with
 | none=>rw [hb] at h; cases h
 | some b=>exact (Array.getElem?_eq_some_iff.1 hb).1
theorem in_ok:∀ (ins:List Sh) (xs:List Int) (args:List Value) (nn id:Nat),ins.all okSh=true → insRel w ins xs args → ∀ (m:M) (nv:Nat) (al:Nat → Bool),(∀ (i:Nat) x,xs[i]?=some x → m.env (nn + i)=x) → nn + icount ins ≤ nv →
  (∀ (j:Nat) p,(ptrs ins args)[j]?=some p → m.rho (id + j)=p) → (∀ j,j < (inSh nn id ins).2.length → al (id + j)=true) → (∀ (j:Nat) v,(slvs ins args)[j]?=some v → m.sv (id + j)=v) →
  VRels m nv al (inSh nn id ins).1 args ∧ ∀ (j:Nat) b,(inSh nn id ins).2[j]?=some (some b) → b.own=false ∧ (b.cells=[] ∨ (m.rho (id + j)).1 < w.heap.size ∧ ∀ (i:Nat) c,b.cells[i]?=some c → ∃ v,w.cell? (m.at (id + j) i)=some v ∧ c.rel m nv al v) ∧
   ∀ r,b.row=some r → r.x.wf nv m.env ∧ r.x0=r.x ∧ RowAt w w r (m.sv (id + j)) (dec (r.x.ev m.env)) ∧ r.own=false:=by
 intro ins
 induction ins with
 | nil=>intro xs args nn id _ h m nv al _ _ _ _ _; obtain ⟨_,rfl⟩:=h; exact ⟨trivial,by simp [inSh]⟩
 | cons s ss ih =>
  intro xs args nn id hok h m nv al he hnv hrho hal hsv
  cases args with
  | nil=>exact h.elim
  | cons u args =>
   obtain ⟨h1,h2,h3⟩:=h
   simp only [List.all_cons,Bool.and_eq_true] at hok
   obtain ⟨ho,hok⟩:=hok
   have het:∀ (i:Nat) x,(xs.take (lcount s.leaves))[i]?=some x → m.env (nn + i)=x:=fun i x hx=>he i x (take_get hx)
   have hed:∀ (i:Nat) x,(xs.drop (lcount s.leaves))[i]?=some x → m.env (nn + lcount s.leaves + i)=x:=fun i x hx=>by
    rw [List.getElem?_drop] at hx
    have:=he _ x hx
    rwa [← Nat.add_assoc] at this
   have hnv1:nn + lcount s.leaves ≤ nv:=by simp only [icount] at hnv; omega
   have hnv2:nn + lcount s.leaves + icount ss ≤ nv:=by simp only [icount] at hnv; omega
   cases s with
   | one l =>
    obtain ⟨r1,r2⟩:=ih _ args (nn + lcount [l]) id hok h3 m nv al hed hnv2 hrho hal hsv
    refine ⟨⟨?_,r1⟩,r2⟩
    have:=in_rel (m:=m) (nv:=nv) (al:=al) [l] nn _ (by simpa [okSh] using ho) h1 het hnv1
    have h2':[u]=lvals [l] (xs.take (lcount [l])):=h2
    rw [Sh.leaves] at this
    rw [← h2'] at this
    cases hin:inLs nn [l] with
    | nil=>rw [hin] at this; exact this.elim
    | cons c cs=>rw [hin] at this; exact this.1
   | agg ls =>
    obtain ⟨r1,r2⟩:=ih _ args (nn + lcount ls) id hok h3 m nv al hed hnv2 hrho hal hsv
    refine ⟨⟨?_,r1⟩,r2⟩
    exact ⟨_,h2,in_rel (m:=m) (nv:=nv) (al:=al) ls nn _ (by simpa [okSh] using ho) h1 het hnv1⟩
   | ptr ls =>
    obtain ⟨b,off,rfl,h4⟩:=h2
    simp only [okSh,Bool.and_eq_true] at ho
    obtain ⟨ho,hnl⟩:=ho
    have hls:ls ≠ []:=by have:=ho.2; cases ls <;> simp_all
    obtain ⟨r1,r2⟩:=ih _ args (nn + lcount ls) (id + 1) hok h3 m nv al hed hnv2 (fun j p hp=>by
     have:=hrho (j + 1) p (by simpa [ptrs] using hp)
     rwa [show id + (j + 1)=id + 1 + j by omega] at this) (fun j hj=>by
     have:=hal (j + 1) (by simp [inSh]; exact hj)
     rwa [show id + (j + 1)=id + 1 + j by omega] at this) (fun j v hv=>by
     have:=hsv (j + 1) v (by simpa [slvs] using hv)
     rwa [show id + (j + 1)=id + 1 + j by omega] at this)
    have hr0:m.rho id=(b,off):=by simpa [ptrOf] using hrho 0 (b,off) (by simp [ptrs,ptrOf])
    have ha0:al id=true:=by simpa using hal 0 (by simp [inSh])
    refine ⟨⟨⟨ha0,by simp [M.at,hr0]⟩,r1⟩,fun j bx hj=>?_⟩
    cases j with
    | zero =>
     simp [inSh] at hj
     subst hj
     have hin:=in_rel (m:=m) (nv:=nv) (al:=al) ls nn _ ho.1 h1 het hnv1
     refine ⟨rfl,.inr ⟨?_,fun i c hc=>?_⟩,fun r hr=>by cases hr⟩
     ·simp only [Nat.add_zero,hr0]
      cases hlv:lvals ls (xs.take (lcount ls)) with
      | nil=>exact absurd hlv (lvals_ne ls _ ho.1 hnl hls h1)
      | cons v vs=>exact cell_lt (h4 0 v (by rw [Sh.leaves,hlv]; rfl))
     ·obtain ⟨v,hv,hr⟩:=hin.get i c hc
      exact ⟨v,by simp only [Nat.add_zero,M.at,hr0]; exact h4 i v hv,hr⟩
    | succ j =>
     have:=r2 j bx (by simpa [inSh] using hj)
     rwa [show id + 1 + j=id + (j + 1) by omega] at this
   | lst k =>
    obtain ⟨r1,r2⟩:=ih _ args (nn + 1) (id + 1) hok h3 m nv al hed hnv2 (fun j p hp=>by
     have:=hrho (j + 1) p (by simpa [ptrs] using hp)
     rwa [show id + (j + 1)=id + 1 + j by omega] at this) (fun j hj=>by
     have:=hal (j + 1) (by simp [inSh]; exact hj)
     rwa [show id + (j + 1)=id + 1 + j by omega] at this) (fun j v hv=>by
     have:=hsv (j + 1) v (by simpa [slvs] using hv)
     rwa [show id + (j + 1)=id + 1 + j by omega] at this)
    have ha0:al id=true:=by simpa using hal 0 (by simp [inSh])
    have hs0:m.sv id=u:=by simpa using hsv 0 u (by simp [slvs])
    have hro:RoRow w w k u (dec ((xs.take 1).headD 0)):=h2
    have hhas:lhas [.lst k] (xs.take 1):=h1
    cases xs with
    | nil=>exact hhas.elim
    | cons x xs =>
     have hx:m.env nn=x:=by simpa using he 0 x rfl
     have hro:RoRow w w k u (dec x):=hro
     have hone:u.oneCell'=true:=by
      rcases hro with ⟨hv,_⟩ | ⟨ad,cap,hv,_⟩ <;> rw [hv] <;> rfl
     refine ⟨⟨⟨ha0,hs0.symm,hone⟩,r1⟩,fun j bx hj=>?_⟩
     cases j with
     | zero =>
      simp [inSh] at hj
      subst hj
      refine ⟨rfl,.inl rfl,fun r hr=>?_⟩
      simp only [rowBox,Option.some.injEq] at hr
      subst hr
      refine ⟨⟨show nn < nv by have:nn + 1 ≤ nv:=hnv1; omega,trivial⟩,rfl,?_,rfl⟩
      show RowAt w w _ (m.sv (id + 0)) (dec (m.env nn))
      rw [Nat.add_zero,hs0,hx]
      exact ⟨hhas.1,hro,fun h=>by cases h⟩
     | succ j =>
      have:=r2 j bx (by simpa [inSh] using hj)
      rwa [show id + 1 + j=id + (j + 1) by omega] at this
   | lent k =>
    obtain ⟨r1,r2⟩:=ih _ args (nn + 2) (id + 1) hok h3 m nv al hed hnv2 (fun j p hp=>by
     have:=hrho (j + 1) p (by simpa [ptrs] using hp)
     rwa [show id + (j + 1)=id + 1 + j by omega] at this) (fun j hj=>by
     have:=hal (j + 1) (by simp [inSh]; exact hj)
     rwa [show id + (j + 1)=id + 1 + j by omega] at this) (fun j v hv=>by
     have:=hsv (j + 1) v (by simpa [slvs] using hv)
     rwa [show id + (j + 1)=id + 1 + j by omega] at this)
    have ha0:al id=true:=by simpa using hal 0 (by simp [inSh])
    have hs0:m.sv id=fullOf u:=by simpa using hsv 0 (fullOf u) (by simp [slvs])
    have hnv1':nn + 2 ≤ nv:=hnv1
    match xs,h1,h2,he with
    | [],h1,_,_=>exact h1.elim
    | [x],h1,_,_=>exact h1.2.elim
    | x :: n :: xs,h1,h2,he =>
     have hx:m.env nn=x:=by simpa using he 0 x rfl
     have hn:m.env (nn + 1)=n:=he 1 n rfl
     have h2:lentAt k (fun v'=>RoRow w w k v' (dec x)) (dec x) n u:=h2
     have h1:k.hasL (dec x) ∧ has .i64 n ∧ True:=h1
     obtain ⟨v',o1,o2,o3,o4⟩:=h2
     obtain ⟨bb,cap,hform⟩:∃ bb cap,v'=.slice bb (dec x).length cap:=by
      rcases o1 with ⟨hv,hl⟩ | ⟨ad,cap,hv,_⟩
      ·exact ⟨none,0,by rw [hv,hl]; rfl⟩
      ·exact ⟨_,cap,hv⟩
     have hcap:(dec x).length=cap:=by rw [hform] at o2; exact o2
     have huf:fullOf u=v':=by rw [o4,hform,subV_zero,hcap]; rfl
     have hbig:=h1.2.1
     simp only [has,lo,hi] at hbig
     refine ⟨⟨⟨ha0,⟨trivial,trivial⟩,⟨show nn + 1 < nv by omega,trivial⟩,?_,?_,?_⟩,r1⟩,fun j bx hj=>?_⟩
     ·simp only [A.ev,hn,hs0,huf]
      rw [hform]
      exact ⟨Int.le_refl _,o3.1,o3.2,hbig.2⟩
     ·simp only [A.ev,hn,hs0,huf]; exact o4
     ·rw [o4]; exact sub_one (by rw [hform]; rfl)
     ·cases j with
      | zero =>
       simp [inSh] at hj
       subst hj
       refine ⟨rfl,.inl rfl,fun r hr=>?_⟩
       simp only [rowBox,Option.some.injEq] at hr
       subst hr
       refine ⟨⟨show nn < nv by omega,trivial⟩,rfl,?_,rfl⟩
       show RowAt w w _ (m.sv (id + 0)) (dec (m.env nn))
       rw [Nat.add_zero,hs0,huf,hx]
       exact ⟨h1.1,o1,fun _=>o2⟩
      | succ j =>
       have:=r2 j bx (by simpa [inSh] using hj)
       rwa [show id + 1 + j=id + (j + 1) by omega] at this
theorem owns_part {w:World} {n0:Nat} {e:TypeId} {k:LK} {v:Value} {l:List Int} (h:w.ownsRow n0 e k.sz v l.length (flat k l)) {hi:Nat} (hle:hi ≤ l.length) :
  w.ownsRow n0 e k.sz (subV k.sz v 0 hi) (l.take hi).length (flat k (l.take hi)):=by
 refine ⟨flat_len _ _,?_⟩
 rcases h.2 with ⟨hv,hn⟩ | ⟨g,cap,cur,hv,h1,h2,h3,h4,h5,h6⟩
 ·have:hi=0:=by omega
  subst this
  exact .inl ⟨by rw [hv]; rfl,by simp⟩
 ·have hl:(l.take hi).length=hi:=by rw [List.length_take]; omega
  refine .inr ⟨g,cap,cur,by rw [hv,subV_zero,hl],h1,h2,by omega,h4,h5,?_⟩
  rw [flat_take,← h6,hl,List.take_take,Nat.min_eq_left (Nat.mul_le_mul_right _ hle)]
theorem takeOuts_ok {w0:World} {σ:St} {a:Act}:∀ (os:List Oh) (vs:List V) (nn:Nat) (ds:Defs) (as:List A),takeOuts σ nn os vs=some (ds,as) → ∀ {m:M},Rep w0 m σ a w → ∀ {us:List Value},VRels m σ.nv σ.al vs us →
  (σ.nv ≤ nn → GenOk T m.env nn ds ∧ (∀ a ∈ as,a.ok (nn + ds.length))) ∧
  ∀ e',(∀ i,i < σ.nv → e' i=m.env i) → Told T e' nn ds → outsRel w0.heap.size w os (as.map (·.ev e')) us:=by
 intro os
 induction os with
 | nil =>
  intro vs nn ds as h m hrep us hu
  cases vs with
  | cons v vs=>cases h
  | nil =>
   simp [takeOuts] at h
   obtain ⟨rfl,rfl⟩:=h
   cases us with
   | cons u us=>exact hu.elim
   | nil=>exact ⟨fun _=>⟨trivial,by simp⟩,fun _ _ _=>⟨rfl,rfl⟩⟩
 | cons s os ih =>
  intro vs nn ds as h m hrep us hu
  cases vs with
  | nil=>cases h
  | cons v vs =>
   cases us with
   | nil=>exact hu.elim
   | cons u us =>
    obtain ⟨hu1,hu2⟩:=hu
    simp only [takeOuts] at h
    cases hd:takeOh σ nn s v with
    | none=>rw [hd] at h; cases h
    | some d =>
     rw [hd] at h
     simp only at h
     cases hr:takeOuts σ (nn + d.1.length) os vs with
     | none=>rw [hr] at h; cases h
     | some r =>
      rw [hr] at h
      simp only [Option.some.injEq,Prod.mk.injEq] at h
      obtain ⟨rfl,rfl⟩:=h
      obtain ⟨d1,d2⟩:=d
      obtain ⟨r1,r2⟩:=r
      simp only at hr ⊢
      obtain ⟨i1,i2⟩:=ih vs (nn + d1.length) r1 r2 hr hrep hu2
      have one:(σ.nv ≤ nn → GenOk T m.env nn d1 ∧ (∀ a ∈ d2,a.ok (nn + d1.length))) ∧ d2.length=lcount s.leaves ∧
        ∀ e',(∀ i,i < σ.nv → e' i=m.env i) → Told T e' nn d1 → lhas s.leaves (d2.map (·.ev e')) ∧ s.rel w0.heap.size w (d2.map (·.ev e')) u:=by
       unfold takeOh at hd
       split at hd
       ·rename_i l c
        obtain ⟨g1,g3,g4⟩:=takeLs_ok (T:=T) _ _ _ _ _ hd m σ.nv [u] ⟨hu1,trivial⟩
        exact ⟨g1,g3,fun e' he ht=>by obtain ⟨g5,g6⟩:=g4 e' he ht; exact ⟨g6,g5.symm⟩⟩
       ·rename_i ls cs
        obtain ⟨vs',rfl,hr'⟩:=hu1
        obtain ⟨g1,g3,g4⟩:=takeLs_ok (T:=T) _ _ _ _ _ hd m σ.nv vs' hr'
        exact ⟨g1,g3,fun e' he ht=>by obtain ⟨g5,g6⟩:=g4 e' he ht; exact ⟨g6,by simp only [Oh.rel]; rw [g5]⟩⟩
       ·rename_i e ls id
        split at hd
        ·rename_i b hb
         split at hd
         ·rename_i hc
          simp only [Bool.and_eq_true,beq_iff_eq] at hc
          have hb':σ.boxes[id]?=some (some b):=by
           rw [St.box_def] at hb
           split at hb
           ·cases hb; assumption
           ·cases hb
          obtain ⟨k1,k2,vs',k3,k4⟩:=hrep.own id b hb' hc.1
          obtain ⟨g1,g3,g4⟩:=takeLs_ok (T:=T) _ _ _ _ _ hd m σ.nv vs' k4
          refine ⟨g1,g3,fun e' he ht=>?_⟩
          obtain ⟨g5,g6⟩:=g4 e' he ht
          refine ⟨g6,(m.rho id).1,k2,?_,?_⟩
          ·rw [hu1.2]; simp [M.at,k1]
          ·rw [g5,k3,hc.2]
         ·cases hd
        ·cases hd
       ·rename_i e k
        cases hd
        have hu1:u=.slice none 0 0:=hu1
        refine ⟨fun _=>⟨trivial,fun x hx=>by rw [List.mem_singleton.1 hx]; trivial⟩,rfl,fun e' _ _=>?_⟩
        simp only [List.map_cons,List.map_nil,Oh.leaves,lhas,Oh.rel,List.headD_cons,A.ev,dec_zero]
        exact ⟨⟨⟨by simp,by simp⟩,trivial⟩,by rw [hu1]; exact World.ownsRow_nil ..⟩
       ·rename_i e k id
        split at hd
        ·rename_i r hr0
         split at hd
         ·rename_i hc
          simp only [Bool.and_eq_true,beq_iff_eq] at hc
          obtain ⟨⟨hc1,hc2⟩,hc3⟩:=hc
          cases hd
          have hk:=LKeq_ok hc3
          subst hk
          subst hc2
          have hu1:σ.al id=true ∧ u=m.sv id ∧ u.oneCell'=true:=hu1
          obtain ⟨q1,q2,_,_,q3⟩:=hrep.row_ok hr0
          have q4:=q3.2.1
          rw [hc1] at q4
          simp only [if_true] at q4
          refine ⟨fun hn=>⟨trivial,fun x hx=>by rw [List.mem_singleton.1 hx]; exact A.ok_mono q2.1 (by simpa using hn)⟩,rfl,fun e' he _=>?_⟩
          simp only [List.map_cons,List.map_nil,Oh.leaves,lhas,Oh.rel,List.headD_cons]
          rw [A.ev_congr q2.1 he,hu1.2.1]
          exact ⟨⟨q3.1,trivial⟩,q4⟩
         ·cases hd
        ·cases hd
       ·rename_i e k id lo' hi' k'
        split at hd
        ·rename_i r hr0
         split at hd
         ·rename_i hc
          simp only [Bool.and_eq_true,beq_iff_eq] at hc
          obtain ⟨⟨⟨⟨hc1,hc2⟩,hc3⟩,hc4⟩,hc5⟩:=hc
          cases hd
          have hk:=LKeq_ok hc3
          subst hk
          have hk2:=LKeq_ok hc4
          subst hk2
          subst hc2
          have hz:=isZ_ok hc5
          subst hz
          obtain ⟨b1,b2,b3,b4,b5,b6⟩:=(show C.rel m σ.nv σ.al (.slv id (.lit 0) hi' r.k) u from hu1)
          obtain ⟨q1,q2,_,_,q3⟩:=hrep.row_ok hr0
          have q4:=q3.2.1
          rw [hc1] at q4
          simp only [if_true] at q4
          rw [q3.lenV] at b4
          have c1:0 ≤ hi'.ev m.env:=b4.2.1
          have c2:hi'.ev m.env ≤ ((dec (r.x.ev m.env)).length:Int):=b4.2.2.1
          have b5':u=subV r.k.sz (m.sv id) 0 (hi'.ev m.env).toNat:=b5
          have hown:=owns_part q4 (hi:=(hi'.ev m.env).toNat) (by omega)
          have hL:=q3.1.sub (hi'.ev m.env).toNat 0
          refine ⟨fun hn=>⟨⟨⟨A.ok_mono q2.1 hn,trivial,A.ok_mono b3.1 hn⟩,by simp only [KK.has,D.ev,dec_enc]; exact hL,trivial⟩,fun x hx=>by rw [List.mem_singleton.1 hx]; show nn < nn + 1; omega⟩,rfl,fun e' he ht=>?_⟩
          have h0:e' (nn + 0)=enc (((dec (r.x.ev e')).take (hi'.ev e').toNat).drop 0):=(ht 0 _ _ rfl).1
          rw [List.drop_zero,A.ev_congr q2.1 he,A.ev_congr b3.1 he] at h0
          have hv:dec (A.ev e' (.var nn))=(dec (r.x.ev m.env)).take (hi'.ev m.env).toNat:=by
           show dec (e' (nn + 0))=_
           rw [h0,dec_enc]
          rw [List.drop_zero] at hL
          show (r.k.hasL (dec (A.ev e' (.var nn))) ∧ True) ∧ w.ownsRow w0.heap.size r.elem r.k.sz u (dec (A.ev e' (.var nn))).length (flat r.k (dec (A.ev e' (.var nn))))
          rw [hv,b5']
          exact ⟨⟨hL,trivial⟩,hown⟩
         ·cases hd
        ·cases hd
       ·rename_i e k
        cases hd
        have hu1:u=.slice none 0 0:=hu1
        refine ⟨fun _=>⟨trivial,fun x hx=>?_⟩,rfl,fun e' _ _=>?_⟩
        ·simp only [List.mem_cons,List.not_mem_nil,or_false] at hx
         rcases hx with rfl | rfl <;> trivial
        ·simp only [List.map_cons,List.map_nil,Oh.leaves,lhas,Oh.rel,List.headD_cons,A.ev,dec_zero]
         exact ⟨⟨⟨by simp,by simp⟩,⟨by simp [has,lo,hi],trivial⟩⟩,.slice none 0 0,World.ownsRow_nil ..,rfl,by simp,by rw [hu1]; rfl⟩
       ·rename_i e k id lo' hi' k'
        split at hd
        ·rename_i r hr0
         split at hd
         ·rename_i hc
          simp only [Bool.and_eq_true,beq_iff_eq] at hc
          obtain ⟨⟨⟨⟨⟨hc1,hc2⟩,hc3⟩,hc4⟩,hc6⟩,hc5⟩:=hc
          cases hd
          have hk:=LKeq_ok hc3
          subst hk
          have hk2:=LKeq_ok hc4
          subst hk2
          subst hc2
          have hz:=isZ_ok hc5
          subst hz
          obtain ⟨b1,b2,b3,b4,b5,b6⟩:=(show C.rel m σ.nv σ.al (.slv id (.lit 0) hi' r.k) u from hu1)
          obtain ⟨q1,q2,_,_,q3⟩:=hrep.row_ok hr0
          have q4:=q3.2.1
          rw [hc1] at q4
          simp only [if_true] at q4
          rw [q3.lenV] at b4
          have c1:0 ≤ hi'.ev m.env:=b4.2.1
          have c2:hi'.ev m.env ≤ ((dec (r.x.ev m.env)).length:Int):=b4.2.2.1
          have c3:=b4.2.2.2
          refine ⟨fun hn=>⟨trivial,fun x hx=>?_⟩,rfl,fun e' he ht=>?_⟩
          ·simp only [List.mem_cons,List.not_mem_nil,or_false] at hx
           rcases hx with rfl | rfl
           ·exact A.ok_mono q2.1 (by simpa using hn)
           ·exact A.ok_mono b3.1 (by simpa using hn)
          ·have hx0:A.ev e' r.x=A.ev m.env r.x:=A.ev_congr q2.1 he
           have hv0:A.ev e' hi'=A.ev m.env hi':=A.ev_congr b3.1 he
           show lhas [.lst r.k,.int .i64] [A.ev e' r.x,A.ev e' hi'] ∧ lentAt r.k (fun v'=>w.ownsRow w0.heap.size r.elem r.k.sz v' (dec (A.ev e' r.x)).length (flat r.k (dec (A.ev e' r.x)))) (dec (A.ev e' r.x)) (A.ev e' hi') u
           rw [hx0,hv0]
           exact ⟨⟨q3.1,by simp only [has,lo,hi]; omega,trivial⟩,m.sv id,q4,q3.2.2 hc6,⟨c1,c2⟩,b5⟩
         ·cases hd
        ·cases hd
       ·rename_i e k id hi' n
        split at hd
        ·rename_i b hb
         split at hd
         ·rename_i hc
          simp only [Bool.and_eq_true,beq_iff_eq,decide_eq_true_eq] at hc
          obtain ⟨⟨⟨⟨hc1,hc2⟩,hn0⟩,hn1⟩,hlen⟩:=hc
          split at hd
          ·rename_i ds' as' htk
           cases hd
           obtain ⟨b1,b2,b3,b4⟩:=(show C.rel m σ.nv σ.al (.slS id 0 hi' n) u from hu1)
           obtain ⟨k1,k2,vs',k3,k4⟩:=hrep.own id b (box_some hb) hc1
           obtain ⟨g1,g3,g4⟩:=takeNK_ok (T:=T) _ _ _ _ _ htk m σ.nv vs' k4
           have hvl:vs'.length=n * k.sz:=by rw [← k4.length,hlen]
           refine ⟨fun hn=>⟨gen_append _ _ _ _ (g1 hn).1 fun e1 he1 ht1=>⟨⟨trivial,(g1 hn).2⟩,?_,trivial⟩,?_⟩,rfl,fun e' he ht=>?_⟩
           ·simp only [KK.has,D.ev,A.ev,dec_zero,dec_enc,List.nil_append]
            exact ⟨by rw [List.length_map,g3]; omega,(g4 e1 (fun i hi=>he1 i (by omega)) ht1).2⟩
           ·intro x hx
            simp only [List.mem_cons,List.not_mem_nil,or_false] at hx
            rcases hx with rfl | rfl
            ·show nn + ds'.length < nn + (ds' ++ _).length
             simp
            ·exact A.ok_mono b2.1 (by omega)
           ·obtain ⟨t1,t2⟩:=Told.append.1 ht
            have h0:e' (nn + ds'.length)=enc (as'.map (·.ev e')):=by
             have h1:e' (nn + ds'.length + 0)=enc (dec 0 ++ as'.map (·.ev e')):=(t2 0 _ _ rfl).1
             rwa [dec_zero,List.nil_append] at h1
            obtain ⟨f1,f2⟩:=g4 e' he t1
            have hv0:A.ev e' hi'=A.ev m.env hi':=A.ev_congr b2.1 he
            have hl:(as'.map (·.ev e')).length=n:=by rw [List.length_map,g3]
            show lhas [.lst k,.int .i64] [e' (nn + ds'.length),A.ev e' hi'] ∧ lentAt k (fun v'=>w.ownsRow w0.heap.size e k.sz v' (dec (e' (nn + ds'.length))).length (flat k (dec (e' (nn + ds'.length))))) (dec (e' (nn + ds'.length))) (A.ev e' hi') u
            rw [h0,dec_enc,hv0,f1,hl]
            refine ⟨⟨(show k.hasL (dec (enc (as'.map (·.ev e')))) by rw [dec_enc]; exact ⟨by rw [hl]; omega,f2⟩),by simp only [has,lo,hi]; omega,trivial⟩,.slice (some ⟨(m.rho id).1,0,none⟩) n n,⟨hvl,.inr ⟨(m.rho id).1,n,vs'.toArray,rfl,k2,by rw [k3,hc2],Nat.le_refl _,by unfold maxLen; omega,by simpa using hvl,?_⟩⟩,rfl,⟨b3.1,by rw [hl]; exact b3.2⟩,?_⟩
            ·rw [List.take_of_length_le (by rw [← hvl]; simp)]
            ·rw [b4,subV_zero]; simp [M.at,k1]
          ·cases hd
         ·cases hd
        ·cases hd
       ·rename_i e k id n n'
        split at hd
        ·rename_i b hb
         split at hd
         ·rename_i hc
          simp only [Bool.and_eq_true,beq_iff_eq,decide_eq_true_eq] at hc
          obtain ⟨⟨⟨⟨⟨hc1,hc2⟩,hn0⟩,hn1⟩,hnn⟩,hlen⟩:=hc
          split at hd
          ·rename_i ds' as' htk
           cases hd
           subst hnn
           have hu1:=(show C.rel m σ.nv σ.al (.slice id 0 n n) u from hu1)
           obtain ⟨k1,k2,vs',k3,k4⟩:=hrep.own id b (box_some hb) hc1
           obtain ⟨g1,g3,g4⟩:=takeNK_ok (T:=T) _ _ _ _ _ htk m σ.nv vs' k4
           have hvl:vs'.length=n * k.sz:=by rw [← k4.length,hlen]
           refine ⟨fun hn=>⟨gen_append _ _ _ _ (g1 hn).1 fun e1 he1 ht1=>⟨⟨trivial,(g1 hn).2⟩,?_,trivial⟩,?_⟩,rfl,fun e' he ht=>?_⟩
           ·simp only [KK.has,D.ev,A.ev,dec_zero,dec_enc,List.nil_append]
            exact ⟨by rw [List.length_map,g3]; omega,(g4 e1 (fun i hi=>he1 i (by omega)) ht1).2⟩
           ·intro x hx
            rw [List.mem_singleton.1 hx]
            show nn + ds'.length < nn + (ds' ++ _).length
            simp
           ·obtain ⟨t1,t2⟩:=Told.append.1 ht
            have h0:e' (nn + ds'.length)=enc (as'.map (·.ev e')):=by
             have h1:e' (nn + ds'.length + 0)=enc (dec 0 ++ as'.map (·.ev e')):=(t2 0 _ _ rfl).1
             rwa [dec_zero,List.nil_append] at h1
            obtain ⟨f1,f2⟩:=g4 e' he t1
            have hl:(as'.map (·.ev e')).length=n:=by rw [List.length_map,g3]
            show lhas [.lst k] [e' (nn + ds'.length)] ∧ w.ownsRow w0.heap.size e k.sz u (dec (e' (nn + ds'.length))).length (flat k (dec (e' (nn + ds'.length))))
            rw [h0,dec_enc,f1,hl]
            refine ⟨⟨(show k.hasL (dec (enc (as'.map (·.ev e')))) by rw [dec_enc]; exact ⟨by rw [hl]; omega,f2⟩),trivial⟩,hvl,.inr ⟨(m.rho id).1,n,vs'.toArray,?_,k2,by rw [k3,hc2],Nat.le_refl _,by unfold maxLen; omega,by simpa using hvl,?_⟩⟩
            ·rw [hu1.2]; simp [M.at,k1]
            ·rw [List.take_of_length_le (by rw [← hvl]; simp)]
          ·cases hd
         ·cases hd
        ·cases hd
       ·cases hd
      obtain ⟨o1,o2,o3⟩:=one
      refine ⟨fun hn=>⟨gen_append _ _ _ _ (o1 hn).1 fun e1 he1 _=>?_,?_⟩,fun e2 he2 ht2=>?_⟩
      ·have hx:MExt m σ.nv σ.al {m with env:=e1 } σ.nv σ.al:=⟨fun i hi=>he1 i (by omega),fun _ _=>rfl,rfl,fun _ _=>rfl,Nat.le_refl _,fun _ h=>h⟩
       exact ((ih _ _ _ _ hr (hrep.names e1 (fun i hi=>he1 i (by omega)) σ.nv (Nat.le_refl _)) (hu2.mono hx)).1 (by show σ.nv ≤ _; omega)).1
      ·intro x hx
       rcases List.mem_append.1 hx with hx | hx
       ·exact A.ok_mono ((o1 hn).2 x hx) (by simp)
       ·exact A.ok_mono ((i1 (by omega)).2 x hx) (by simp; omega)
      ·rw [Told.append] at ht2
       obtain ⟨h1,h2⟩:=o3 e2 he2 ht2.1
       have h3:=i2 e2 he2 ht2.2
       have e1:(List.map (fun x=>A.ev e2 x) d2 ++ List.map (fun x=>A.ev e2 x) r2).take (lcount s.leaves)=List.map (fun x=>A.ev e2 x) d2:=by
        rw [List.take_append_of_le_length (by simp [o2]),List.take_of_length_le (by simp [o2])]
       have e2':(List.map (fun x=>A.ev e2 x) d2 ++ List.map (fun x=>A.ev e2 x) r2).drop (lcount s.leaves)=List.map (fun x=>A.ev e2 x) r2:=by
        rw [List.drop_append_of_le_length (by simp [o2]),List.drop_of_length_le (by simp [o2])]; rfl
       simp only [List.map_append,outsRel,e1,e2']
       exact ⟨h1,h2,h3⟩
theorem inSh_some:∀ (ins:List Sh) (nn id:Nat) (j:Nat),j < (inSh nn id ins).2.length → ∃ b,(inSh nn id ins).2[j]?=some (some b)
 | [],_,_,_,h=>by simp [inSh] at h
 | s :: ss,nn,id,j,h=>by
  cases s with
  | one l=>exact inSh_some ss _ _ j h
  | agg l=>exact inSh_some ss _ _ j h
  | ptr l =>
   cases j with
   | zero=>exact ⟨_,rfl⟩
   | succ j=>simpa [inSh] using inSh_some ss (nn + lcount l) (id + 1) j (by simpa [inSh] using h)
  | lst k =>
   cases j with
   | zero=>exact ⟨_,rfl⟩
   | succ j=>simpa [inSh] using inSh_some ss (nn + 1) (id + 1) j (by simpa [inSh] using h)
  | lent k =>
   cases j with
   | zero=>exact ⟨_,rfl⟩
   | succ j=>simpa [inSh] using inSh_some ss (nn + 2) (id + 1) j (by simpa [inSh] using h)
def envOf (xs:List Int):Nat → Int:=fun i=>xs.getD i 0
theorem ctr_of_run (hm:P.follows .mixedOrders=true) (hT:∀ (g:Nat) κ,T[g]?=some κ → κ.ok P) {κ:K} {fn:Func} (fuel:Nat) (hf:P.funcs[κ.fn]?=some fn) (hn:(fn.name == "runtime.NumGoroutine")=false) (hext:κ.ext=false) (hok:κ.ins.all okSh=true)
  (hh:∀ (w:World) (xs:List Int) (args:List Value),insRel w κ.ins xs args → κ.pre xs → (tree P T LA fuel fn κ.ins κ.outs).holds T ⟨fun ys=>ys=κ.sem xs,[]⟩ (envOf xs)):κ.ok P:=by
 intro w args xs hin hpre
 rw [hext]
 simp only [Bool.false_eq_true,if_false]
 have h1:=hh w xs args hin hpre
 unfold tree at h1
 cases hb:fn.body with
 | none=>rw [hb] at h1; exact h1.elim
 | some c =>
  rw [hb] at h1
  simp only at h1
  refine ⟨run_callFunc hf hn hb,calls_of_wp hf hb ?_⟩
  let m:M:={env:=envOf xs,rho:=fun id=>(ptrs κ.ins args).getD id (0,0),ext:=fun _=>default,sv:=fun id=>(slvs κ.ins args).getD id .nilFunc }
  let σ:=initS fn κ.ins
  have hal:∀ j,j < (inSh 0 0 κ.ins).2.length → σ.al (0 + j)=true:=fun j hj=>by
   obtain ⟨b,hb⟩:=inSh_some κ.ins 0 0 j hj
   exact al_iff.2 ⟨b,by rw [Nat.zero_add]; exact hb⟩
  obtain ⟨v1,v2⟩:=in_ok κ.ins xs args 0 0 hok hin m σ.nv σ.al (fun i x hx=>by show xs.getD (0 + i) 0=x; rw [Nat.zero_add,List.getD_eq_getElem?_getD,hx]; rfl) (by show 0 + icount κ.ins ≤ icount κ.ins; omega)
   (fun j p hp=>by show (ptrs κ.ins args).getD (0 + j) (0,0)=p; rw [Nat.zero_add,List.getD_eq_getElem?_getD,hp]; rfl) hal (fun j v hv=>by show (slvs κ.ins args).getD (0 + j) .nilFunc=v; rw [Nat.zero_add,List.getD_eq_getElem?_getD,hv]; rfl)
  have hbase:Rep w m {σ with tmps:=[] } {tmps:=#[],defers:=[] } w:=by
   refine ⟨rfl,rfl,fun i s hi=>by simp at hi,Below.refl _ _,fun id b hb ho=>?_,fun id b hb ho=>?_,fun id id' b b' hb hb' ho _ _=>?_,fun p hp=>absurd hp (List.not_mem_nil),fun p hp=>absurd hp (List.not_mem_nil),fun id b r hb hr=>?_,fun id b r hb hr ho=>?_,fun id b r id' b' r' hb hr hb' hr' ho=>?_⟩
   ·rw [(v2 id b hb).1] at ho; cases ho
   ·have:=v2 id b hb
    rw [Nat.zero_add] at this
    exact this.2.1
   ·rw [(v2 id b hb).1] at ho; cases ho
   ·have:=v2 id b hb
    rw [Nat.zero_add] at this
    obtain ⟨r1,r2,r3,r4⟩:=this.2.2 r hr
    exact ⟨r1,by rw [r2]; exact r1,by rw [r2],r3⟩
   ·rw [((v2 id b hb).2.2 r hr).2.2.2] at ho; cases ho
   ·rw [((v2 id b hb).2.2 r hr).2.2.2] at ho; cases ho
  have hR:Rep w m σ {tmps:=args.toArray ++ Array.replicate (fn.ntmps - args.toArray.size) undef,defers:=[] } w:=enter_rep hbase v1 fn.ntmps
  refine run_sound hm hT fuel (.code c) σ (fin P fn κ.outs) w m _ w _ _ hR rfl h1 fun e σ' m' a' w' goal' x1 x2 x3 x4 x5=>?_
  have key:e=.normal ∨ e=.ret → bodyPost P fn (fun e w'=>∃ vs,e=.returned (retV vs) ∧ outsRel w.heap.size w' κ.outs (κ.sem xs) vs ∧ Below w.heap.size w w') (exitOf e) a' w':=by
   intro he
   have x6:(match resS P σ' fn with | none=>.bad 401 "" | some vs=>match takeOuts σ' σ'.nv κ.outs vs with | none=>.bad 402 "" | some r=>letts σ'.nv r.1 (.ret r.2):Tree).holds T goal' m'.env:=by
    rcases he with rfl | rfl <;> exact x5
   cases hrs:resS P σ' fn with
   | none=>rw [hrs] at x6; exact x6.elim
   | some vs =>
    rw [hrs] at x6
    simp only at x6
    cases hto:takeOuts σ' σ'.nv κ.outs vs with
    | none=>rw [hto] at x6; exact x6.elim
    | some r =>
     rw [hto] at x6
     simp only at x6
     obtain ⟨r1,r2⟩:=r
     obtain ⟨us,u1,u2⟩:=res_ok x4 hrs
     obtain ⟨o1,o2⟩:=takeOuts_ok (T:=T) _ _ _ _ _ hto x4 u2
     obtain ⟨e1,k1,k2,k3,k4⟩:=letts_holds _ _ _ x6 (o1 (Nat.le_refl _)).1
     have hout:=o2 e1 (fun i hi=>k1 i hi) k3
     have hg:r2.map (·.ev e1)=κ.sem xs:=by
      have:goal'.goal (r2.map (·.ev e1)):=k4
      rw [x1.1] at this; exact this
     rw [hg] at hout
     have hd:=x4.defers
     have:=x4.below
     rcases he with rfl | rfl <;> exact ⟨hd,retV us,u1,us,rfl,hout,this⟩
  cases e with
  | normal=>exact key (.inl rfl)
  | ret=>exact key (.inr rfl)
  | exit id=>exact x5.elim
end
end Go.Sx

namespace Go.Sx
open Go Go.RowKit
def seqE (e:Nat → Int) (n:Nat):Nat → List Int
 | 0=>[]
 | k + 1=>e n :: seqE e (n + 1) k
def Tree.says (T:List K):Tree → Gl → (Nat → Int) → Prop
 | .ret as,g,e=>g.goal (as.map (·.ev e))
 | .split n t f,g,e=>(e n ≠ 0 → t.says T g e) ∧ (e n=0 → f.says T g e)
 | .lett n kk d t,g,e=>e n=d.ev T e → kk.has (e n) → t.says T g e
 | .req q as t,g,e=>(match T[q]? with | some κ=>κ.pre (as.map (·.ev e)) | none=>False) ∧ t.says T g e
 | .nz a t,g,e=>a.ev e ≠ 0 ∧ t.says T g e
 | .loop inits kks n0 t,g,e=>∃ (I:List Int → Prop) (μ:List Int → Nat),I (inits.map (·.ev e)) ∧
   ∀ e',(∀ i,i < n0 → e' i=e i) → kkHas kks (seqE e' n0 kks.length) → I (seqE e' n0 kks.length) → t.says T {g with stk:=g.stk ++ [fun us=>I us ∧ μ us < μ (seqE e' n0 kks.length)] } e'
 | .back lvl as,g,e=>match g.stk[lvl]? with | some R=>R (as.map (·.ev e)) | none=>False
 | .bad _ _,_,_=>False
def A.okB (n:Nat):A → Bool
 | .lit _=>true
 | .var k=>decide (k < n)
 | .limb k _=>decide (k < n)
def D.okB (n:Nat):D → Bool
 | .bin _ _ a b=>a.okB n && b.okB n
 | .cmp _ a b=>a.okB n && b.okB n
 | .conv _ a=>a.okB n
 | .not a=>a.okB n
 | .app _ _ as=>as.all (A.okB n)
 | .join as=>as.all (A.okB n)
 | .eqs l=>l.all fun p=>p.1.okB n && p.2.okB n
 | .sel i as=>i.okB n && as.all (A.okB n)
 | .put i _ x y=>i.okB n && x.okB n && y.okB n
 | .llen x=>x.okB n
 | .lget x i=>x.okB n && i.okB n
 | .lapp x as=>x.okB n && as.all (A.okB n)
 | .lsub x lo hi=>x.okB n && lo.okB n && hi.okB n
 | .lput x i y=>x.okB n && i.okB n && y.okB n
 | .lrep c y=>c.okB n && y.okB n
 | .lcpy x y=>x.okB n && y.okB n
 | .lcat x y=>x.okB n && y.okB n
 | .lsame x y=>x.okB n && y.okB n
def wfT:Nat → Tree → Bool
 | nn,.ret as=>as.all (A.okB nn)
 | nn,.split n t f=>decide (n < nn) && wfT nn t && wfT nn f
 | nn,.lett n _ d t=>decide (nn ≤ n) && d.okB nn && wfT (n + 1) t
 | nn,.req _ as t=>as.all (A.okB nn) && wfT nn t
 | nn,.nz a t=>a.okB nn && wfT nn t
 | nn,.loop inits kks n0 t=>inits.all (A.okB nn) && decide (nn ≤ n0) && wfT (n0 + kks.length) t
 | nn,.back _ as=>as.all (A.okB nn)
 | _,.bad _ _=>true
theorem A.okB_ok {n:Nat} {a:A} (h:a.okB n=true):a.ok n:=by
 cases a <;> simp [A.okB] at h <;> first | trivial | exact h
theorem A.okB_all {n:Nat} {as:List A} (h:as.all (A.okB n)=true):∀ a ∈ as,a.ok n:=fun a ha=>A.okB_ok (List.all_eq_true.1 h a ha)
theorem D.okB_ok {n:Nat} {d:D} (h:d.okB n=true):d.ok n:=by
 cases d <;> simp only [D.okB,Bool.and_eq_true] at h
 case bin=>exact ⟨A.okB_ok h.1,A.okB_ok h.2⟩
 case cmp=>exact ⟨A.okB_ok h.1,A.okB_ok h.2⟩
 case conv=>exact A.okB_ok h
 case not=>exact A.okB_ok h
 case app=>exact A.okB_all h
 case join=>exact A.okB_all h
 case sel=>exact ⟨A.okB_ok h.1,A.okB_all h.2⟩
 case put=>exact ⟨A.okB_ok h.1.1,A.okB_ok h.1.2,A.okB_ok h.2⟩
 case llen=>exact A.okB_ok h
 case lget=>exact ⟨A.okB_ok h.1,A.okB_ok h.2⟩
 case lapp=>exact ⟨A.okB_ok h.1,A.okB_all h.2⟩
 case lsub=>exact ⟨A.okB_ok h.1.1,A.okB_ok h.1.2,A.okB_ok h.2⟩
 case lput=>exact ⟨A.okB_ok h.1.1,A.okB_ok h.1.2,A.okB_ok h.2⟩
 case lrep=>exact ⟨A.okB_ok h.1,A.okB_ok h.2⟩
 case lcpy=>exact ⟨A.okB_ok h.1,A.okB_ok h.2⟩
 case lcat=>exact ⟨A.okB_ok h.1,A.okB_ok h.2⟩
 case lsame=>exact ⟨A.okB_ok h.1,A.okB_ok h.2⟩
 case eqs=>exact fun p hp=>by have:=List.all_eq_true.1 h p hp; rw [Bool.and_eq_true] at this; exact ⟨A.okB_ok this.1,A.okB_ok this.2⟩
theorem kkHas_len:∀ {ks:List KK} {vs:List Int},kkHas ks vs → vs.length=ks.length
 | [],[],_=>rfl
 | _ :: _,_ :: _,h=>by simp [kkHas_len h.2]
 | [],_ :: _,h=>h.elim
 | _ :: _,[],h=>h.elim
theorem seqE_eq:∀ (vs:List Int) (e:Nat → Int) (n:Nat),(∀ (i:Nat) x,vs[i]?=some x → e (n + i)=x) → seqE e n vs.length=vs
 | [],_,_,_=>rfl
 | v :: vs,e,n,h=>by
  simp only [List.length_cons,seqE]
  rw [seqE_eq vs e (n + 1) fun i x hx=>by have:=h (i + 1) x (by simpa using hx); rwa [show n + 1 + i=n + (i + 1) by omega]]
  rw [show e n=v by simpa using h 0 v rfl]
theorem says_holds {T:List K}:∀ (t:Tree) (nn:Nat) (g:Gl) (e:Nat → Int),wfT nn t=true → (∀ e',(∀ i,i < nn → e' i=e i) → t.says T g e') → t.holds T g e
 | .ret as,nn,g,e,_,h=>h e fun _ _=>rfl
 | .bad _ _,nn,g,e,_,h=>h e fun _ _=>rfl
 | .back _ _,nn,g,e,_,h=>h e fun _ _=>rfl
 | .split n t f,nn,g,e,hw,h=>by
  simp only [wfT,Bool.and_eq_true,decide_eq_true_eq] at hw
  obtain ⟨⟨h1,h2⟩,h3⟩:=hw
  exact ⟨fun hn=>says_holds t nn g e h2 fun e' he'=>(h e' he').1 (by rw [he' n h1]; exact hn),fun hn=>says_holds f nn g e h3 fun e' he'=>(h e' he').2 (by rw [he' n h1]; exact hn)⟩
 | .lett n kk d t,nn,g,e,hw,h=>by
  simp only [wfT,Bool.and_eq_true,decide_eq_true_eq] at hw
  obtain ⟨⟨h1,h2⟩,h3⟩:=hw
  intro v hv hk
  refine says_holds t (n + 1) g _ h3 fun e' he'=>?_
  have low:∀ i,i < nn → e' i=e i:=fun i hi=>by rw [he' i (by omega)]; simp [upd]; omega
  have hn:e' n=v:=by rw [he' n (by omega)]; simp [upd]
  refine h e' low ?_ (by rw [hn]; exact hk)
  rw [hn,hv,D.ev_congr (D.okB_ok h2) low]
 | .req q as t,nn,g,e,hw,h=>by
  simp only [wfT,Bool.and_eq_true] at hw
  exact ⟨(h e fun _ _=>rfl).1,says_holds t nn g e hw.2 fun e' he'=>(h e' he').2⟩
 | .nz a t,nn,g,e,hw,h=>by
  simp only [wfT,Bool.and_eq_true] at hw
  exact ⟨(h e fun _ _=>rfl).1,says_holds t nn g e hw.2 fun e' he'=>(h e' he').2⟩
 | .loop inits kks n0 t,nn,g,e,hw,h=>by
  simp only [wfT,Bool.and_eq_true,decide_eq_true_eq] at hw
  obtain ⟨⟨h1,h2⟩,h3⟩:=hw
  obtain ⟨I,μ,h4,h5⟩:=h e fun _ _=>rfl
  refine ⟨I,μ,h4,fun vs hk hI=>?_⟩
  have hl:=kkHas_len hk
  refine says_holds t (n0 + kks.length) _ _ h3 fun e' he'=>?_
  have hs:seqE e' n0 kks.length=vs:=by
   rw [← hl]
   refine seqE_eq vs e' n0 fun i x hx=>?_
   have hi:=(List.getElem?_eq_some_iff.1 hx).1
   rw [he' _ (by omega)]
   exact updL_get _ _ _ _ _ hx
  have:=h5 e' (fun i hi=>by rw [he' i (by omega)]; exact updL_low _ _ _ _ hi) (by rw [hs]; exact hk) (by rw [hs]; exact hI)
  rw [hs] at this
  exact this
def ikks:List Sh → List KK
 | []=>[]
 | s :: ss=>kksOf s.leaves ++ ikks ss
theorem okSh_leaves {s:Sh} (h:okSh s=true):s.leaves.all okL=true:=by
 cases s with
 | one l=>simpa [okSh,Sh.leaves] using h
 | agg ls=>exact h
 | ptr ls=>simp only [okSh,Bool.and_eq_true] at h; exact h.1.1
 | lst k=>rfl
 | lent k=>rfl
theorem insRel_kk {w:World}:∀ (ins:List Sh) (xs:List Int) (args:List Value),insRel w ins xs args → kkHas (ikks ins) xs
 | [],xs,args,h=>by rw [h.1]; trivial
 | s :: ss,xs,[],h=>h.elim
 | s :: ss,xs,u :: args,h=>by
  have:=kk_append (kk_of_lhas _ _ h.1) (insRel_kk ss _ _ h.2.2)
  rwa [List.take_append_drop] at this
theorem ikks_len:∀ (ins:List Sh),ins.all okSh=true → (ikks ins).length=icount ins
 | [],_=>rfl
 | s :: ss,h=>by
  simp only [List.all_cons,Bool.and_eq_true] at h
  simp only [ikks,icount,List.length_append,ikks_len ss h.2]
  congr 1
  have:=okSh_leaves h.1
  generalize s.leaves=ls at this
  induction ls with
  | nil=>rfl
  | cons l ls ih =>
   simp only [List.all_cons,Bool.and_eq_true] at this
   cases l with
   | cst c=>simp only [kksOf,ih this.2,lcount,L.n]; omega
   | _=>simp only [kksOf,List.length_cons,ih this.2,lcount,L.n]; omega
def AllOk (P:Program):List K → Prop
 | []=>True
 | κ :: T=>κ.ok P ∧ AllOk P T
theorem AllOk.get {P:Program}:∀ {T:List K},AllOk P T → ∀ (g:Nat) κ,T[g]?=some κ → κ.ok P
 | [],_,g,κ,h=>by simp at h
 | κ' :: T,hT,g,κ,h=>by
  cases g with
  | zero=>simp at h; subst h; exact hT.1
  | succ g=>exact AllOk.get hT.2 g κ (by simpa using h)
theorem ctr_says {P:Program} {T:List K} {LA:List Ann} (hm:P.follows .mixedOrders=true) (hT:AllOk P T) {κ:K} {fn:Func} (fuel:Nat) (hf:P.funcs[κ.fn]?=some fn) (hn:(fn.name == "runtime.NumGoroutine")=false) (hext:κ.ext=false) (hok:κ.ins.all okSh=true)
  {t:Tree} (ht:tree P T LA fuel fn κ.ins κ.outs=t) (hw:wfT (icount κ.ins) t=true)
  (hh:∀ e:Nat → Int,kkHas (ikks κ.ins) (seqE e 0 (icount κ.ins)) → κ.pre (seqE e 0 (icount κ.ins)) → t.says T ⟨fun ys=>ys=κ.sem (seqE e 0 (icount κ.ins)),[]⟩ e):κ.ok P:=by
 refine ctr_of_run (LA:=LA) hm hT.get fuel hf hn hext hok fun w xs args hin hpre=>?_
 rw [ht]
 refine says_holds t _ _ _ hw fun e he=>?_
 have hkk:=insRel_kk _ _ _ hin
 have hl:xs.length=icount κ.ins:=by rw [kkHas_len hkk,ikks_len _ hok]
 have hs:seqE e 0 (icount κ.ins)=xs:=by
  rw [← hl]
  refine seqE_eq xs e 0 fun i x hx=>?_
  have hi:=(List.getElem?_eq_some_iff.1 hx).1
  rw [Nat.zero_add,he i (by omega)]
  simp [envOf,hx]
 have:=hh e (by rw [hs]; exact hkk) (by rw [hs]; exact hpre)
 rw [hs] at this
 exact this
end Go.Sx

namespace Go.Sx
open Go Go.RowKit
end Go.Sx
