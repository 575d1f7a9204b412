/- Part Nc of the proof. -/
import Derived.Test.YtjkkfifojkfnjaaGreatDoorNb
set_option linter.unusedVariables false
set_option linter.unusedSimpArgs false
namespace Go.Sx
open Go Go.RowKit
def M.row (m:M) (id:Nat) (v:Value):M:={m with sv:=fun i=>if i=id then v else m.sv i }
theorem noRow_len (bs:List (Option Box)) (id:Nat):(noRow bs id).length=bs.length:=by
 rw [noRow_def];split <;> simp
theorem noRow_get {bs:List (Option Box)} {id i:Nat} {b:Box} (h:(noRow bs id)[i]?=some (some b)):∃ b',bs[i]?=some (some b')/\b'.cells=b.cells/\b'.elem=b.elem/\b'.own=b.own/\(b.row=none∨b'.row=b.row/\i≠id):=by
 rw [noRow_def] at h
 split at h
 ·rename_i b0 hb0
  by_cases hi:id=i
  ·subst hi
   have hl:id<bs.length:=(List.getElem?_eq_some_iff.1 hb0).1
   simp [hl] at h
   subst h
   exact ⟨b0,hb0,rfl,rfl,rfl,.inl rfl⟩
  ·rw [List.getElem?_set_ne hi] at h
   exact ⟨b,h,rfl,rfl,rfl,.inr ⟨rfl,fun e=>hi e.symm⟩⟩
 ·rename_i hn
  refine ⟨b,h,rfl,rfl,rfl,.inr ⟨rfl,fun e=>hn b (by rw [<- e];exact h)⟩⟩
theorem noRow_al (Y:St) (id:Nat) (i:Nat):({Y with boxes:=noRow Y.boxes id }:St).al i=Y.al i:=by
 unfold St.al
 simp only [noRow_def]
 cases hb0:Y.boxes[id]? with
 | none=>rfl
 | some ob=>cases ob with
  | none=>rfl
  | some b0 =>
   simp only
   by_cases hi:id=i
   ·subst hi
    have hl:id<Y.boxes.length:=(List.getElem?_eq_some_iff.1 hb0).1
    rw [List.getElem?_set_self hl,hb0]
   ·rw [List.getElem?_set_ne hi]
theorem noRow_none {bs:List (Option Box)} {id i:Nat} (h:bs[i]?=some none):(noRow bs id)[i]?=some none:=by
 rw [noRow_def]
 split
 ·rename_i b0 hb0
  by_cases hi:id=i
  ·subst hi;rw [h] at hb0;cases hb0
  ·rw [List.getElem?_set_ne hi];exact h
 ·exact h
theorem noRows_len:∀ (ids:List Nat) (bs:List (Option Box)),(noRows bs ids).length=bs.length
 | [],_=>rfl
 | id::r,bs=>by unfold noRows;rw [noRows_len r,noRow_len]
theorem noRows_get:∀ (ids:List Nat) {bs:List (Option Box)} {i:Nat} {b:Box},(noRows bs ids)[i]?=some (some b)->∃ b',bs[i]?=some (some b')/\b'.cells=b.cells/\b'.elem=b.elem/\b'.own=b.own/\(b.row=none∨b'.row=b.row/\i ∉ ids)
 | [],bs,i,b,h=>⟨b,h,rfl,rfl,rfl,.inr ⟨rfl,by simp⟩⟩
 | id::r,bs,i,b,h=>by
  obtain ⟨b1,h1,h2,h3,h4,h5⟩:=noRows_get r (bs:=noRow bs id) h
  obtain ⟨b2,k1,k2,k3,k4,k5⟩:=noRow_get h1
  refine ⟨b2,k1,k2.trans h2,k3.trans h3,k4.trans h4,?_⟩
  rcases h5 with h5 | ⟨h5,h6⟩
  ·exact .inl h5
  ·rcases k5 with k5 | ⟨k5,k6⟩
   ·exact .inl (h5▸k5)
   ·exact .inr ⟨k5.trans h5,by simp [k6,h6]⟩
theorem noRow_fz {bs:List (Option Box)} {id i:Nat} {b:Box} (h:(noRow bs id)[i]?=some (some b)):∃ b',bs[i]?=some (some b')/\b'.fz=b.fz:=by
 rw [noRow_def] at h
 split at h
 ·rename_i c hc
  by_cases hi:id=i
  ·subst hi
   rw [List.getElem?_set_self (List.getElem?_eq_some_iff.1 hc).1] at h
   cases h
   exact ⟨c,hc,rfl⟩
  ·rw [List.getElem?_set_ne hi] at h
   exact ⟨b,h,rfl⟩
 ·exact ⟨b,h,rfl⟩
theorem noRows_fz:∀ (ids:List Nat) {bs:List (Option Box)} {i:Nat} {b:Box},(noRows bs ids)[i]?=some (some b)->∃ b',bs[i]?=some (some b')/\b'.fz=b.fz
 | [],_,_,b,h=>⟨b,h,rfl⟩
 | id::r,bs,i,b,h=>by
  obtain ⟨c,h1,h2⟩:=noRows_fz r h
  obtain ⟨d,h3,h4⟩:=noRow_fz h1
  exact ⟨d,h3,h4.trans h2⟩
theorem noRows_al:∀ (ids:List Nat) (Y:St),({Y with boxes:=noRows Y.boxes ids }:St).al=Y.al
 | [],Y=>rfl
 | id::r,Y=>by
  have h1:=noRows_al r {Y with boxes:=noRow Y.boxes id }
  have h2:({Y with boxes:=noRow Y.boxes id }:St).al=Y.al:=funext (noRow_al Y id)
  exact h1.trans h2
theorem noRows_none:∀ (ids:List Nat) {bs:List (Option Box)} {i:Nat},bs[i]?=some none->(noRows bs ids)[i]?=some none
 | [],_,_,h=>h
 | id::r,bs,i,h=>noRows_none r (noRow_none h)
section
variable {w0:World} {m:M} {Y:St} {a:Act} {w w':World}
theorem Rep.noRows (h:Rep w0 m Y a w) (ids:List Nat):Rep w0 m {Y with boxes:=Sx.noRows Y.boxes ids } a w:=by
 have hal:=noRows_al ids Y
 have row':∀ {i:Nat} {b:Box} {r:Row},(Sx.noRows Y.boxes ids)[i]?=some (some b)->b.row=some r->∃ b',Y.boxes[i]?=some (some b')/\b'.row=some r:=by
  intro i b r hi hr
  obtain ⟨b',h1,_,_,_,h5⟩:=noRows_get ids hi
  rcases h5 with h5 | ⟨h5,_⟩
  ·rw [hr] at h5;cases h5
  ·exact ⟨b',h1,h5.trans hr⟩
 refine ⟨h.defers,h.size,?_,h.below,?_,?_,?_,h.kn,?_,?_,?_,?_,h.base⟩
 ·rw [hal];exact h.tmp
 ·rw [hal];intro id b hi ho
  obtain ⟨b',h1,h2,h3,h4,_⟩:=noRows_get ids hi
  obtain ⟨g1,g2,vs,g3,g4⟩:=h.own id b' h1 (h4.trans ho)
  obtain ⟨b2,q1,q2⟩:=noRows_fz ids hi
  have hbb:b2=b':=by rw [h1] at q1;cases q1;rfl
  exact ⟨g1,g2,vs,by rw [<- h3,<- q2,hbb];exact g3,by rw [<- h2];exact g4⟩
 ·rw [hal];intro id b hi ho
  obtain ⟨b',h1,h2,h3,h4,_⟩:=noRows_get ids hi
  have:=h.ro id b' h1 (h4.trans ho)
  rw [h2] at this
  exact this
 ·intro id id' b b' hi hi' ho ho' hd
  obtain ⟨c,h1,_,_,h4,_⟩:=noRows_get ids hi
  obtain ⟨c',k1,_,_,k4,_⟩:=noRows_get ids hi'
  exact h.inj id id' c c' h1 k1 (h4.trans ho) (k4.trans ho') hd
 ·rw [hal];exact h.gl
 ·intro id b r hi hr
  obtain ⟨b',h1,h2⟩:=row' hi hr
  exact h.rows id b' r h1 h2
 ·intro id b r hi hr ho id' b' hi' hbo
  obtain ⟨c,h1,h2⟩:=row' hi hr
  obtain ⟨c',k1,_,_,k4,_⟩:=noRows_get ids hi'
  exact h.rbox id c r h1 h2 ho id' c' k1 (k4.trans hbo)
 ·intro id b r id' b' r' hi hr hi' hr' ho ho' hd
  obtain ⟨c,h1,h2⟩:=row' hi hr
  obtain ⟨c',k1,k2⟩:=row' hi' hr'
  exact h.rsep id c r id' c' r' h1 h2 k1 k2 ho ho' hd
theorem Rep.rowIn (h:Rep w0 m Y a w) {nid:Nat} (hn:Y.boxes[nid]?=some none) {row:Option Nat} (hgrow:w.grownBy w' row)
  (hfar:∀ k,row=some k->w0.heap.size<=k/\(∀ (id:Nat) (b:Box),Y.boxes[id]?=some (some b)->b.own=true->(m.rho id).1≠k) /\
   ∀ (id:Nat) (b:Box) (r:Row),Y.boxes[id]?=some (some b)->b.row=some r->r.own=true->(m.sv id).ownBlock≠some k)
  {r:Row} {v:Value} (hx:r.x.wf Y.nv m.env) (hx0:r.x0.wf Y.nv m.env) (hlen:(dec (r.x0.ev m.env)).length=(dec (r.x.ev m.env)).length) (hat:RowAt w0 w' r v (dec (r.x.ev m.env)))
  (hv:∀ g,r.own=true->v.ownBlock=some g->row=some g∨w.heap.size<=g) :
  Rep w0 (m.row nid v) (Y.setBox nid (rowBox r)) a w'/\MExt m Y.nv Y.al (m.row nid v) Y.nv (Y.setBox nid (rowBox r)).al:=by
 have hnl:nid<Y.boxes.length:=(List.getElem?_eq_some_iff.1 hn).1
 have hne:∀ {id},Y.al id=true->id≠nid:=fun {id} hid e=>by
  obtain ⟨b,hb⟩:=al_iff.1 hid;rw [e,hn] at hb;cases hb
 have hx':MExt m Y.nv Y.al (m.row nid v) Y.nv (Y.setBox nid (rowBox r)).al:=by
  refine ⟨fun _ _=>rfl,fun _ _=>rfl,rfl,fun id hid=>?_,Nat.le_refl _,fun id hid=>?_⟩
  ·simp [M.row,hne hid]
  ·rw [al_setBox];split
   ·rfl
   ·exact hid
 refine ⟨?_,hx'⟩
 have oldb:∀ {id:Nat} {bx:Box},(Y.setBox nid (rowBox r)).boxes[id]?=some (some bx)->id≠nid->Y.boxes[id]?=some (some bx):=by
  intro id bx hi hne
  simpa [St.setBox,List.getElem?_set_ne (Ne.symm hne)] using hi
 have newb:∀ {bx:Box},(Y.setBox nid (rowBox r)).boxes[nid]?=some (some bx)->bx=rowBox r:=by
  intro bx hi
  simp [St.setBox,hnl] at hi
  exact hi.symm
 have hbel:Below w0.heap.size w w':=⟨hgrow.os,hgrow.tape,hgrow.output,hgrow.size,fun k hk=>hgrow.block k (Nat.lt_of_lt_of_le hk h.below.size) fun e=>by have:=(hfar k e.symm).1;omega⟩
 have svo:∀ {id},id≠nid->(m.row nid v).sv id=m.sv id:=fun {id} hid=>by simp [M.row,hid]
 have svn:(m.row nid v).sv nid=v:=by simp [M.row]
 have own':∀ {id:Nat} {bx:Box},(Y.setBox nid (rowBox r)).boxes[id]?=some (some bx)->bx.own=true->Y.boxes[id]?=some (some bx):=by
  intro id bx hi ho
  by_cases hin:id=nid
  ·subst hin;have:=newb hi;subst this;cases ho
  ·exact oldb hi hin
 have far:∀ g,r.own=true->v.ownBlock=some g->(∀ (id:Nat) (b:Box),Y.boxes[id]?=some (some b)->b.own=true->(m.rho id).1≠g) /\
   ∀ (id:Nat) (b:Box) (q:Row),Y.boxes[id]?=some (some b)->b.row=some q->q.own=true->(m.sv id).ownBlock≠some g:=by
  intro g ho hg
  rcases hv g ho hg with h1 | h1
  ·exact (hfar g h1).2
  ·refine ⟨fun id b hb hbo=>?_,fun id b q hb hq hqo e=>?_⟩
   ·have:=h.lt_size hb hbo;omega
   ·have:=((h.rows id b q hb hq).2.2.2.lt hqo e).2;omega
 refine ⟨h.defers,h.size,fun i s hi=>?_,h.below.trans hbel,fun id b hi ho=>?_,fun id b hi ho=>?_,fun id id' b b' hi hi' ho ho' hd=>?_,h.kn,fun p hp=>?_,fun id b q hi hq=>?_,fun id b q hi hq ho id' b' hi' hbo=>?_,fun id b q id' b' q' hi hq hi' hq' ho ho' hd=>?_,h.base⟩
 ·obtain ⟨u,hu,hs⟩:=h.tmp i s hi;exact ⟨u,hu,SV.rel_mono hx' hs⟩
 ·obtain ⟨h1,h2,vs,h3,h4⟩:=h.own id b (own' hi ho) ho
  refine ⟨h1,h2,vs,?_,h4.mono hx'⟩
  show w'.heap[(m.rho id).1]?=_
  rw [hgrow.block _ (h.lt_size (own' hi ho) ho) fun e=>(hfar _ e.symm).2.1 id b (own' hi ho) ho rfl]
  exact h3
 ·by_cases hin:id=nid
  ·subst hin;have:=newb hi;subst this;exact .inl rfl
  ·rcases h.ro id b (oldb hi hin) ho with h0 | ⟨h1,h2⟩
   ·exact .inl h0
   ·refine .inr ⟨h1,fun j c hj=>?_⟩
    obtain ⟨u,h3,h4⟩:=h2 j c hj
    exact ⟨u,by show w'.cell? (m.at id j)=_;rw [hbel.cell (p:=m.at id j) h1];exact h3,C.rel_mono hx' h4⟩
 ·exact h.inj id id' b b' (own' hi ho) (own' hi' ho') ho ho' hd
 ·have h1:=h.gl p hp
  exact ⟨hx'.al _ h1.1,h1.2⟩
 ·by_cases hin:id=nid
  ·subst hin
   have:=newb hi;subst this
   simp only [rowBox,Option.some.injEq] at hq
   subst hq
   exact ⟨hx,hx0,hlen,by rw [svn];exact hat⟩
  ·obtain ⟨r1,r2,r3,r4⟩:=h.rows id b q (oldb hi hin) hq
   refine ⟨r1,r2,r3,?_⟩
   rw [svo hin]
   exact r4.turn (fun g ho hg=>hgrow.block _ (r4.lt ho hg).2 fun e=>(hfar _ e.symm).2.2 id b q (oldb hi hin) hq ho hg) fun p hp=>hbel.cell hp
 ·by_cases hin:id=nid
  ·subst hin
   have:=newb hi;subst this
   simp only [rowBox,Option.some.injEq] at hq
   subst hq
   rw [svn]
   intro e
   exact (far _ ho e).1 id' b' (own' hi' hbo) hbo rfl
  ·rw [svo hin]
   exact h.rbox id b q (oldb hi hin) hq ho id' b' (own' hi' hbo) hbo
 ·by_cases hin:id=nid
  ·have hin':id'≠nid:=fun e=>hd (hin.trans e.symm)
   subst hin
   have:=newb hi;subst this
   simp only [rowBox,Option.some.injEq] at hq
   subst hq
   rw [svn,svo hin']
   cases hvb:v.ownBlock with
   | none=>exact .inl rfl
   | some g=>exact .inr ((far g ho hvb).2 id' b' q' (oldb hi' hin') hq' ho')
  ·by_cases hin':id'=nid
   ·subst hin'
    have:=newb hi';subst this
    simp only [rowBox,Option.some.injEq] at hq'
    subst hq'
    rw [svn,svo hin]
    cases hsb:(m.sv id).ownBlock with
    | none=>exact .inl rfl
    | some g=>exact .inr fun e=>(far g ho' e).2 id b q (oldb hi hin) hq ho hsb
   ·rw [svo hin,svo hin']
    exact h.rsep id b q id' b' q' (oldb hi hin) hq (oldb hi' hin') hq' ho ho' hd
theorem below_grown {w w':World} (h:Below w.heap.size w w'):w.grownBy w' none:=⟨h.os,h.tape,h.output,h.size,fun k hk _=>h.block k hk⟩
theorem Rep.newRow (h:Rep w0 m Y a w) {nid:Nat} (hn:Y.boxes[nid]?=some none) (hb:Below w.heap.size w w')
  {r:Row} {v:Value} (hx:r.x.wf Y.nv m.env) (hx0:r.x0.wf Y.nv m.env) (hlen:(dec (r.x0.ev m.env)).length=(dec (r.x.ev m.env)).length) (hat:RowAt w0 w' r v (dec (r.x.ev m.env)))
  (hv:∀ g,r.own=true->v.ownBlock=some g->w.heap.size<=g) :
  Rep w0 (m.row nid v) (Y.setBox nid (rowBox r)) a w'/\MExt m Y.nv Y.al (m.row nid v) Y.nv (Y.setBox nid (rowBox r)).al :=
 h.rowIn hn (below_grown hb) (fun k e=>by cases e) hx hx0 hlen hat fun g ho hg=>.inr (hv g ho hg)
end
theorem RoRow.up {w0 w:World} {k:LK} {v:Value} {l:List Int} (h:RoRow w0 w0 k v l) (hb:Below w0.heap.size w0 w):RoRow w w k v l:=by
 rcases h with h | ⟨ad,cap,h1,h2,h3,h4⟩
 ·exact .inl h
 ·rcases h2 with h2 | h2
  ·exact .inr ⟨ad,cap,h1,.inl h2,h3,fun j u hj=>by rw [h2] at hj;simp [flat] at hj⟩
  ·exact .inr ⟨ad,cap,h1,.inr (Nat.lt_of_lt_of_le h2 hb.size),h3,fun j u hj=>by rw [hb.cell (p:=ad.add j) (by rw [add_block];exact h2)];exact h4 j u hj⟩
theorem RoLol.up {w0 w:World} {v:Value} {l:List Int} (h:RoLol w0 v l) (hb:Below w0.heap.size w0 w):RoLol w v l:=by
 refine ⟨h.1,?_⟩
 rcases h.2 with h | ⟨ad,cap,h1,h2,h3,h4⟩
 ·exact .inl h
 ·refine .inr ⟨ad,cap,h1,Nat.lt_of_lt_of_le h2 hb.size,h3,fun j x hj=>?_⟩
  obtain ⟨u,k1,k2⟩:=h4 j x hj
  exact ⟨u,by rw [hb.cell (p:=ad.add j) (by rw [add_block];exact h2)];exact k1,k2.up hb⟩
section
variable {P:Program} {w:World}
theorem run_isAgg {t:TypeId} {d:TypeDesc} (h:P.underlying t=some d):(isAgg t).run P w=.ok (isAggB d) w:=by
 cases d <;> simp [isAgg,run_underlying h,isAggB]
theorem run_typeInfo {t:TypeId} {i:TypeInfo} (h:P.info? t=some i):(typeInfo t).run P w=.ok i w:=by simp [typeInfo,h]
theorem run_sizeOf {t:TypeId} {n:Nat} (h:szOf P t=some n):(sizeOf t).run P w=.ok n w:=by
 unfold szOf at h
 cases hi:P.info? t with
 | none=>simp [hi] at h
 | some i=>simp [hi] at h;simp [sizeOf,run_typeInfo hi,h]
theorem run_zeroValue {t:TypeId} {i:TypeInfo} {z:Value} (h:P.info? t=some i) (hz:i.zero=some z):(zeroValue t).run P w=.ok z w:=by
 simp [zeroValue,run_typeInfo h,hz]
theorem run_loadVar_agg {t:TypeId} {d:TypeDesc} (h:P.underlying t=some d) (ha:isAggB d=true) {ad:Addr} {vs:List Value} (hs:szOf P t=some vs.length)
  (hc:∀ (j:Nat) v,vs[j]?=some v->w.cell? (ad.add j)=some v):(loadVar t ad).run P w=.ok (.agg vs.toArray) w:=by
 simp [loadVar,run_isAgg h,ha,run_sizeOf hs,run_loadCells_list w ad vs hc]
theorem run_loadVar_one {t:TypeId} {d:TypeDesc} (h:P.underlying t=some d) (ha:isAggB d=false) {ad:Addr} {v:Value} (hc:w.cell? ad=some v) :
  (loadVar t ad).run P w=.ok v w:=by
 simp [loadVar,run_isAgg h,ha,hc]
end
section
variable {P:Program} {T:List K} {w0:World} {m:M} {Y:St} {a:Act} {w:World}
theorem at_add (m:M) (id off j:Nat):(m.at id off).add j=m.at id (off+j):=by
 unfold Addr.add M.at
 split
 ·rename_i h;subst h;rfl
 ·simp [Nat.add_assoc]
theorem Rep.read (h:Rep w0 m Y a w) {id:Nat} {b:Box} (hb:Y.box id=some b):∀ (j:Nat) (c:C),b.cells[j]?=some c->∃ v,w.cell? (m.at id j)=some v/\c.rel m Y.nv Y.al v:=by
 intro j c hj
 have hb':Y.boxes[id]?=some (some b):=by
  rw [St.box_def] at hb
  split at hb
  ·cases hb;assumption
  ·cases hb
 cases ho:b.own with
 | true =>
  obtain ⟨hz,_,vs,hv,hr⟩:=h.own id b hb' ho
  obtain ⟨v,h1,h2⟩:=hr.get j c hj
  exact ⟨v,by simp [World.cell?,M.at,hv,hz,h1],h2⟩
 | false =>
  rcases h.ro id b hb' ho with h0 | ⟨_,h2⟩
  ·rw [h0] at hj;simp at hj
  ·exact h2 j c hj
theorem box_some {id:Nat} {b:Box} (hb:Y.box id=some b):Y.boxes[id]?=some (some b):=by
 rw [St.box_def] at hb
 split at hb
 ·cases hb;assumption
 ·cases hb
theorem row_box {id:Nat} {r:Row} (hr:Y.row id=some r):∃ b,Y.boxes[id]?=some (some b)/\b.row=some r:=by
 unfold St.row at hr
 split at hr
 ·exact ⟨_,box_some ‹_›,hr⟩
 ·cases hr
theorem Rep.row_ok (h:Rep w0 m Y a w) {id:Nat} {r:Row} (hr:Y.row id=some r):Y.al id=true/\r.x.wf Y.nv m.env/\r.x0.wf Y.nv m.env/\(dec (r.x0.ev m.env)).length=(dec (r.x.ev m.env)).length/\RowAt w0 w r (m.sv id) (dec (r.x.ev m.env)):=by
 obtain ⟨b,h1,h2⟩:=row_box hr
 exact ⟨al_iff.2 ⟨b,h1⟩,h.rows id b r h1 h2⟩
theorem RowAt.form {r:Row} {v:Value} {l:List Int} (h:RowAt w0 w r v l):(v=.slice none 0 0/\l=[])∨∃ ad cap,v=.slice (some ad) l.length cap/\l.length<=cap:=by
 have h3:=h.2.1
 split at h3
 ·rcases h3.2 with ⟨hv,hn⟩ | ⟨g,cap,cur,hv,_,_,hc,_⟩
  ·exact .inl ⟨hv,List.eq_nil_of_length_eq_zero hn⟩
  ·exact .inr ⟨_,cap,hv,hc⟩
 ·rcases h3 with ⟨hv,hn⟩ | ⟨ad,cap,hv,_,hc,_⟩
  ·exact .inl ⟨hv,hn⟩
  ·exact .inr ⟨_,cap,hv,hc⟩
theorem RowAt.len {r:Row} {v:Value} {l:List Int} (h:RowAt w0 w r v l):∃ b cap,v=.slice b l.length cap:=by
 rcases h.form with ⟨hv,hl⟩ | ⟨ad,cap,hv,_⟩
 ·exact ⟨none,0,by rw [hv,hl];rfl⟩
 ·exact ⟨_,cap,hv⟩
theorem RowAt.lenV {r:Row} {v:Value} {l:List Int} (h:RowAt w0 w r v l):lenV v=l.length:=by
 obtain ⟨b,cap,hv⟩:=h.len
 rw [hv];rfl
theorem RowAt.one {r:Row} {v:Value} {l:List Int} (h:RowAt w0 w r v l):v.oneCell'=true:=by
 obtain ⟨b,cap,hv⟩:=h.len
 rw [hv];rfl
theorem RowAt.here {r:Row} {v:Value} {l:List Int} (h:RowAt w0 w r v l) (hl:0<l.length):∃ ad cap,v=.slice (some ad) l.length cap:=by
 rcases h.form with ⟨_,hn⟩ | ⟨ad,cap,hv,_⟩
 ·subst hn;simp at hl
 ·exact ⟨ad,cap,hv⟩
theorem add_zero_ (ad:Addr):ad.add 0=ad:=by
 unfold Addr.add
 split <;> simp_all
theorem subV_zero (s:Nat) (b:Option Addr) (n c h:Nat):subV s (.slice b n c) 0 h=.slice b h c:=by
 cases b with
 | none=>simp [subV]
 | some ad=>simp [subV,add_zero_]
theorem addr0 (g j:Nat):(⟨g,0,none⟩:Addr).add j=⟨g,j,none⟩:=by
 unfold Addr.add;split <;> simp_all
theorem RowAt.ro {r:Row} {v:Value} {l:List Int} (h:RowAt w0 w r v l) (hs:w0.heap.size<=w.heap.size):RoRow w w r.k v l:=by
 have h3:=h.2.1
 split at h3
 ·rcases h3.2 with ⟨hv,hn⟩ | ⟨g,cap,cur,hv,hb,hg,hc1,hc2,hc3,hc4⟩
  ·exact .inl ⟨hv,by cases l with | nil=>rfl | cons x l=>simp at hn⟩
  ·refine .inr ⟨⟨g,0,none⟩,cap,hv,.inr (Array.getElem?_eq_some_iff.1 hg).1,hc1,fun j u hj=>?_⟩
   rw [addr0]
   rw [<- hc4,List.getElem?_take] at hj
   split at hj
   ·simp only [World.cell?,hg]
    simpa using hj
   ·cases hj
 ·rcases h3 with h3 | ⟨ad,cap,k1,k2,k3,k4⟩
  ·exact .inl h3
  ·exact .inr ⟨ad,cap,k1,k2.imp id (fun k2=>Nat.lt_of_lt_of_le k2 hs),k3,k4⟩
theorem LL.vals_len (l:LL) (x:Int):(l.vals x).length=l.sz:=by cases l <;> rfl
theorem llVals_len:∀ (ls:List LL) (xs:List Int),(llVals ls xs).length=llSz ls
 | [],_=>rfl
 | l::ls,xs=>by simp only [llVals,llSz,List.length_append,LL.vals_len,llVals_len ls]
theorem vals_len (k:LK) (x:Int):(k.vals x).length=k.sz:=by
 cases k with
 | num=>rfl
 | int k=>rfl
 | tup l ls=>exact llVals_len (l::ls) _
 | byt=>rfl
theorem flat_len (k:LK):∀ (l:List Int),(flat k l).length=l.length*k.sz
 | []=>by simp [flat]
 | x::l=>by
  have:=flat_len k l
  simp only [flat] at this
  simp only [flat,List.flatMap_cons,List.length_append,vals_len,this,List.length_cons,Nat.add_mul,Nat.one_mul]
  omega
theorem flat_get (k:LK):∀ (l:List Int) (i:Nat) (hi:i<l.length) (j:Nat),j<k.sz->(flat k l)[i*k.sz+j]?=(k.vals (l.getD i 0))[j]?
 | x::l,0,_,j,hj=>by
  simp only [flat,List.flatMap_cons,Nat.zero_mul,Nat.zero_add]
  rw [List.getElem?_append_left (by rw [vals_len];exact hj)]
  simp
 | x::l,i+1,hi,j,hj=>by
  have:=flat_get k l i (by simpa using hi) j hj
  simp only [flat] at this
  simp only [flat,List.flatMap_cons]
  rw [List.getElem?_append_right (by rw [vals_len,Nat.add_mul];omega),vals_len]
  rw [show (i+1)*k.sz+j-k.sz=i*k.sz+j by rw [Nat.add_mul];omega,this]
  simp
theorem add_add (ad:Addr) (x y:Nat):(ad.add x).add y=ad.add (x+y):=by
 unfold Addr.add
 repeat' split
 all_goals simp_all [Nat.add_assoc]
theorem flat_take (k:LK):∀ (l:List Int) (n:Nat),flat k (l.take n)=(flat k l).take (n*k.sz)
 | [],n=>by simp [flat]
 | x::l,0=>by simp [flat]
 | x::l,n+1=>by
  have:=flat_take k l n
  simp only [flat] at this
  simp only [flat,List.take_succ_cons,List.flatMap_cons,this]
  rw [List.take_append,List.take_of_length_le (l:=k.vals x) (by rw [vals_len,Nat.add_mul];omega),vals_len]
  congr 2
  rw [Nat.add_mul];omega
theorem flat_drop (k:LK):∀ (l:List Int) (n:Nat),flat k (l.drop n)=(flat k l).drop (n*k.sz)
 | [],n=>by simp [flat]
 | x::l,0=>by simp [flat]
 | x::l,n+1=>by
  have:=flat_drop k l n
  simp only [flat] at this
  simp only [flat,List.drop_succ_cons,List.flatMap_cons,this]
  rw [List.drop_append,List.drop_of_length_le (l:=k.vals x) (by rw [vals_len,Nat.add_mul];omega),vals_len,List.nil_append]
  congr 1
  rw [Nat.add_mul];omega
theorem RoRow.part {k:LK} {v:Value} {l:List Int} (h:RoRow w0 w k v l) {lo hi:Nat} (h1:lo<=hi) (h2:hi<=l.length):RoRow w0 w k (subV k.sz v lo hi) ((l.take hi).drop lo):=by
 rcases h with ⟨hv,hl⟩ | ⟨ad,cap,hv,hb,hc,hcell⟩
 ·subst hl
  have e1:hi=0:=by simpa using h2
  have e2:lo=0:=by omega
  subst e1 e2
  exact .inl ⟨by rw [hv];rfl,by simp⟩
 ·refine .inr ⟨if cap=lo then ad else ad.add (lo*k.sz),cap-lo,?_,?_,?_,fun j u hj=>?_⟩
  ·rw [hv]
   simp only [subV,List.length_drop,List.length_take,Nat.min_eq_left h2,Option.map_some]
   split <;> rfl
  ·rcases hb with hb | hb
   ·exact .inl (by rw [hb];simp)
   ·right
    split
    ·exact hb
    ·rw [add_block];exact hb
  ·simp only [List.length_drop,List.length_take,Nat.min_eq_left h2];omega
  ·rw [flat_drop,flat_take,List.getElem?_drop,List.getElem?_take] at hj
   split at hj
   ·have hne:¬ cap=lo:=by
     intro e
     have h3:lo*k.sz+j<hi*k.sz:=‹_›
     have:hi=lo:=by omega
     rw [this] at h3;omega
    rw [if_neg hne,add_add]
    exact hcell _ _ hj
   ·cases hj
theorem RoRow.view {k:LK} {v u:Value} {l:List Int} (h:RoRow w0 w k v l) {lo hi:Nat} (h1:lo<=hi) (h2:hi<=l.length) (hu:isView k.sz v lo hi u):RoRow w0 w k u ((l.take hi).drop lo):=by
 rcases hu with rfl | ⟨h3,h4,ad,n,d,h5,h6⟩
 ·exact h.part h1 h2
 ·subst h4
  have hl:(l.take hi).drop hi=[]:=by simp
  rw [hl]
  rcases h with ⟨hv,_⟩ | ⟨ad',cap,hv,hb,hc,_⟩
  ·rw [hv] at h5;cases h5
  ·rw [hv] at h5
   cases h5
   exact .inr ⟨ad.add d,0,h6,.inl rfl,Nat.le_refl _,fun j u hj=>by simp [flat] at hj⟩
theorem view_sub {s:Nat} {b:Option Addr} {n0 cap lo hi x0 x1:Nat} {v:Value} (hb:b=none->cap=0) (hn:n0<=cap) (h1:lo<=hi) (h2:hi<=n0) (hv:isView s (.slice b n0 cap) lo hi v) (h3:x0<=x1) (h4:lo+x1<=n0) :
  (∃ b',v=.slice b' (hi-lo) (cap-lo))/\isView s (.slice b n0 cap) (lo+x0) (lo+x1) (subV s v x0 x1):=by
 rcases hv with rfl | ⟨k1,k2,ad,n,d,k3,rfl⟩
 ·refine ⟨⟨_,rfl⟩,?_⟩
  simp only [subV]
  have e1:lo+x1-(lo+x0)=x1-x0:=by omega
  have e2:cap-(lo+x0)=cap-lo-x0:=by omega
  by_cases hc:cap=lo
  ·have hx:x0=0:=by omega
   subst hx
   left
   simp only [subV,hc,Nat.sub_self,Nat.add_zero,if_true,e1,Nat.sub_zero]
   have:lo+x1-lo=x1:=by omega
   rw [this]
  ·cases b with
   | none=>have:=hb rfl;omega
   | some ad =>
    by_cases hc2:cap-lo=x0
    ·right
     refine ⟨by omega,by omega,ad,n0,lo*s,by congr 1;omega,?_⟩
     rw [if_pos hc2,if_neg hc]
     have e3:x1-x0=0:=by omega
     have e4:cap-lo-x0=0:=by omega
     rw [e3,e4];rfl
    ·left
     have hc3:¬ cap=lo+x0:=by omega
     simp only [subV,if_neg hc,if_neg hc2,if_neg hc3,e1,e2,Option.map_some,add_add,Nat.add_mul]
 ·cases k3
  have hx0:x0=0:=by omega
  have hx1:x1=0:=by omega
  subst hx0 hx1
  refine ⟨⟨some (ad.add d),by congr 1 <;> omega⟩,.inr ⟨by omega,rfl,ad,n0,d,by congr 1,?_⟩⟩
  simp [subV]
theorem sub_one {s:Nat} {v:Value} {lo hi:Nat} (h:v.oneCell'=true):(subV s v lo hi).oneCell'=true:=by
 unfold subV;split
 ·rfl
 ·exact h
theorem RowAt.cell {r:Row} {v:Value} {l:List Int} (h:RowAt w0 w r v l) {i j:Nat} {u:Value} (hi:i<l.length) (hj:(r.k.vals (l.getD i 0))[j]?=some u):w.cell? (((slAt v).add (i*r.k.sz)).add j)=some u:=by
 have hjl:j<r.k.sz:=by rw [<- vals_len r.k (l.getD i 0)];exact (List.getElem?_eq_some_iff.1 hj).1
 have hf:=flat_get r.k l i hi j hjl
 rw [hj] at hf
 rw [add_add]
 have h3:=h.2.1
 split at h3
 ·rcases h3.2 with ⟨hv,hn⟩ | ⟨g,cap,cur,hv,hb,hg,hc1,hc2,hc3,hc4⟩
  ·omega
  ·rw [hv]
   have hz:(cur.toList.take (l.length*r.k.sz))[i*r.k.sz+j]?=some u:=by rw [hc4];exact hf
   rw [List.getElem?_take] at hz
   split at hz
   ·simp only [slAt]
    have:(⟨g,0,none⟩:Addr).add (i*r.k.sz+j)=⟨g,i*r.k.sz+j,none⟩:=by
     unfold Addr.add;split <;> simp_all
    rw [this]
    simp only [World.cell?,hg]
    simpa using hz
   ·cases hz
 ·rcases h3 with ⟨hv,hn⟩ | ⟨ad,cap,hv,_,_,hc⟩
  ·subst hn;simp at hi
  ·rw [hv];exact hc _ _ hf
theorem Rep.reads (h:Rep w0 m Y a w) {id:Nat} {b:Box} (hb:Y.box id=some b) (off n:Nat) (hn:n<=(b.cells.drop off).length) :
  ∃ vs:List Value,vs.length=n/\Rels m Y.nv Y.al ((b.cells.drop off).take n) vs/\∀ (j:Nat) v,vs[j]?=some v->w.cell? ((m.at id off).add j)=some v:=by
 have key:∀ n,n<=(b.cells.drop off).length->∃ vs:List Value,vs.length=n/\Rels m Y.nv Y.al ((b.cells.drop off).take n) vs/\∀ (j:Nat) v,vs[j]?=some v->w.cell? ((m.at id off).add j)=some v:=by
  intro n
  induction n with
  | zero=>intro _;exact ⟨[],rfl,by simp [Rels],by simp⟩
  | succ n ih =>
   intro hn
   obtain ⟨vs,hl,hr,hv⟩:=ih (by omega)
   have hlt:n<(b.cells.drop off).length:=by omega
   have hg:b.cells[off+n]?=some ((b.cells.drop off)[n]):=by
    have:=List.getElem?_eq_getElem hlt
    rw [List.getElem?_drop] at this
    exact this
   obtain ⟨v,h1,h2⟩:=h.read hb _ _ hg
   refine ⟨vs++[v],by simp [hl],?_,?_⟩
   ·rw [List.take_succ_eq_append_getElem hlt]
    exact hr.append ⟨h2,trivial⟩
   ·intro j u hj
    by_cases hjn:j<vs.length
    ·rw [List.getElem?_append_left hjn] at hj;exact hv j u hj
    ·rw [List.getElem?_append_right (by omega)] at hj
     have:j=n:=by
      by_cases h0:j-vs.length=0
      ·omega
      ·rw [List.getElem?_eq_none (by simp;omega)] at hj;cases hj
     subst this
     have h0:j-vs.length=0:=by omega
     simp [h0] at hj
     subst hj
     rw [at_add];exact h1
 exact key n hn
def DefsOk (T:List K) (e:Nat->Int) (nv nn:Nat) (ds:Defs):Prop :=
 nn+ds.length<=nv/\∀ (i:Nat) kk d,ds[i]?=some (kk,d)->e (nn+i)=d.ev T e/\kk.has (e (nn+i))
theorem litD_ev {d:D} {n:Int} (h:litD d=some n) (e:Nat->Int):d.ev T e=n:=by
 unfold litD at h
 split at h
 ·cases h;rfl
 ·cases h;rfl
 ·cases h;rfl
 ·cases h;rfl
 ·rename_i l
  split at h
  ·rename_i bs hb
   cases h
   have:∀ (l:List (A×A)) (bs:List Bool),mapO (fun p:A×A=>match p with | (.lit a,.lit b)=>some (a==b) | _=>none) l=some bs->(l.all fun p=>p.1.ev e==p.2.ev e)=bs.all id:=by
    intro l
    induction l with
    | nil=>intro bs h;simp [mapO] at h;subst h;rfl
    | cons p l ih =>
     intro bs h
     unfold mapO at h
     split at h
     ·cases h
     ·rename_i y hy
      split at h
      ·cases h
      ·rename_i ys hys
       cases h
       simp only [List.all_cons,ih ys hys]
       congr 1
       split at hy
       ·cases hy;rfl
       ·cases hy
   simp only [D.ev,this l bs hb]
  ·cases h
 ·cases h
theorem mk_ok {e:Nat->Int} {nv nn:Nat} {kk:KK} {d:D} (h:DefsOk T e nv nn (mk nn kk d).1):(mk nn kk d).2.wf nv e/\(mk nn kk d).2.ev e=d.ev T e:=by
 unfold mk at *
 cases hl:litD d with
 | some n=>exact ⟨⟨trivial,trivial⟩,(litD_ev hl e).symm⟩
 | none =>
  simp only [hl] at h
  have h1:=h.2 0 kk d rfl
  refine ⟨⟨?_,trivial⟩,h1.1⟩
  have:=h.1
  simp only [List.length_cons,List.length_nil] at this
  show nn<nv
  omega
theorem emod_bd (a b:Int) (h:0<=a):0<=a%b/\a%b<=a:=by
 rcases Int.lt_trichotomy b 0 with h2 | h2 | h2
 ·have h3:=Int.emod_nonneg a (show b≠0 by omega)
  have h4:=Int.emod_def a (-b)
  have h5:0<=(-b)*(a/(-b)):=Int.mul_nonneg (by omega) (Int.ediv_nonneg h (by omega))
  rw [Int.emod_neg] at h4
  omega
 ·subst h2;simp [h]
 ·have h3:=Int.emod_nonneg a (show b≠0 by omega)
  have h4:=Int.emod_def a b
  have h5:0<=b*(a/b):=Int.mul_nonneg (by omega) (Int.ediv_nonneg h (by omega))
  omega
theorem binE_has {op:BinOp} {k:IntKind} {a b:Int} (ha:has k a):has k (binE op k a b):=by
 cases op <;> simp only [binE] <;> first | exact wr_has _ _ | skip
 case rem =>
  have h1:a.tmod b<=(if 0<=a then a else 0)/\(if 0<=a then 0 else a)<=a.tmod b:=by
   split
   ·rename_i h
    rw [Int.tmod_eq_emod_of_nonneg h]
    have:=emod_bd a b h
    omega
   ·rename_i h
    have h3:=Int.neg_tmod (a:=-a) (b:=b)
    rw [Int.neg_neg] at h3
    rw [h3,Int.tmod_eq_emod_of_nonneg (by omega)]
    have:=emod_bd (-a) b (by omega)
    omega
  obtain ⟨h1,h2⟩:=h1
  have h0:lo k<=0/\0<=hi k:=by cases k <;> simp [lo,hi]
  simp only [has] at *
  split at h1 <;> split at h2 <;> omega
 case shr =>
  have hp:0<((2^min b.toNat k.bits:Nat):Int):=by exact_mod_cast Nat.two_pow_pos _
  rw [Int.fdiv_eq_ediv_of_nonneg _ (Int.le_of_lt hp)]
  have h0:lo k<=0/\0<=hi k:=by cases k <;> simp [lo,hi]
  rcases Int.lt_or_le a 0 with h | h
  ·have h1:a<=a/((2^min b.toNat k.bits:Nat):Int):=by
    rw [Int.le_ediv_iff_mul_le hp]
    have:a*((2^min b.toNat k.bits:Nat):Int)<=a*1:=Int.mul_le_mul_of_nonpos_left (by omega) (by omega)
    omega
   have h2:=Int.ediv_neg_of_neg_of_pos h hp
   simp only [has] at *;omega
  ·have h1:=Int.ediv_nonneg h (Int.le_of_lt hp)
   have h2:=Int.ediv_le_self ((2^min b.toNat k.bits:Nat):Int) h
   simp only [has] at *;omega
 all_goals (cases k <;> simp [has,lo,hi])
end
def PureOk (P:Program) (m:M) (Y:St) (a:Act) (w:World) (o:Oper) (s:SV):Prop :=
 ∃ v,(execOp a.eval o).run P w=.ok (.value v) w/\s.rel m Y.nv Y.al v
section
variable {P:Program} {T:List K} {w0:World} {m:M} {Y:St} {a:Act} {w:World} {o:Oper} {nn nid:Nat} {p:Plan}
theorem pure_move {x:Operand} (h:Rep w0 m Y a w) (ho:o.op=.move x∨o.op=.assign x) (hp:plan P T Y nn nid o.op=.ok p):PureOk P m Y a w o p.val:=by
 rcases ho with ho | ho <;> rw [ho] at hp <;> simp only [plan] at hp <;> split at hp <;> cases hp <;> rename_i s hs <;>
  exact ⟨a.eval x,by simp [execOp,ho],h.val hs⟩
theorem pure_pick {c x y:Operand} (h:Rep w0 m Y a w) (ho:o.op=.pick c x y) (hp:plan P T Y nn nid o.op=.ok p):PureOk P m Y a w o p.val:=by
 rw [ho] at hp
 simp only [plan] at hp
 split at hp
 ·rename_i t ht
  have h1:=h.cell ht
  split at hp
  ·rename_i hr
   have h2:=h.truth.1 hr
   have hb:a.eval c=.bool true:=by rw [h1.2.2];simp [h2]
   split at hp
   ·rename_i s hs
    cases hp
    exact ⟨a.eval x,by simp [execOp,ho,hb,asBool],h.val hs⟩
   ·cases hp
  ·rename_i hr
   have h2:=h.truth.2 hr
   have hb:a.eval c=.bool false:=by rw [h1.2.2];simp [h2]
   split at hp
   ·rename_i s hs
    cases hp
    exact ⟨a.eval y,by simp [execOp,ho,hb,asBool],h.val hs⟩
   ·cases hp
  ·cases hp
  ·cases hp
 ·cases hp
theorem kind_ok {a b:IntKind} (h:(a==b)=true):a=b:=by
 cases a <;> cases b <;> first | rfl | cases h
theorem eqA_ok {a b:A} (h:eqA a b=true):a=b:=by
 cases a <;> cases b <;> simp [eqA] at h <;> simp [h]
theorem LLeq_ok {a b:LL} (h:a.eq b=true):a=b:=by
 cases a <;> cases b <;> first | rfl | (cases h;done) | (simp only [LL.eq] at h;rw [kind_ok h])
theorem llEq_ok:∀ {as bs:List LL},llEq as bs=true->as=bs
 | [],[],_=>rfl
 | [],_::_,h=>by cases h
 | _::_,[],h=>by cases h
 | a::as,b::bs,h=>by
  simp only [llEq,Bool.and_eq_true] at h
  rw [LLeq_ok h.1,llEq_ok h.2]
theorem LKeq_ok {a b:LK} (h:a.eq b=true):a=b:=by
 cases a <;> cases b <;> first | rfl | (cases h;done) | (simp only [LK.eq] at h;rw [kind_ok h]) | (simp only [LK.eq,Bool.and_eq_true] at h;rw [LLeq_ok h.1,llEq_ok h.2])
theorem limb_rels {m:M} {nv nn:Nat} {al:Nat->Bool} {x:Int} (hx:m.env nn=x) (h0:0<=x) (h1:x<N384) (hn:nn<nv) :
  Rels m nv al [C.int .u64 (.limb nn 0),.int .u64 (.limb nn 1),.int .u64 (.limb nn 2),.int .u64 (.limb nn 3),.int .u64 (.limb nn 4),.int .u64 (.limb nn 5)] (limbs x):=by
 have one:∀ j,C.rel m nv al (.int .u64 (.limb nn j)) (.int .u64 (x/p64 j%18446744073709551616)):=fun j=>by
  refine ⟨⟨hn,by show 0<=m.env nn/\m.env nn<N384;rw [hx];exact ⟨h0,h1⟩⟩,?_,?_⟩
  ·simp only [A.ev,has,lo,hi];omega
  ·simp only [A.ev,hx]
 exact ⟨one 0,one 1,one 2,one 3,one 4,one 5,trivial⟩
theorem intA_ok {k:IntKind}:∀ (cs:List C) (as:List A),mapO (intA k) cs=some as->cs=as.map (.int k)
 | [],as,h=>by simp [mapO] at h;subst h;rfl
 | c::cs,as,h=>by
  unfold mapO at h
  split at h
  ·cases h
  ·rename_i y hy
   split at h
   ·cases h
   ·rename_i ys hys
    cases h
    unfold intA at hy
    split at hy
    ·split at hy
     ·rename_i k' a hk
      cases hy
      rw [List.map_cons,<- intA_ok cs ys hys]
      congr 2
      cases k <;> cases k' <;> first | rfl | (exact absurd hk (by decide))
     ·cases hy
    ·cases hy
theorem intsOf_ok {cs:List C} {r:IntKind×List A} (h:intsOf cs=some r):cs=r.2.map (.int r.1):=by
 unfold intsOf at h
 split at h
 ·rename_i k x r'
  cases hm:mapO (intA k) (C.int k x::r') with
  | none=>rw [hm] at h;cases h
  | some as=>rw [hm] at h;cases h;exact intA_ok _ _ hm
 ·cases h
theorem sel_ok {k:IntKind} {as:List A} {nv:Nat} {al:Nat->Bool} {vs:List Value} {m:M} (h:Rels m nv al (as.map (.int k)) vs) {i:Nat} (hi:i<as.length) :
  has k ((as.map (·.ev m.env)).getD i 0)/\vs[i]?=some (.int k ((as.map (·.ev m.env)).getD i 0)):=by
 obtain ⟨v,h1,h2⟩:=h.get i (.int k as[i]) (by simp [hi])
 have:(as.map (·.ev m.env)).getD i 0=as[i].ev m.env:=by simp [List.getD_eq_getElem?_getD,hi]
 rw [this,h1,h2.2.2]
 exact ⟨h2.2.1,rfl⟩
theorem range_ok {m:M} {nv nn len:Nat} {a:A} {ds:Defs} (hd:DefsOk T m.env nv nn (inRange a len++ds)) (hz:∀ x∈[A.var nn,A.var (nn+1)],x.ev m.env≠0):0<=a.ev m.env/\a.ev m.env<(len:Int):=by
 have h0:m.env nn=b2i (decide (0<=a.ev m.env)):=(hd.2 0 _ _ rfl).1
 have h1:m.env (nn+1)=b2i (decide (a.ev m.env<(len:Int))):=(hd.2 1 _ _ rfl).1
 have z0:m.env nn≠0:=hz (.var nn) (by simp)
 have z1:m.env (nn+1)≠0:=hz (.var (nn+1)) (by simp)
 rw [h0] at z0
 rw [h1] at z1
 constructor
 ·by_cases hc:0<=a.ev m.env
  ·exact hc
  ·simp [hc,b2i] at z0
 ·by_cases hc:a.ev m.env<(len:Int)
  ·exact hc
  ·simp [hc,b2i] at z1
theorem tupDs_get (z:A):∀ (ls:List LL) (j i:Nat),(tupDs z j ls)[i]?=(ls[i]?).map fun l=>(l.kk,.lget z (.lit ((j+i:Nat):Int)))
 | [],j,i=>by simp [tupDs]
 | l::ls,j,0=>by simp [tupDs]
 | l::ls,j,i+1=>by
  simp only [tupDs,List.getElem?_cons_succ]
  rw [tupDs_get z ls (j+1) i,show j+1+i=j+(i+1) by omega]
theorem tupDs_len (z:A):∀ (ls:List LL) (j:Nat),(tupDs z j ls).length=ls.length
 | [],_=>rfl
 | _::ls,j=>by simp only [tupDs,List.length_cons,tupDs_len z ls (j+1)]
theorem LL.rels {m:M} {nv:Nat} {al:Nat->Bool} (l:LL) {n:Nat} (hn:n<nv) (hk:l.kk.has (m.env n)):Rels m nv al (l.cells n) (l.vals (m.env n)):=by
 cases l with
 | num=>exact limb_rels rfl hk.1 hk.2 hn
 | int k=>exact ⟨⟨⟨hn,trivial⟩,hk,rfl⟩,trivial⟩
 | bit=>exact ⟨⟨⟨hn,trivial⟩,hk,rfl⟩,trivial⟩
theorem Rels_app {m:M} {nv:Nat} {al:Nat->Bool}:∀ {cs:List C} {vs:List Value} {cs':List C} {vs':List Value},Rels m nv al cs vs->Rels m nv al cs' vs'->Rels m nv al (cs++cs') (vs++vs')
 | [],[],_,_,_,h=>h
 | [],_::_,_,_,h,_=>h.elim
 | _::_,[],_,_,h,_=>h.elim
 | _::_,_::_,_,_,h,h'=>⟨h.1,Rels_app h.2 h'⟩
theorem tup_rels {m:M} {nv:Nat} {al:Nat->Bool} {zs:List Int}:∀ (ls:List LL) (n j:Nat),n+ls.length<=nv->(∀ (i:Nat) l,ls[i]?=some l->m.env (n+i)=zs.getD (j+i) 0/\l.kk.has (m.env (n+i)))->Rels m nv al (tupCs n ls) (llVals ls (zs.drop j))
 | [],n,j,_,_=>trivial
 | l::ls,n,j,hn,h=>by
  have h0:=h 0 l rfl
  simp only [Nat.add_zero] at h0
  have e1:(zs.drop j).headD 0=m.env n:=by
   rw [h0.1,List.getD_eq_getElem?_getD,List.headD_eq_head?_getD,List.head?_drop]
  have e2:(zs.drop j).tail=zs.drop (j+1):=by rw [List.tail_drop]
  simp only [tupCs,llVals,e1,e2]
  refine Rels_app (LL.rels l (by simp only [List.length_cons] at hn;omega) h0.2) (tup_rels ls (n+1) (j+1) (by simp only [List.length_cons] at hn;omega) fun i l' hl'=>?_)
  have:=h (i+1) l' (by simpa using hl')
  rw [show n+1+i=n+(i+1) by omega,show j+1+i=j+(i+1) by omega]
  exact this
theorem DefsOk.snd {m:M} {nv nn:Nat} {ds:Defs} {kk:KK} {d:D} {i:Nat} (hd:DefsOk T m.env nv nn ds) (hi:ds[i]?=some (kk,d)):m.env (nn+i)=d.ev T m.env:=(hd.2 i kk d hi).1
theorem eltsFrom_ok {k:IntKind} {n:Nat}:∀ {as:List A} {j:Nat},eltsFrom k n j as=true->∀ (i:Nat) a,as[i]?=some a->a=.elt k n (j+i)
 | [],_,_,i,a,h=>by simp at h
 | b::r,j,hh,i,a,h=>by
  unfold eltsFrom at hh
  split at hh
  ·rename_i hc;cases hc
  ·rename_i k' m i' r' hc
   cases hc
   simp only [Bool.and_eq_true,beq_iff_eq] at hh
   obtain ⟨⟨⟨h1,h2⟩,h3⟩,h4⟩:=hh
   cases i with
   | zero=>simp at h;rw [<- h,h1,h2,h3];rfl
   | succ i =>
    have:=eltsFrom_ok h4 i a (by simpa using h)
    rw [this];congr 1;omega
  ·cases hh
theorem eltU_ok {k:IntKind} {as:List A} {n:Nat} (h:eltU k as=some n):0<as.length/\∀ (i:Nat) a,as[i]?=some a->a=.elt k n i:=by
 unfold eltU at h
 split at h
 ·split at h
  ·rename_i hh
   cases h
   exact ⟨by simp,fun i a hi=>by have:=eltsFrom_ok hh i a hi;simpa using this⟩
  ·cases h
 ·cases h
theorem elt_len {m:M} {nv:Nat} {al:Nat->Bool} {k:IntKind} {as:List A} {vs:List Value} {n:Nat} (h:eltU k as=some n) (hr:Rels m nv al (as.map (.int k)) vs):as.length<=(dec (m.env n)).length/\(∀ z∈dec (m.env n),has k z)/\n<nv:=by
 obtain ⟨h1,h2⟩:=eltU_ok h
 have hl:as.length-1<as.length:=by omega
 have h3:=h2 _ _ (List.getElem?_eq_getElem hl)
 obtain ⟨v,_,hv⟩:=hr.get (as.length-1) (.int k as[as.length-1]) (by simp [hl])
 rw [h3] at hv
 have hw:A.wf nv m.env (.elt k n (as.length-1)):=hv.1
 exact ⟨by have:=hw.2.2;omega,hw.2.1,hw.1⟩
theorem selD_ev {T:List K} {m:M} {nv:Nat} {al:Nat->Bool} {k:IntKind} {as:List A} {vs:List Value} (hr:Rels m nv al (as.map (.int k)) vs) (i:A) (hi:(i.ev m.env).toNat<as.length):(selD k i as).ev T m.env=(as.map (·.ev m.env)).getD (i.ev m.env).toNat 0:=by
 unfold selD
 cases h:eltU k as with
 | none=>rfl
 | some n =>
  obtain ⟨h1,h2⟩:=eltU_ok h
  have h3:=h2 _ _ (List.getElem?_eq_getElem hi)
  simp only [D.ev]
  generalize (i.ev m.env).toNat=z at hi h3
  simp only [List.getD_eq_getElem?_getD,List.getElem?_map,List.getElem?_eq_getElem hi,Option.map_some,Option.getD_some]
  rw [h3];simp only [A.ev,List.getD_eq_getElem?_getD]
theorem pure_load {t:TypeId} {x:Operand} (h:Rep w0 m Y a w) (ho:o.op=.load t x) (hp:plan P T Y nn nid o.op=.ok p) (hD:DefsOk T m.env Y.nv nn p.defs):PureOk P m Y a w o p.val:=by
 rw [ho] at hp
 simp only [plan] at hp
 split at hp
 ·rename_i id off hx
  have h1:=h.cell hx
  split at hp
  ·rename_i b d n hb hd hn
   split at hp
   ·rename_i ha
    split at hp
    ·cases hp
    ·rename_i hl
     cases hp
     obtain ⟨vs,hvl,hr,hv⟩:=h.reads hb off n (by omega)
     refine ⟨.agg vs.toArray,?_,vs,rfl,hr⟩
     simp only [execOp,ho,h1.2,Instr.loadAt,Instr.sureAddr]
     simp [run_loadVar_agg hd ha (by rw [hn,hvl]) hv]
   ·rename_i ha
    split at hp
    ·rename_i c hc
     cases hp
     obtain ⟨v,hv,hr⟩:=h.read hb _ _ hc
     refine ⟨v,?_,hr⟩
     simp only [execOp,ho,h1.2,Instr.loadAt,Instr.sureAddr]
     simp [run_loadVar_one hd (by simpa using ha) hv]
    ·cases hp
  ·cases hp
 ·rename_i id off i n hx
  have h1:=h.cell hx
  obtain ⟨h1a,h1b,h1c,h1d⟩:=h1
  split at hp
  ·rename_i b d hb hdt
   split at hp
   ·cases hp
   ·rename_i ha
    split at hp
    ·rename_i r hr
     split at hp
     ·rename_i hl
      cases hp
      have hcs:=intsOf_ok hr
      have hl':r.2.length=n:=by simpa using hl
      have hen:n<=(b.cells.drop off).length:=by
       have:=congrArg List.length hcs
       rw [List.length_map,hl',List.length_take] at this
       omega
      obtain ⟨vs,hvl,hrel,hv⟩:=h.reads hb off n hen
      rw [hcs] at hrel
      have hi:(i.ev m.env).toNat<r.2.length:=by omega
      obtain ⟨g1,g2⟩:=sel_ok hrel hi
      have he:=DefsOk.snd (i:=0) hD rfl
      rw [Nat.add_zero,selD_ev hrel i hi] at he
      refine ⟨.int r.1 ((r.2.map (·.ev m.env)).getD (i.ev m.env).toNat 0),?_,⟨⟨?_,trivial⟩,?_,?_⟩⟩
      ·have hc:=hv _ _ g2
       rw [at_add] at hc
       simp only [execOp,ho,h1d,Instr.loadAt,Instr.sureAddr]
       simp [run_loadVar_one hdt (by simpa using ha) hc]
      ·have:=hD.1;simp only [A.ok,List.length_cons,List.length_nil] at *;omega
      ·simp only [A.ev,he];exact g1
      ·simp only [A.ev,he]
     ·cases hp
    ·cases hp
  ·cases hp
 ·rename_i id i k hx
  obtain ⟨h1a,h1c,h1d,h1e⟩:=h.cell hx
  split at hp
  ·rename_i r d n hr hdt hn
   split at hp
   ·rename_i hc
    have e2:=LKeq_ok hc
    subst e2
    obtain ⟨q1,q2,_,_,q3⟩:=h.row_ok hr
    rw [q3.lenV] at h1d
    generalize hl:dec (A.ev m.env r.x)=l at h1d q3
    have hi:(i.ev m.env).toNat<l.length:=by omega
    unfold loadRow at hp
    split at hp
    ·rename_i hk
     split at hp
     ·rename_i hb
      simp only [Bool.and_eq_true,beq_iff_eq] at hb
      cases hp
      have he:=DefsOk.snd (i:=0) hD rfl
      simp only [Nat.add_zero,D.ev,hl] at he
      have hz:LK.num.has (l.getD (i.ev m.env).toNat 0):=by
       rw [<- hk]
       refine q3.1.2 _ ?_
       rw [List.getD_eq_getElem?_getD,List.getElem?_eq_getElem hi]
       exact List.getElem_mem hi
      refine ⟨.agg (limbs (l.getD (i.ev m.env).toNat 0)).toArray,?_,limbs (l.getD (i.ev m.env).toNat 0),rfl,limb_rels he hz.1 hz.2 ?_⟩
      ·simp only [execOp,ho,h1e,Instr.loadAt,Instr.sureAddr]
       simp [run_loadVar_agg hdt hb.1 (vs:=limbs (l.getD (i.ev m.env).toNat 0)) (by rw [hn,hb.2];rfl) (fun j v hv=>q3.cell hi (by rw [hk];exact hv))]
      ·have:=hD.1;simp only [List.length_cons,List.length_nil] at this;omega
     ·cases hp
    ·rename_i kk hk
     split at hp
     ·cases hp
     ·rename_i hb
      cases hp
      have he:=DefsOk.snd (i:=0) hD rfl
      simp only [Nat.add_zero,D.ev,hl] at he
      have hz:(LK.int kk).has (l.getD (i.ev m.env).toNat 0):=by
       rw [<- hk]
       refine q3.1.2 _ ?_
       rw [List.getD_eq_getElem?_getD,List.getElem?_eq_getElem hi]
       exact List.getElem_mem hi
      have hc:=q3.cell (i:=(i.ev m.env).toNat) (j:=0) (u:=.int kk (l.getD (i.ev m.env).toNat 0)) hi (by rw [hk];rfl)
      rw [add_zero_] at hc
      refine ⟨.int kk (l.getD (i.ev m.env).toNat 0),?_,⟨⟨?_,trivial⟩,?_,?_⟩⟩
      ·simp only [execOp,ho,h1e,Instr.loadAt,Instr.sureAddr]
       simp [run_loadVar_one hdt (by simpa using hb) hc]
      ·have:=hD.1;simp only [A.ok,List.length_cons,List.length_nil] at *;omega
      ·simp only [A.ev,he];exact hz
      ·simp only [A.ev,he]
    ·rename_i l0 ls hk
     split at hp
     ·rename_i hb
      simp only [Bool.and_eq_true,beq_iff_eq] at hb
      cases hp
      have he:=DefsOk.snd (i:=0) hD rfl
      simp only [Nat.add_zero,D.ev,hl] at he
      have hlen:=hD.1
      simp only [List.length_cons,tupDs_len] at hlen
      refine ⟨.agg (llVals (l0::ls) (dec (l.getD (i.ev m.env).toNat 0))).toArray,?_,llVals (l0::ls) (dec (l.getD (i.ev m.env).toNat 0)),rfl,?_⟩
      ·simp only [execOp,ho,h1e,Instr.loadAt,Instr.sureAddr]
       simp [run_loadVar_agg hdt hb.1 (vs:=llVals (l0::ls) (dec (l.getD (i.ev m.env).toNat 0))) (by rw [hn,hb.2,llVals_len];rfl) (fun j v hv=>q3.cell hi (by rw [hk];exact hv))]
      ·have h0:=tup_rels (m:=m) (nv:=Y.nv) (al:=Y.al) (zs:=dec (l.getD (i.ev m.env).toNat 0)) (l0::ls) (nn+1) 0 (by simp only [List.length_cons];omega) fun i' l' hl'=>by
        obtain ⟨g1,g2⟩:=hD.2 (i'+1) l'.kk (.lget (.var nn) (.lit ((0+i':Nat):Int))) (by rw [List.getElem?_cons_succ,tupDs_get,hl'];rfl)
        rw [show nn+(i'+1)=nn+1+i' by omega] at g1 g2
        refine ⟨?_,g2⟩
        rw [g1]
        simp only [D.ev,A.ev,he]
        rw [Int.toNat_natCast]
       exact h0
     ·cases hp
    ·cases hp
   ·cases hp
  ·cases hp
 ·rename_i x i hx
  obtain ⟨g1,g2,g3,s,g4,g5⟩:=(show C.rel m Y.nv Y.al (.llp x i) _ from h.cell hx)
  split at hp
  ·rename_i e hu
   cases hp
   have hb:=h.base
   have g4':=g4
   rw [hb] at g4
   obtain ⟨hL,hcase⟩:=g4
   generalize hl:dec (A.ev m.env x)=l at g3 hcase hL
   rcases hcase with ⟨hn,rfl⟩ | ⟨ad,cap,k1,k2,k3,k4⟩
   ·simp at g3;omega
   ·have hi:(i.ev m.env).toNat<l.length:=by omega
    obtain ⟨u,c1,c2⟩:=k4 _ _ (List.getElem?_eq_getElem hi)
    have hc:w.cell? (ad.add (i.ev m.env).toNat)=some u:=by rw [h.below.cell (p:=ad.add _) (by rw [add_block];exact k2)];exact c1
    have he:=DefsOk.snd (i:=0) hD rfl
    simp only [Nat.add_zero,D.ev,hl] at he
    rw [List.getD_eq_getElem?_getD,List.getElem?_eq_getElem hi,Option.getD_some] at he
    have hone:u.oneCell'=true:=by
     rcases c2 with ⟨hv,_⟩ | ⟨ad',cap',hv,_⟩ <;> rw [hv] <;> rfl
    have hh:=hL.2 _ (List.getElem_mem hi)
    refine ⟨u,?_,⟨⟨?_,trivial⟩,?_,?_,hone⟩⟩
    ·simp only [execOp,ho,g5,Instr.loadAt,Instr.sureAddr,k1,slAt]
     simp [run_loadVar_one hu rfl hc]
    ·have:=hD.1;simp only [A.ok,List.length_cons,List.length_nil] at *;omega
    ·simp only [A.ev,he];exact hh
    ·simp only [A.ev,he];rw [hb];exact c2
  ·cases hp
 ·cases hp
theorem pure_nilCheck {x:Operand} (h:Rep w0 m Y a w) (ho:o.op=.nilCheck x) (hp:plan P T Y nn nid o.op=.ok p):PureOk P m Y a w o p.val:=by
 rw [ho] at hp
 simp only [plan] at hp
 split at hp
 ·rename_i id off hx
  have h1:=h.cell hx
  cases hp
  exact ⟨_,by simp [execOp,ho,h1.2],h1.1,rfl⟩
 ·cases hp
theorem pure_fieldAddr {t:TypeId} {x:Operand} {f:Nat} (h:Rep w0 m Y a w) (ho:o.op=.fieldAddr t x f) (hp:plan P T Y nn nid o.op=.ok p):PureOk P m Y a w o p.val:=by
 rw [ho] at hp
 simp only [plan] at hp
 split at hp
 ·rename_i fs id off hu hx
  have h1:=h.cell hx
  split at hp
  ·rename_i fd hf
   split at hp
   ·rename_i n hn
    cases hp
    refine ⟨.pointer (some (m.at id (off+fd.offset))),?_,h1.1,rfl⟩
    simp only [execOp,ho,h1.2,Instr.fieldAt]
    simp [run_underlying hu,hf,Instr.sureAddr,fieldPlace,run_sizeOf hn,at_add]
   ·cases hp
  ·cases hp
 ·cases hp
theorem idx_int (h:Rep w0 m Y a w) {x:Operand} {n:Nat} (hi:idx Y x=some n):∃ k,a.eval x=.int k (n:Int):=by
 unfold idx at hi
 split at hi
 ·rename_i k i hc
  split at hi
  ·rename_i hz
   cases hi
   have h1:=h.cell hc
   exact ⟨k,by rw [h1.2.2];simp only [A.ev];rw [Int.toNat_of_nonneg hz]⟩
  ·cases hi
 ·cases hi
theorem pure_indexAddr {t:TypeId} {x i:Operand} (h:Rep w0 m Y a w) (ho:o.op=.indexAddr t x i) (hp:plan P T Y nn nid o.op=.ok p) (hd:DefsOk T m.env Y.nv nn p.defs) (hz:∀ x∈p.nz,x.ev m.env≠0):PureOk P m Y a w o p.val:=by
 rw [ho] at hp
 simp only [plan] at hp
 split at hp
 ·rename_i len e id off n hu hx hi
  have h1:=h.cell hx
  obtain ⟨k,hk⟩:=idx_int h hi
  split at hp
  ·rename_i s hs
   split at hp
   ·rename_i hl
    cases hp
    refine ⟨.pointer (some (m.at id (off+n*s))),?_,h1.1,rfl⟩
    simp only [execOp,ho,h1.2,hk,Instr.indexAt,asIntOf]
    simp [run_underlying hu,Instr.sureAddr,run_sizeOf hs,at_add,hl]
   ·cases hp
  ·cases hp
 ·rename_i e id off len cap n hu hx hi
  have h1:=h.cell hx
  obtain ⟨k,hk⟩:=idx_int h hi
  split at hp
  ·rename_i s hs
   split at hp
   ·rename_i hl
    cases hp
    refine ⟨.pointer (some (m.at id (off+n*s))),?_,h1.1,rfl⟩
    simp only [execOp,ho,h1.2,hk,Instr.indexAt,asIntOf]
    simp [run_underlying hu,run_sizeOf hs,at_add,hl]
   ·cases hp
  ·cases hp
 ·rename_i len e id off hu hx hi
  have h1:=h.cell hx
  split at hp
  ·rename_i k y hy hs
   cases hp
   have h2:=h.cell hy
   obtain ⟨r1,r2⟩:=range_ok (ds:=[]) hd hz
   obtain ⟨n,hn⟩:=Int.eq_ofNat_of_zero_le r1
   refine ⟨.pointer (some (m.at id (off+(y.ev m.env).toNat))),?_,h1.1,h2.1,⟨r1,r2⟩,rfl⟩
   have h3:a.eval i=.int k (n:Int):=by rw [h2.2.2,hn]
   rw [hn] at r2 ⊢
   simp only [execOp,ho,h1.2,h3,Instr.indexAt,asIntOf]
   have:n<len:=by omega
   simp [run_underlying hu,Instr.sureAddr,run_sizeOf hs,at_add,this]
  ·cases hp
 ·rename_i e id off len cap hu hx hi
  have h1:=h.cell hx
  split at hp
  ·rename_i k y hy hs
   cases hp
   have h2:=h.cell hy
   obtain ⟨r1,r2⟩:=range_ok (ds:=[]) hd hz
   obtain ⟨n,hn⟩:=Int.eq_ofNat_of_zero_le r1
   refine ⟨.pointer (some (m.at id (off+(y.ev m.env).toNat))),?_,h1.1,h2.1,⟨r1,r2⟩,rfl⟩
   have h3:a.eval i=.int k (n:Int):=by rw [h2.2.2,hn]
   rw [hn] at r2 ⊢
   simp only [execOp,ho,h1.2,h3,Instr.indexAt,asIntOf]
   have:n<len:=by omega
   simp [run_underlying hu,run_sizeOf hs,at_add,this]
  ·cases hp
 ·rename_i e id hu hx
  have h1:=h.cell hx
  split at hp
  ·rename_i r k y s hr hy hs
   split at hp
   ·rename_i hsz
    have hsz:s=r.k.sz:=by simpa using hsz
    subst hsz
    cases hp
    have h2:=h.cell hy
    obtain ⟨q1,q2,q5,q6,q3⟩:=h.row_ok hr
    generalize hl:dec (A.ev m.env r.x)=l at q3 q6
    have d0:m.env nn=(l.length:Int):=by
     have:=DefsOk.snd (i:=0) hd rfl
     simpa [D.ev,q6] using this
    have d1:m.env (nn+1)=b2i (decide (0<=y.ev m.env)):=(hd.2 1 _ _ rfl).1
    have d2:m.env (nn+2)=b2i (decide (y.ev m.env<m.env nn)):=(hd.2 2 _ _ rfl).1
    have z1:m.env (nn+1)≠0:=hz (.var (nn+1)) (by simp)
    have z2:m.env (nn+2)≠0:=hz (.var (nn+2)) (by simp)
    rw [d1] at z1
    rw [d2] at z2
    have r1:0<=y.ev m.env:=by
     by_cases hc:0<=y.ev m.env
     ·exact hc
     ·simp [hc,b2i] at z1
    have r2:y.ev m.env<(l.length:Int):=by
     rw [<- d0]
     by_cases hc:y.ev m.env<m.env nn
     ·exact hc
     ·simp [hc,b2i] at z2
    obtain ⟨n,hn⟩:=Int.eq_ofNat_of_zero_le r1
    obtain ⟨ad,cap,hsv⟩:=q3.here (by omega)
    refine ⟨.pointer (some ((slAt (m.sv id)).add ((y.ev m.env).toNat*r.k.sz))),?_,h1.1,h2.1,⟨r1,by rw [q3.lenV];exact r2⟩,rfl⟩
    have h3:a.eval i=.int k (n:Int):=by rw [h2.2.2,hn]
    rw [hn] at r2 ⊢
    have h4:a.eval x=.slice (some ad) l.length cap:=by rw [h1.2.1,hsv]
    rw [hsv]
    simp only [execOp,ho,h4,h3,Instr.indexAt,asIntOf]
    have:n<l.length:=by omega
    simp [run_underlying hu,run_sizeOf hs,this,slAt]
   ·cases hp
  ·cases hp
 ·rename_i e id lo hi k hu hx
  obtain ⟨b1,b2,b3,b4,b5,b6⟩:=h.cell hx
  split at hp
  ·rename_i r kk y s hr hy hs
   split at hp
   ·rename_i hc
    simp only [Bool.and_eq_true,beq_iff_eq] at hc
    obtain ⟨hc1,hc2⟩:=hc
    subst hc1
    have hz0:=isZ_ok hc2
    subst hz0
    cases hp
    have h2:=h.cell hy
    obtain ⟨q1,q2,q5,q6,q3⟩:=h.row_ok hr
    generalize hl:dec (A.ev m.env r.x)=l at q3 q6
    have d1:m.env nn=b2i (decide (0<=y.ev m.env)):=(hd.2 0 _ _ rfl).1
    have d2:m.env (nn+1)=b2i (decide (y.ev m.env<hi.ev m.env)):=(hd.2 1 _ _ rfl).1
    have z1:m.env nn≠0:=hz (.var nn) (by simp)
    have z2:m.env (nn+1)≠0:=hz (.var (nn+1)) (by simp)
    rw [d1] at z1
    rw [d2] at z2
    have r1:0<=y.ev m.env:=by
     by_cases hc:0<=y.ev m.env
     ·exact hc
     ·simp [hc,b2i] at z1
    have r2:y.ev m.env<hi.ev m.env:=by
     by_cases hc:y.ev m.env<hi.ev m.env
     ·exact hc
     ·simp [hc,b2i] at z2
    obtain ⟨n,hn⟩:=Int.eq_ofNat_of_zero_le r1
    have b4':=b4.2.2.1
    rw [q3.lenV] at b4'
    obtain ⟨ad,cap,hsv⟩:=q3.here (by omega)
    refine ⟨.pointer (some ((slAt (m.sv id)).add ((y.ev m.env).toNat*k.sz))),?_,b1,h2.1,⟨r1,by omega⟩,rfl⟩
    have h3:a.eval i=.int kk (n:Int):=by rw [h2.2.2,hn]
    have h4:a.eval x=.slice (some ad) (hi.ev m.env).toNat cap:=by rw [isView.zero b5,hsv];exact subV_zero ..
    rw [hn] at r2 ⊢
    rw [hsv]
    simp only [execOp,ho,h4,h3,Instr.indexAt,asIntOf]
    have:n<(hi.ev m.env).toNat:=by omega
    simp [run_underlying hu,run_sizeOf hs,this,slAt]
   ·split at hp
    ·rename_i hc
     have hc1:s=k.sz:=by simpa using hc
     subst hc1
     cases hp
     have h2:=h.cell hy
     obtain ⟨q1,q2,q5,q6,q3⟩:=h.row_ok hr
     have hbig:=q3.1.1
     rw [q3.lenV] at b4
     generalize hl:dec (A.ev m.env r.x)=l at q3 q6 b4 hbig
     have d0:m.env nn=wr .i64 (hi.ev m.env-lo.ev m.env):=(hd.2 0 _ _ rfl).1
     have d1:m.env (nn+1)=b2i (decide (0<=y.ev m.env)):=(hd.2 1 _ _ rfl).1
     have d2:m.env (nn+2)=b2i (decide (y.ev m.env<m.env nn)):=(hd.2 2 _ _ rfl).1
     have d3:m.env (nn+3)=wr .i64 (lo.ev m.env+y.ev m.env):=(hd.2 3 _ _ rfl).1
     have z1:m.env (nn+1)≠0:=hz (.var (nn+1)) (by simp)
     have z2:m.env (nn+2)≠0:=hz (.var (nn+2)) (by simp)
     rw [d1] at z1
     rw [d2] at z2
     rw [wr_id (by simp only [has,Sx.lo,Sx.hi];omega)] at d0
     have r1:0<=y.ev m.env:=by
      by_cases hc:0<=y.ev m.env
      ·exact hc
      ·simp [hc,b2i] at z1
     have r2:y.ev m.env<hi.ev m.env-lo.ev m.env:=by
      rw [<- d0]
      by_cases hc:y.ev m.env<m.env nn
      ·exact hc
      ·simp [hc,b2i] at z2
     rw [wr_id (by simp only [has,Sx.lo,Sx.hi];omega)] at d3
     obtain ⟨n,hn⟩:=Int.eq_ofNat_of_zero_le r1
     obtain ⟨n1,hn1⟩:=Int.eq_ofNat_of_zero_le b4.1
     obtain ⟨n2,hn2⟩:=Int.eq_ofNat_of_zero_le (Int.le_trans b4.1 b4.2.1)
     obtain ⟨ad,cap,hsv⟩:=q3.here (by omega)
     have hcap:l.length<=cap:=by
      rcases q3.form with ⟨f1,f2⟩ | ⟨ad',c,f1,f2⟩
      ·rw [hsv] at f1;cases f1
      ·rw [hsv] at f1;cases f1;exact f2
     have hlt:nn+3<Y.nv:=by have:=hd.1;simp only [inPart,List.length_cons,List.length_nil] at this;omega
     refine ⟨.pointer (some ((slAt (m.sv id)).add ((m.env (nn+3)).toNat*k.sz))),?_,b1,⟨hlt,trivial⟩,⟨by show 0<=m.env (nn+3);omega,by show m.env (nn+3)<_;rw [q3.lenV];omega⟩,rfl⟩
     have h3:a.eval i=.int kk (n:Int):=by rw [h2.2.2,hn]
     have h4:a.eval x=.slice (some (ad.add (n1*k.sz))) (n2-n1) (cap-n1):=by
      rcases b5 with b5 | ⟨_,b7,_⟩
      ·rw [b5,hsv,hn1,hn2]
       simp only [subV,Int.toNat_natCast]
       rw [if_neg (by omega)];rfl
      ·omega
     rw [d3,hn1,hn]
     rw [hsv]
     simp only [execOp,ho,h4,h3,Instr.indexAt,asIntOf]
     have hlt2:n<n2-n1:=by omega
     have e1:((n1:Int)+(n:Int)).toNat=n1+n:=by omega
     simp [run_underlying hu,run_sizeOf hs,hlt2,slAt,e1,add_add,Nat.add_mul]
    ·cases hp
  ·cases hp
 ·rename_i e z hu hx
  obtain ⟨g1,g4,gone⟩:=(show C.rel m Y.nv Y.al (.ll z) _ from h.cell hx)
  split at hp
  ·rename_i k y hy hs
   cases hp
   have h2:=h.cell hy
   have g4':=g4
   rw [h.base] at g4
   obtain ⟨hL,hcase⟩:=g4
   generalize hl:dec (A.ev m.env z)=l at hcase hL
   have d0:m.env nn=(l.length:Int):=by
    have:=DefsOk.snd (i:=0) hd rfl
    simpa [D.ev,hl] using this
   have d1:m.env (nn+1)=b2i (decide (0<=y.ev m.env)):=(hd.2 1 _ _ rfl).1
   have d2:m.env (nn+2)=b2i (decide (y.ev m.env<m.env nn)):=(hd.2 2 _ _ rfl).1
   have z1:m.env (nn+1)≠0:=hz (.var (nn+1)) (by simp)
   have z2:m.env (nn+2)≠0:=hz (.var (nn+2)) (by simp)
   rw [d1] at z1
   rw [d2] at z2
   have r1:0<=y.ev m.env:=by
    by_cases hc:0<=y.ev m.env
    ·exact hc
    ·simp [hc,b2i] at z1
   have r2:y.ev m.env<(l.length:Int):=by
    rw [<- d0]
    by_cases hc:y.ev m.env<m.env nn
    ·exact hc
    ·simp [hc,b2i] at z2
   obtain ⟨n,hn⟩:=Int.eq_ofNat_of_zero_le r1
   rcases hcase with ⟨_,rfl⟩ | ⟨ad,cap,k1,k2,k3,k4⟩
   ·simp at r2;omega
   ·refine ⟨.pointer (some (ad.add (y.ev m.env).toNat)),?_,g1,h2.1,⟨r1,by rw [hl];exact r2⟩,a.eval x,g4',by rw [k1];rfl⟩
    have h3:a.eval i=.int k (n:Int):=by rw [h2.2.2,hn]
    rw [hn] at r2 ⊢
    simp only [execOp,ho,k1,h3,Instr.indexAt,asIntOf]
    have:n<l.length:=by omega
    simp [run_underlying hu,run_sizeOf hs,this]
  ·cases hp
 ·cases hp
theorem part_ok {t:TypeId} {d:TypeDesc} {s:Nat} {cs:List C} {vs:List Value} {off:Nat} (hd:P.underlying t=some d) (hs:szOf P t=some s) (hr:Rels m Y.nv Y.al cs vs)
  (hp:partC d s cs off=.ok p):∃ v,(part t vs.toArray off).run P w=.ok v w/\p.val.rel m Y.nv Y.al v:=by
 unfold partC at hp
 split at hp
 ·rename_i ha
  cases hp
  refine ⟨.agg ((vs.drop off).take s).toArray,?_,_,rfl,(hr.drop off).take s⟩
  simp [part,run_isAgg hd,ha,run_sizeOf hs]
 ·rename_i ha
  split at hp
  ·rename_i c hc
   cases hp
   obtain ⟨v,hv,hr'⟩:=hr.get _ _ hc
   exact ⟨v,by simp [part,run_isAgg hd,ha,hv],hr'⟩
  ·cases hp
theorem pure_index {t:TypeId} {x i:Operand} (h:Rep w0 m Y a w) (ho:o.op=.index t x i) (hp:plan P T Y nn nid o.op=.ok p) (hD:DefsOk T m.env Y.nv nn p.defs) (hz:∀ x∈p.nz,x.ev m.env≠0):PureOk P m Y a w o p.val:=by
 rw [ho] at hp
 simp only [plan] at hp
 split at hp
 ·rename_i len e cs n hu hx hi
  obtain ⟨vs,h1,hr⟩:=h.v_ hx
  obtain ⟨k,hk⟩:=idx_int h hi
  split at hp
  ·rename_i d s hd hs
   split at hp
   ·rename_i hl
    obtain ⟨v,hv,hrel⟩:=part_ok (w:=w) hd hs hr hp
    refine ⟨v,?_,hrel⟩
    simp only [execOp,ho,h1,hk,Instr.index,asIntOf]
    simp [run_underlying hu,run_sizeOf hs,hl,hv]
   ·cases hp
  ·cases hp
 ·rename_i len e cs hu hx hi
  obtain ⟨vs,h1,hr⟩:=h.v_ hx
  split at hp
  ·rename_i k y d r hy hdt hs hin
   split at hp
   ·cases hp
   ·rename_i hc
    cases hp
    simp only [Bool.or_eq_true,not_or,bne_iff_ne,ne_eq,Decidable.not_not,Bool.not_eq_true] at hc
    have h2:=h.cell hy
    obtain ⟨r1,r2⟩:=range_ok (ds:=[(.int r.1,selD r.1 y r.2)]) hD hz
    have he:=DefsOk.snd (i:=2) hD rfl
    rw [intsOf_ok hin] at hr
    rw [selD_ev hr y (by omega)] at he
    obtain ⟨g1,g2⟩:=sel_ok hr (i:=(y.ev m.env).toNat) (by omega)
    obtain ⟨n,hn⟩:=Int.eq_ofNat_of_zero_le r1
    refine ⟨.int r.1 ((r.2.map (·.ev m.env)).getD (y.ev m.env).toNat 0),?_,⟨⟨?_,trivial⟩,?_,?_⟩⟩
    ·have h3:a.eval i=.int k (n:Int):=by rw [h2.2.2,hn]
     rw [hn] at r2 g2 ⊢
     simp only [Int.toNat_natCast] at g2 ⊢
     have hlt:n<len:=by omega
     have hlv:n<vs.length:=(List.getElem?_eq_some_iff.1 g2).1
     have hlv2:vs[n]=.int r.1 ((r.2.map (·.ev m.env)).getD n 0):=(List.getElem?_eq_some_iff.1 g2).2
     simp only [execOp,ho,h1,h3,Instr.index,asIntOf]
     have hpt:(part e vs.toArray n).run P w=.ok vs[n] w:=by simp [part,run_isAgg hdt,hc.1,hlv]
     rw [hlv2] at hpt
     simp [run_underlying hu,run_sizeOf hs,hlt,hpt]
    ·have:=hD.1;simp only [A.ok,List.length_append,inRange,List.length_cons,List.length_nil] at *;omega
    ·simp only [A.ev,he];exact g1
    ·simp only [A.ev,he]
  ·cases hp
 ·rename_i s n hu hx hidx
  have h1:a.eval x=.string s:=h.v_ hx
  obtain ⟨k,hk⟩:=idx_int h hidx
  split at hp
  ·rename_i hlt
   cases hp
   refine ⟨.int .u8 (s[n].toNat:Int),?_,⟨⟨trivial,trivial⟩,?_,rfl⟩⟩
   ·simp only [execOp,ho,h1,hk,Instr.index,asIntOf]
    simp [run_underlying hu,hlt]
   ·show has .u8 (s[n].toNat:Int)
    simp only [has,lo,hi];have:=s[n].toNat_lt;omega
  ·cases hp
 ·rename_i s hu hx hidx
  have h1:a.eval x=.string s:=h.v_ hx
  split at hp
  ·rename_i k y hy
   cases hp
   have h2:=h.cell hy
   obtain ⟨r1,r2⟩:=range_ok (ds:=[(.int .u8,.sel y (bytesA s))]) hD hz
   have he:=DefsOk.snd (i:=2) hD rfl
   simp only [D.ev] at he
   obtain ⟨n,hn⟩:=Int.eq_ofNat_of_zero_le r1
   have h3:a.eval i=.int k (n:Int):=by rw [h2.2.2,hn]
   rw [hn] at r2 he
   simp only [Int.toNat_natCast] at he
   have hlt:n<s.size:=by omega
   have hg:(List.map (fun x=>A.ev m.env x) (bytesA s)).getD n 0=(s[n].toNat:Int):=by
    have hlt':n<s.data.toList.length:=by simpa using hlt
    rw [List.getD_eq_getElem?_getD]
    simp only [bytesA,List.map_map,List.getElem?_map,List.getElem?_eq_getElem hlt',Option.map_some,Option.getD_some,Function.comp_apply,A.ev]
    rfl
   rw [hg] at he
   refine ⟨.int .u8 (s[n].toNat:Int),?_,⟨⟨?_,trivial⟩,?_,?_⟩⟩
   ·simp only [execOp,ho,h1,h3,Instr.index,asIntOf]
    simp [run_underlying hu,hlt]
   ·have:=hD.1;simp only [A.ok,List.length_append,inRange,List.length_cons,List.length_nil] at *;omega
   ·simp only [A.ev,he,has,lo,hi];have:=s[n].toNat_lt;omega
   ·simp only [A.ev,he]
  ·cases hp
 ·cases hp
theorem pure_field {t:TypeId} {x:Operand} {f:Nat} (h:Rep w0 m Y a w) (ho:o.op=.field t x f) (hp:plan P T Y nn nid o.op=.ok p):PureOk P m Y a w o p.val:=by
 rw [ho] at hp
 simp only [plan] at hp
 split at hp
 ·rename_i fs cs hu hx
  obtain ⟨vs,h1,hr⟩:=h.v_ hx
  split at hp
  ·rename_i fd hf
   split at hp
   ·rename_i d s hd hs
    obtain ⟨v,hv,hrel⟩:=part_ok (w:=w) hd hs hr hp
    refine ⟨v,?_,hrel⟩
    simp only [execOp,ho,h1,Instr.field]
    simp [run_underlying hu,hf,asAgg,hv]
   ·cases hp
  ·cases hp
 ·cases hp
theorem pure_extract {x:Operand} {i:Nat} (h:Rep w0 m Y a w) (ho:o.op=.extract x i) (hp:plan P T Y nn nid o.op=.ok p):PureOk P m Y a w o p.val:=by
 rw [ho] at hp
 simp only [plan] at hp
 split at hp
 ·rename_i l hx
  obtain ⟨vs,h1,hr⟩:=h.val hx
  split at hp
  ·rename_i s hs
   cases hp
   obtain ⟨v,hv,hrel⟩:=hr.get _ _ hs
   refine ⟨v,?_,hrel⟩
   simp [execOp,ho,h1,Instr.extract,hv]
  ·cases hp
 ·cases hp
theorem caps_ok (h:Rep w0 m Y a w):∀ (xs:List Operand) (l:List (Nat×Nat)),mapO (capOf Y) xs=some l ->
  (∀ p∈l,Y.al p.1=true)/\xs.map a.eval=l.map fun p=>Value.pointer (some (m.at p.1 p.2)):=by
 intro xs
 induction xs with
 | nil=>intro l hl;simp [mapO] at hl;subst hl;simp
 | cons x xs ih =>
  intro l hl
  unfold mapO at hl
  split at hl
  ·cases hl
  ·rename_i y hy
   split at hl
   ·cases hl
   ·rename_i ys hys
    cases hl
    obtain ⟨h1,h2⟩:=ih ys hys
    unfold capOf at hy
    split at hy
    ·rename_i id off hc
     cases hy
     have h3:=h.cell hc
     exact ⟨by simpa using ⟨h3.1,fun a b=>h1 (a,b)⟩,by simp [h2,h3.2]⟩
    ·cases hy
theorem pure_makeFunc {fn:Fn} {first caps:Array Operand} (h:Rep w0 m Y a w) (ho:o.op=.makeFunc fn first caps) (hp:plan P T Y nn nid o.op=.ok p):PureOk P m Y a w o p.val:=by
 rw [ho] at hp
 simp only [plan] at hp
 split at hp
 ·rename_i f
  split at hp
  ·cases hp
  ·rename_i hf
   have hf':first=#[]:=by simpa using hf
   split at hp
   ·rename_i l hl
    cases hp
    obtain ⟨h1,h2⟩:=caps_ok h _ _ hl
    refine ⟨.func (.func f) #[] (caps.map a.eval),by simp [execOp,ho,Instr.makeFunc,hf'],h1,?_⟩
    congr 1
    apply Array.ext'
    simpa using h2
   ·cases hp
 ·cases hp
theorem pure_sl2arr {t:TypeId} {x:Operand} (h:Rep w0 m Y a w) (ho:o.op=.sliceToArrayPointer t x) (hp:plan P T Y nn nid o.op=.ok p):PureOk P m Y a w o p.val:=by
 rw [ho] at hp
 simp only [plan] at hp
 split at hp
 ·rename_i n e id off len cap hu hx
  have h1:=h.cell hx
  split at hp
  ·rename_i hl
   cases hp
   refine ⟨_,?_,h1.1,rfl⟩
   simp only [execOp,ho,h1.2,Instr.arrayAt]
   simp [run_underlying hu,show ¬ len<n by omega]
  ·cases hp
 ·cases hp
theorem mkP_ok {kk:KK} {d:D} {c:A->C} (hp:mkP nn kk d c=.ok p) (hd:DefsOk T m.env Y.nv nn p.defs):∃ x:A,p.val=.vl (.one (c x))/\x.wf Y.nv m.env/\x.ev m.env=d.ev T m.env:=by
 unfold mkP at hp
 cases hp
 have:=mk_ok hd
 exact ⟨_,rfl,this.1,this.2⟩
theorem pure_unOp {op:UnOp} {t:TypeId} {x:Operand} (h:Rep w0 m Y a w) (ho:o.op=.unOp op t x) (hp:plan P T Y nn nid o.op=.ok p) (hd:DefsOk T m.env Y.nv nn p.defs):PureOk P m Y a w o p.val:=by
 rw [ho] at hp
 simp only [plan] at hp
 split at hp
 ·rename_i y hx
  have h1:=h.cell hx
  obtain ⟨z,hz,hk,he⟩:=mkP_ok hp hd
  rw [hz]
  refine ⟨.bool (decide (z.ev m.env≠0)),?_,hk,?_,rfl⟩
  ·simp only [execOp,ho,h1.2.2,Op.unary,he,D.ev]
   by_cases hy:y.ev m.env=0 <;> simp [hy]
  ·rw [he];simp only [D.ev];split <;> simp
 ·rename_i k y hx
  have h1:=h.cell hx
  obtain ⟨z,hz,hk,he⟩:=mkP_ok hp hd
  have key:(execOp a.eval o).run P w=.ok (.value (.int k (wr k (0-y.ev m.env)))) w:=by
   simp only [execOp,ho,h1.2.2,Op.unary,Op.intArith,wr_eq]
   simp
  rw [hz]
  refine ⟨_,key,hk,by rw [he];exact wr_has _ _,?_⟩
  rw [he];rfl
 ·rename_i k y hx
  have h1:=h.cell hx
  obtain ⟨z,hz,hk,he⟩:=mkP_ok hp hd
  have this:(if k.signed=true then (-1:Int) else k.max)=if lo k=0 then hi k else -1:=by cases k <;> simp [IntKind.signed,lo,hi,IntKind.max,IntKind.bits]
  have key:(execOp a.eval o).run P w=.ok (.value (.int k (wr k ((BitVec.ofInt k.bits (if lo k=0 then hi k else -1) ^^^ BitVec.ofInt k.bits (y.ev m.env)).toNat:Int)))) w:=by
   simp only [execOp,ho,h1.2.2,Op.unary,Op.intBits,wr_eq,this]
   simp
  rw [hz]
  refine ⟨_,key,hk,by rw [he];exact wr_has _ _,?_⟩
  rw [he];rfl
 ·cases hp
theorem subKind_has {k' k:IntKind} {n:Int} (h:subKind k' k=true) (hn:has k' n):has k n:=by
 cases k' <;> cases k <;> simp [subKind,has,lo,hi] at * <;> omega
end
section
variable {P:Program} {w:World}
theorem run_eqGuard_int (op:BinOp) (t:TypeId) (x y:Operand) (k k':IntKind) (a b:Int):(eqGuard op t x y (.int k a) (.int k' b)).run P w=.ok () w:=by
 cases op <;> simp [eqGuard]
theorem run_eqGuard_bool (op:BinOp) (t:TypeId) (x y:Operand) (a b:Bool):(eqGuard op t x y (.bool a) (.bool b)).run P w=.ok () w:=by
 cases op <;> simp [eqGuard]
theorem run_eqGuard_str (op:BinOp) (t:TypeId) (x y:Operand) (a b:ByteArray):(eqGuard op t x y (.string a) (.string b)).run P w=.ok () w:=by
 cases op <;> simp [eqGuard]
theorem run_bin_str {op:BinOp} {t:TypeId} {a b:ByteArray}:(binOp .eql t (.string a) (.string b)).run P w=.ok (.bool (a.toList==b.toList)) w/\(binOp .neq t (.string a) (.string b)).run P w=.ok (.bool (!(a.toList==b.toList))) w :=
 ⟨by simp [binOp,Op.stringOp],by simp [binOp,Op.stringOp]⟩
theorem str_inj {l k:List Int} (hl:(LK.int .u8).hasL l) (hk:(LK.int .u8).hasL k) (h:(strOfNums l).data.toList=(strOfNums k).data.toList):l=k:=by
 rw [strOfNums_data,strOfNums_data] at h
 have h2:=congrArg (List.map fun b:UInt8=>(b.toNat:Int)) h
 have key:∀ l:List Int,(LK.int .u8).hasL l->(l.map fun n=>UInt8.ofNat n.toNat).map (fun b:UInt8=>(b.toNat:Int))=l:=fun l hl=>by
  rw [List.map_map]
  refine (List.map_congr_left fun n hn=>?_).trans (List.map_id l)
  have:=hl.2 n hn
  simp only [LK.has,has,lo,hi] at this
  simp only [Function.comp,id,UInt8.toNat_ofNat']
  omega
 rw [key l hl,key k hk] at h2
 exact h2
theorem str_eq {x y:Int} (hx:(LK.int .u8).hasL (dec x)) (hy:(LK.int .u8).hasL (dec y)):((strOfNums (dec x)).toList==(strOfNums (dec y)).toList)=(dec x==dec y):=by
 rw [ByteArray.toList_eq,ByteArray.toList_eq,Bool.eq_iff_iff,beq_iff_eq,beq_iff_eq]
 exact ⟨str_inj hx hy,fun h=>by rw [h]⟩
theorem run_bin_same {op:BinOp} {t:TypeId} {k:IntKind} {a b:Int} (ho:(match op with | .add | .sub | .mul | .and | .or | .xor | .andNot=>true | .quo | .rem=>b != 0 | _=>false)=true) :
  (binOp op t (.int k a) (.int k b)).run P w=.ok (.int k (binE op k a b)) w:=by
 cases op <;> simp at ho <;> simp [binOp,Op.intArith,Op.intDiv,Op.intBits,binE,wr_eq,ho]
theorem run_bin_shift {op:BinOp} {t:TypeId} {k k':IntKind} {a b:Int} (ho:(match op with | .shl | .shr=>true | _=>false)=true) (hb:0<=b) :
  (binOp op t (.int k a) (.int k' b)).run P w=.ok (.int k (binE op k a b)) w:=by
 cases op <;> simp at ho <;> simp [binOp,Op.shift,binE,wr_eq,show ¬ b<0 by omega]
theorem run_bin_cmp {op:BinOp} {t:TypeId} {k:IntKind} {a b:Int} (ho:(match op with | .eql | .neq | .lss | .leq | .gtr | .geq=>true | _=>false)=true) :
  (binOp op t (.int k a) (.int k b)).run P w=.ok (.bool (cmpE op a b)) w:=by
 cases op <;> simp at ho <;> simp [binOp,Op.intCmp,cmpE]
theorem run_equal_bool {t:TypeId} {a b:Bool} (ht:P.underlying t=some .bool):(Op.equal t (.bool a) (.bool b)).run P w=.ok (a==b) w:=by
 have:=run_equalIn_bool' (P:=P) w 9999 t a b ht
 exact this
theorem run_bin_bool {op:BinOp} {t:TypeId} {a b:Bool} (ht:P.underlying t=some .bool) (ho:op=.eql∨op=.neq) :
  (binOp op t (.bool a) (.bool b)).run P w=.ok (.bool (match op with | .eql=>a==b | _=>a != b)) w:=by
 rcases ho with rfl | rfl
 ·simp [binOp,run_equal_bool ht]
 ·simp [binOp,run_equal_bool ht,bne]
end
theorem b2i_bit (b:Bool):0<=b2i b/\b2i b<=1:=by cases b <;> simp [b2i]
theorem decide_b2i (b:Bool):decide (b2i b≠0)=b:=by cases b <;> simp [b2i]
section
variable {P:Program} {T:List K} {w0:World} {m:M} {Y:St} {a:Act} {w:World} {o:Oper} {nn nid:Nat} {p:Plan}
theorem binInt_ok {op:BinOp} {t yt:TypeId} {x y:Operand} {k k':IntKind} {u v:A} (ho:o.op=.binOp op t x y yt)
    (hu:C.rel m Y.nv Y.al (.int k u) (a.eval x)) (hv:C.rel m Y.nv Y.al (.int k' v) (a.eval y)) (hp:binInt op k k' u v nn=.ok p)
    (hd:DefsOk T m.env Y.nv nn p.defs) (hz:∀ x∈p.nz,x.ev m.env≠0):PureOk P m Y a w o p.val:=by
  obtain ⟨hu1,hu2,hu3⟩:=hu
  obtain ⟨hv1,hv2,hv3⟩:=hv
  have fin:∀ {r:Value},(binOp op t (.int k (u.ev m.env)) (.int k' (v.ev m.env))).run P w=.ok r w->(execOp a.eval o).run P w=.ok (.value r) w:=by
    intro r hr
    simp only [execOp,ho,hu3,hv3]
    simp [run_eqGuard_int,hr]
  have arith':p.val=.vl (.one (.int k (mk nn (.int k) (.bin op k u v)).2))->p.defs=(mk nn (.int k) (.bin op k u v)).1->(binOp op t (.int k (u.ev m.env)) (.int k' (v.ev m.env))).run P w=.ok (.int k (binE op k (u.ev m.env) (v.ev m.env))) w->PureOk P m Y a w o p.val:=by
    intro h0 h1 h2
    obtain ⟨hk,he⟩:=mk_ok (h1▸hd)
    rw [h0]
    refine ⟨_,fin h2,hk,?_,?_⟩
    · rw [he];exact binE_has hu2
    · rw [he];rfl
  have arith:mkP nn (.int k) (.bin op k u v) (.int k)=.ok p->(binOp op t (.int k (u.ev m.env)) (.int k' (v.ev m.env))).run P w=.ok (.int k (binE op k (u.ev m.env) (v.ev m.env))) w->PureOk P m Y a w o p.val:=by
    intro h1
    unfold mkP at h1
    cases h1
    exact arith' rfl rfl
  have cmp:mkP nn .bit (.cmp op u v) .bool=.ok p->(binOp op t (.int k (u.ev m.env)) (.int k' (v.ev m.env))).run P w=.ok (.bool (cmpE op (u.ev m.env) (v.ev m.env))) w->PureOk P m Y a w o p.val:=by
    intro h1 h2
    obtain ⟨z,hz,hk,he⟩:=mkP_ok h1 hd
    rw [hz]
    refine ⟨_,fin h2,hk,?_,?_⟩
    · rw [he];exact b2i_bit _
    · rw [he];exact congrArg Value.bool (decide_b2i _).symm
  unfold binInt at hp
  have sh:∀ {op:BinOp},(match op with | .shl | .shr=>true | _=>false)=true->(match v with | .lit n=>if 0<=n then mkP nn (.int k) (.bin op k u v) (.int k) else Pl.bad 1 | _=>if lo k'==0 then mkP nn (.int k) (.bin op k u v) (.int k) else (Pl.ok { val:=.vl (.one (.int k (.var (nn+1)))),defs:=[(.bit,.cmp .leq (.lit 0) v),(.int k,.bin op k u v)],nz:=[.var nn] }))=.ok p ->
      0<=v.ev m.env/\(mkP nn (.int k) (.bin op k u v) (.int k)=.ok p∨(p.val=.vl (.one (.int k (.var (nn+1))))/\m.env (nn+1)=binE op k (u.ev m.env) (v.ev m.env)/\nn+1<Y.nv)):=by
    intro op _ h1
    split at h1
    · split at h1
      · exact ⟨‹_›,.inl h1⟩
      · cases h1
    · split at h1
      · rename_i h2;simp only [has] at hv2;simp at h2;exact ⟨by omega,.inl h1⟩
      · cases h1
        have e0:m.env nn=b2i (decide (0<=v.ev m.env)):=(hd.2 0 _ _ rfl).1
        have z0:m.env nn≠0:=hz (.var nn) (by simp)
        have e1:m.env (nn+1)=binE op k (u.ev m.env) (v.ev m.env):=(hd.2 1 _ _ rfl).1
        refine ⟨?_,.inr ⟨rfl,e1,by have:=hd.1;simp only [List.length_cons,List.length_nil] at this;omega⟩⟩
        by_cases hc:0<=v.ev m.env
        · exact hc
        · rw [e0] at z0;simp [hc,b2i] at z0
  split at hp
  all_goals first
    | (obtain ⟨h1,h2⟩:=sh rfl hp
       rcases h2 with h2 | ⟨h2,h3,h4⟩
       · exact arith h2 (run_bin_shift rfl h1)
       · rw [h2]
         refine ⟨_,fin (run_bin_shift rfl h1),⟨h4,trivial⟩,?_,?_⟩
         · simp only [A.ev,h3];exact binE_has hu2
         · simp only [A.ev,h3])
    | (split at hp
       · rename_i hk
         simp at hk
         subst hk
         first
         | exact arith hp (run_bin_same rfl)
         | exact cmp hp (run_bin_cmp rfl)
         | (split at hp
            · split at hp
              · rename_i hn;exact arith hp (run_bin_same hn)
              · cases hp
            · cases hp
              have h3:v.ev m.env≠0:=hz v (by simp)
              exact arith' rfl rfl (run_bin_same (by simpa using h3)))
       · cases hp)
end
def Op.eqItems (P:Program) (d:Nat) (e:TypeId) (n:Nat) (xs ys:Array Value):List Nat->Sem Bool
 | []=>pure true
 | i::is=>do
  let a <- part e xs (i*n)
  let b <- part e ys (i*n)
  let r <- Op.equalIn d e a b
  if (!r)=true then pure false else Op.eqItems P d e n xs ys is
theorem run_equalIn_array {P:Program} (w:World) (d:Nat) (t e:TypeId) (len n:Nat) (xs ys:Array Value) (ht:P.underlying t=some (.array len e)) (hn:szOf P e=some n) :
  (Op.equalIn (d+1) t (.agg xs) (.agg ys)).run P w=(Op.eqItems P d e n xs ys (List.range' 0 len)).run P w:=by
 simp only [Op.equalIn,Sem.run_bind,run_underlying ht,Result.andThen_ok,run_sizeOf hn]
 rw [Std.Legacy.Range.forIn_eq_forIn_range']
 simp only [Std.Legacy.Range.size,Nat.sub_zero,Nat.add_sub_cancel,Nat.div_one]
 generalize List.range' 0 len 1=l
 induction l generalizing w with
 | nil=>simp [Op.eqItems]
 | cons i l ih =>
  simp only [List.forIn_cons,Op.eqItems,Sem.run_bind,Sem.run_ite]
  generalize (part e xs (i*n)).run P w=r1
  cases r1 with
  | ok a w1 =>
   simp only [Result.andThen_ok]
   generalize (part e ys (i*n)).run P w1=r2
   cases r2 with
   | ok b w2 =>
    simp only [Result.andThen_ok]
    generalize (Op.equalIn d e a b).run P w2=r3
    cases r3 with
    | ok r w3 =>
     cases r
     ·simp only [Result.andThen_ok,Bool.not_false,if_true,Sem.run_pure]
     ·simp only [Result.andThen_ok,Bool.not_true,Bool.false_eq_true,if_false,Sem.run_pure]
      exact ih w3
    | halt x w3=>simp [Result.andThen]
   | halt x w2=>simp [Result.andThen]
  | halt x w1=>simp [Result.andThen]
def tval (d:TypeDesc) (vs:List Value):Value:=if isAggB d then .agg vs.toArray else vs.headD undef
theorem run_part {P:Program} {w:World} {t:TypeId} {d:TypeDesc} {s:Nat} {vs:List Value} {off:Nat} (hd:P.underlying t=some d) (hs:szOf P t=some s)
  (h1:isAggB d=false->off<vs.length/\s=1):(part t vs.toArray off).run P w=.ok (tval d ((vs.drop off).take s)) w:=by
 unfold tval
 cases ha:isAggB d with
 | true=>simp [part,run_isAgg hd,ha,run_sizeOf hs]
 | false =>
  obtain ⟨h2,h3⟩:=h1 ha
  subst h3
  simp [part,run_isAgg hd,ha,h2,List.head?_take,List.head?_drop]
section
variable {P:Program} {m:M} {nv:Nat} {al:Nat->Bool}
noncomputable def prs (m:M) (ps:List (A×A)):Bool:=ps.all fun p=>p.1.ev m.env==p.2.ev m.env
def EqAt (P:Program) (m:M) (nv:Nat) (al:Nat->Bool) (d:Nat) (t:TypeId) (f:List C->List C->Option (List (A×A)×List C×List C)):Prop :=
 ∀ xs ys ps xs' ys',f xs ys=some (ps,xs',ys')->∀ vx vy,Rels m nv al xs vx->Rels m nv al ys vy ->
  ∃ s ds,P.underlying t=some ds/\szOf P t=some s/\(isAggB ds=false->s=1)/\s<=vx.length/\s<=vy.length/\Rels m nv al xs' (vx.drop s)/\Rels m nv al ys' (vy.drop s) /\
   ∀ n,d<=n->∀ w,(Go.Op.equalIn n t (tval ds (vx.take s)) (tval ds (vy.take s))).run P w=.ok (prs m ps) w
theorem drop_take_part {vs:List Value} {off s N:Nat} (h:off+s<=N):((vs.take N).drop off).take s=(vs.drop off).take s:=by
 rw [List.drop_take,List.take_take,Nat.min_eq_left (by omega)]
theorem eqN_ok {d:Nat} {e:TypeId} {f:List C->List C->Option (List (A×A)×List C×List C)} (hf:EqAt P m nv al d e f) {s:Nat} {de:TypeDesc} (hs:szOf P e=some s) (hde:P.underlying e=some de) :
  ∀ (n:Nat) (xs ys:List C) ps xs' ys',eqN f n xs ys=some (ps,xs',ys')->∀ (VX VY:List Value) (k:Nat) (N:Nat),(k+n)*s<=N->Rels m nv al xs (VX.drop (k*s))->Rels m nv al ys (VY.drop (k*s)) ->
   (n≠0->(k+n)*s<=VX.length/\(k+n)*s<=VY.length)/\Rels m nv al xs' (VX.drop ((k+n)*s))/\Rels m nv al ys' (VY.drop ((k+n)*s)) /\
   ∀ D,d<=D->∀ w,(Op.eqItems P D e s (VX.take N).toArray (VY.take N).toArray (List.range' k n)).run P w=.ok (prs m ps) w:=by
 intro n
 induction n with
 | zero =>
  intro xs ys ps xs' ys' h VX VY k N _ hx hy
  simp [eqN] at h
  obtain ⟨rfl,rfl,rfl⟩:=h
  exact ⟨fun h=>absurd rfl h,by simpa using hx,by simpa using hy,fun D _ w=>by simp [Op.eqItems,prs]⟩
 | succ n ih =>
  intro xs ys ps xs' ys' h VX VY k N hN hx hy
  unfold eqN at h
  split at h
  ·cases h
  ·rename_i r hr
   obtain ⟨ps1,xs1,ys1⟩:=r
   simp only at h
   split at h
   ·cases h
   ·rename_i q hq
    obtain ⟨ps2,xs2,ys2⟩:=q
    simp at h
    obtain ⟨rfl,rfl,rfl⟩:=h
    obtain ⟨s',ds,h1,h2,h3,h4,h5,h6,h7,h8⟩:=hf _ _ _ _ _ hr _ _ hx hy
    rw [hs] at h2;cases h2
    rw [hde] at h1;cases h1
    have e1:k*s+s=(k+1)*s:=by rw [Nat.add_mul,Nat.one_mul]
    have e2:(k+1+n)*s=(k+(n+1))*s:=by congr 1;omega
    rw [List.drop_drop,e1] at h6 h7
    obtain ⟨g1,g2,g3,g4⟩:=ih _ _ _ _ _ hq VX VY (k+1) N (by rw [e2];exact hN) h6 h7
    rw [e2] at g1 g2 g3
    have hb:(k+1)*s<=(k+(n+1))*s:=Nat.mul_le_mul_right _ (by omega)
    rw [List.length_drop] at h4 h5
    refine ⟨fun _=>?_,g2,g3,fun D hD w=>?_⟩
    ·by_cases h0:n=0
     ·subst h0
      by_cases hs0:s=0
      ·subst hs0;simp
      ·rw [<- e2];simp only [Nat.add_zero];omega
     ·exact g1 h0
    ·rw [List.range'_succ]
     simp only [Op.eqItems,Sem.run_bind]
     have p1:(part e (VX.take N).toArray (k*s)).run P w=.ok (tval de ((VX.drop (k*s)).take s)) w:=by
      rw [run_part hde hs,drop_take_part (by omega)]
      intro ha
      have:=h3 ha
      subst this
      refine ⟨?_,rfl⟩
      rw [List.length_take];omega
     have p2:(part e (VY.take N).toArray (k*s)).run P w=.ok (tval de ((VY.drop (k*s)).take s)) w:=by
      rw [run_part hde hs,drop_take_part (by omega)]
      intro ha
      have:=h3 ha
      subst this
      refine ⟨?_,rfl⟩
      rw [List.length_take];omega
     simp only [p1,p2,Result.andThen_ok,h8 D hD w,Sem.run_ite,g4 D hD w,Sem.run_pure]
     unfold prs
     rw [List.all_append]
     cases (ps1.all fun p=>p.1.ev m.env==p.2.ev m.env) <;> simp
theorem eqFs_ok {d:Nat} {f:TypeId->List C->List C->Option (List (A×A)×List C×List C)} (hf:∀ t,EqAt P m nv al d t (f t)) :
  ∀ (fs:List Field) (n:Nat) (xs ys:List C) ps n' xs' ys',eqFs f (szOf P) fs n xs ys=some (ps,n',xs',ys')->n<=n'/\∀ (VX VY:List Value) (N:Nat),n'<=N->Rels m nv al xs (VX.drop n)->Rels m nv al ys (VY.drop n) ->
   (n'=n∨(n'<=VX.length/\n'<=VY.length))/\Rels m nv al xs' (VX.drop n')/\Rels m nv al ys' (VY.drop n') /\
   ∀ D,d<=D->∀ w,(Go.Op.eqFields D (VX.take N).toArray (VY.take N).toArray fs).run P w=.ok (prs m ps) w:=by
 intro fs
 induction fs with
 | nil =>
  intro n xs ys ps n' xs' ys' h
  simp [eqFs] at h
  obtain ⟨rfl,rfl,rfl,rfl⟩:=h
  exact ⟨Nat.le_refl _,fun VX VY N _ hx hy=>⟨.inl rfl,hx,hy,fun D _ w=>by simp [Go.Op.eqFields,prs]⟩⟩
 | cons fd fs ih =>
  intro n xs ys ps n' xs' ys' h
  unfold eqFs at h
  split at h
  ·cases h
  ·rename_i hname
   simp at hname
   split at h
   ·rename_i r s hr hs
    obtain ⟨ps1,xs1,ys1⟩:=r
    simp only at h
    split at h
    ·cases h
    ·rename_i q hq
     obtain ⟨ps2,n2,xs2,ys2⟩:=q
     simp at h
     obtain ⟨rfl,rfl,rfl,rfl⟩:=h
     obtain ⟨hle,hrest⟩:=ih _ _ _ _ _ _ _ hq
     refine ⟨by omega,fun VX VY N hN hx hy=>?_⟩
     obtain ⟨s',ds,h1,h2,h3,h4,h5,h6,h7,h8⟩:=hf _ _ _ _ _ _ hr _ _ hx hy
     rw [hs] at h2;cases h2
     rw [List.drop_drop] at h6 h7
     obtain ⟨g1,g2,g3,g4⟩:=hrest VX VY N hN h6 h7
     rw [List.length_drop] at h4 h5
     refine ⟨?_,g2,g3,fun D hD w=>?_⟩
     ·omega
     ·simp only [Go.Op.eqFields,hname.1,ne_eq,not_false_eq_true,if_true,Sem.run_bind,hname.2]
      have p1:(part fd.type (VX.take N).toArray n).run P w=.ok (tval ds ((VX.drop n).take s)) w:=by
       rw [run_part h1 hs,drop_take_part (by omega)]
       intro ha
       have:=h3 ha
       subst this
       refine ⟨?_,rfl⟩
       rw [List.length_take];omega
      have p2:(part fd.type (VY.take N).toArray n).run P w=.ok (tval ds ((VY.drop n).take s)) w:=by
       rw [run_part h1 hs,drop_take_part (by omega)]
       intro ha
       have:=h3 ha
       subst this
       refine ⟨?_,rfl⟩
       rw [List.length_take];omega
      simp only [p1,p2,Result.andThen_ok,h8 D hD w,Sem.run_ite,g4 D hD w,Sem.run_pure]
      unfold prs
      rw [List.all_append]
      cases (ps1.all fun p=>p.1.ev m.env==p.2.ev m.env) <;> simp
   ·cases h
theorem eqW_ok:∀ (d:Nat) (t:TypeId),EqAt P m nv al d t (eqW P d t):=by
 intro d
 induction d with
 | zero=>intro t xs ys ps xs' ys' h;simp [eqW] at h
 | succ d ih =>
  intro t xs ys ps xs' ys' h vx vy hx hy
  unfold eqW at h
  split at h
  ·rename_i k0 hu
   split at h
   ·rename_i k a xs1 k' b ys1
    split at h
    ·rename_i hk
     simp at hk h
     obtain ⟨rfl,hs⟩:=hk
     obtain ⟨rfl,rfl,rfl⟩:=h
     match vx,vy,hx,hy with
     | u::vx,v::vy,hx,hy =>
      obtain ⟨⟨_,_,rfl⟩,hx⟩:=hx
      obtain ⟨⟨_,_,rfl⟩,hy⟩:=hy
      refine ⟨1,_,hu,hs,fun _=>rfl,by simp,by simp,hx,hy,fun n hn w=>?_⟩
      obtain ⟨n',rfl⟩:∃ n',n=n'+1:=⟨n-1,by omega⟩
      simp [tval,isAggB,run_equalIn_int w n' t k k0 _ _ hu,prs]
    ·cases h
   ·cases h
  ·rename_i hu
   split at h
   ·rename_i a xs1 b ys1
    split at h
    ·rename_i hs
     simp at hs h
     obtain ⟨rfl,rfl,rfl⟩:=h
     match vx,vy,hx,hy with
     | u::vx,v::vy,hx,hy =>
      obtain ⟨⟨_,hb1,rfl⟩,hx⟩:=hx
      obtain ⟨⟨_,hb2,rfl⟩,hy⟩:=hy
      refine ⟨1,_,hu,hs,fun _=>rfl,by simp,by simp,hx,hy,fun n hn w=>?_⟩
      obtain ⟨n',rfl⟩:∃ n',n=n'+1:=⟨n-1,by omega⟩
      have e:∀ x y:Int,0<=x/\x<=1->0<=y/\y<=1->(decide (x≠0)==decide (y≠0))=(x==y):=by
       intro x y h1 h2
       have h3:x=0∨x=1:=by omega
       have h4:y=0∨y=1:=by omega
       rcases h3 with rfl | rfl <;> rcases h4 with rfl | rfl <;> rfl
      have:=run_equalIn_bool' w n' t (decide (a.ev m.env≠0)) (decide (b.ev m.env≠0)) hu
      rw [e _ _ hb1 hb2] at this
      simpa [tval,isAggB,prs] using this
    ·cases h
   ·cases h
  ·rename_i len e hu
   split at h
   ·rename_i hs
    simp at hs
    cases he:szOf P e with
    | none =>
     cases len with
     | zero =>
      simp [he] at hs
      unfold szOf at hs
      cases hi:P.info? t with
      | none=>unfold Program.underlying at hu;simp [hi] at hu
      | some i=>simp [hi] at hs
     | succ len =>
      simp [he] at hs
      unfold szOf at hs
      cases hi:P.info? t with
      | none=>unfold Program.underlying at hu;simp [hi] at hu
      | some i=>simp [hi] at hs
    | some s =>
     rw [he] at hs
     simp at hs
     cases hde:P.underlying e with
     | none =>
      unfold szOf at he
      unfold Program.underlying at hde
      cases hi:P.info? e with
      | none=>simp [hi] at he
      | some i =>
       cases len with
       | zero =>
        simp [eqN] at h
        obtain ⟨rfl,rfl,rfl⟩:=h
        simp at hs
        refine ⟨0,_,hu,hs,fun ha=>by simp [isAggB] at ha,by simp,by simp,hx,hy,fun n hn w=>?_⟩
        obtain ⟨n',rfl⟩:∃ n',n=n'+1:=⟨n-1,by omega⟩
        have hs':szOf P e=some s:=by unfold szOf;exact he
        simp [tval,isAggB,run_equalIn_array w n' t e 0 s _ _ hu hs',Op.eqItems,prs]
       | succ len =>
        unfold eqN at h
        split at h
        ·cases h
        ·rename_i r hr
         obtain ⟨r1,r2,r3⟩:=r
         obtain ⟨s',ds,h1,_⟩:=ih e _ _ _ _ _ hr _ _ hx hy
         unfold Program.underlying at h1
         rw [hde] at h1;cases h1
     | some de =>
      have h0:=eqN_ok (ih e) he hde len xs ys ps xs' ys' h vx vy 0 (len*s) (by simp) (by simpa using hx) (by simpa using hy)
      simp only [Nat.zero_add] at h0
      obtain ⟨g1,g2,g3,g4⟩:=h0
      refine ⟨len*s,_,hu,hs,fun ha=>by simp [isAggB] at ha,?_,?_,g2,g3,fun n hn w=>?_⟩
      ·by_cases h0:len=0
       ·subst h0;simp
       ·exact (g1 h0).1
      ·by_cases h0:len=0
       ·subst h0;simp
       ·exact (g1 h0).2
      ·obtain ⟨n',rfl⟩:∃ n',n=n'+1:=⟨n-1,by omega⟩
       simp only [tval,isAggB,if_true,run_equalIn_array w n' t e len s _ _ hu he]
       exact g4 n' (by omega) w
   ·cases h
  ·rename_i fs hu
   split at h
   ·cases h
   ·rename_i hst
    split at h
    ·rename_i r hr
     obtain ⟨r1,r2,r3,r4⟩:=r
     split at h
     ·rename_i hs
      simp at hs h
      obtain ⟨rfl,rfl,rfl⟩:=h
      obtain ⟨hle,hrest⟩:=eqFs_ok (d:=d) ih fs.toList 0 _ _ _ _ _ _ hr
      obtain ⟨g1,g2,g3,g4⟩:=hrest vx vy r2 (Nat.le_refl _) (by simpa using hx) (by simpa using hy)
      refine ⟨r2,_,hu,hs,fun ha=>by simp [isAggB] at ha,by omega,by omega,g2,g3,fun n hn w=>?_⟩
      obtain ⟨n',rfl⟩:∃ n',n=n'+1:=⟨n-1,by omega⟩
      have hf:P.fieldsOf t=fs:=by simp [Program.fieldsOf,hu]
      have:=run_equalIn_agg w n' t (vx.take r2).toArray (vy.take r2).toArray (by rw [hf];exact hu) (by simpa using hst)
      simp only [tval,isAggB,if_true,this,hf]
      exact g4 n' (by omega) w
     ·cases h
    ·cases h
  ·cases h
end
section
variable {P:Program} {T:List K} {w0:World} {m:M} {Y:St} {a:Act} {w:World} {o:Oper} {nn nid:Nat} {p:Plan}
def eqRes (op:BinOp) (b:Bool):Bool:=match op with | .eql=>b | _=>!b
theorem run_bin_other {op:BinOp} {t:TypeId} {vx vy:Value} {b:Bool} {G:Sem Unit} (hop:op=.eql∨op=.neq) (k1:(Go.Op.equal t vx vy).run P w=.ok b w) (k2:G.run P w=.ok () w)
  (k3:∀ k n,vx≠.int k n) (k4:∀ k n,vx≠.float k n) (k5:∀ k n r,vx≠.complex k n r) (k6:∀ s,vx≠.string s) :
  (do pure (Next.value (<- (do G;binOp op t vx vy))):Sem Next).run P w=.ok (.value (.bool (eqRes op b))) w:=by
 rcases hop with rfl | rfl
 ·have hb:(binOp .eql t vx vy).run P w=.ok (.bool b) w:=by
   cases vx <;> first
    | (exfalso;first | exact k3 _ _ rfl | exact k4 _ _ rfl | exact k5 _ _ _ rfl | exact k6 _ rfl)
    | (show Sem.run P (Go.Op.equal t _ vy >>= fun r=>pure (Value.bool r)) w=_;simp [k1])
  simp [k2,hb,eqRes]
 ·have hb:(binOp .neq t vx vy).run P w=.ok (.bool (!b)) w:=by
   cases vx <;> first
    | (exfalso;first | exact k3 _ _ rfl | exact k4 _ _ rfl | exact k5 _ _ _ rfl | exact k6 _ rfl)
    | (show Sem.run P (Go.Op.equal t _ vy >>= fun r=>pure (Value.bool (!r))) w=_;simp [k1])
  simp [k2,hb,eqRes]
theorem eqNil_ok {d:TypeDesc} {t:TypeId} {c e:C} {b:Bool} {vx vy:Value} {nv:Nat} {al:Nat->Bool} (hu:P.underlying t=some d) (hb:eqNil d c e=some b) (h1:c.rel m nv al vx) (h2:e.rel m nv al vy) (x y:Operand) :
  (∀ n,(Go.Op.equalIn (n+1) t vx vy).run P w=.ok b w)/\(∀ op,(eqGuard op t x y vx vy).run P w=.ok () w) /\
   (∀ k n,vx≠.int k n)/\(∀ k n,vx≠.float k n)/\(∀ k n r,vx≠.complex k n r)/\(∀ s,vx≠.string s):=by
 unfold eqNil at hb
 split at hb <;> cases hb <;> simp only [C.rel] at h1 h2
 all_goals (try replace h1:=h1.2)
 all_goals (try replace h2:=h2.2)
 all_goals (subst h1;subst h2;refine ⟨fun n=>?_,fun op=>?_,by simp,by simp,by simp,by simp⟩)
 all_goals first
  | (cases op <;> simp [eqGuard];done)
  | (simp only [Go.Op.equalIn,Sem.run_bind,run_underlying hu,Result.andThen_ok];rfl)
theorem rowNil_spec {op:BinOp} {t:TypeId} {u v:V} {q:Plan} (h:rowNil P Y op t nn u v=some q):∃ id r e n,u=.one (.sl id)/\v=.one .nilslice/\Y.row id=some r/\P.underlying t=some (.slice e) /\
  (op=.eql/\n=0∨op=.neq/\n=1)/\q={val:=.vl (.one (.bool (.lit n))),defs:=[(.int .i64,.llen r.x0),(.bit,.cmp .lss (.lit 0) (.var nn))],nz:=[.var (nn+1)] }:=by
 unfold rowNil at h
 split at h
 ·split at h
  ·rename_i id r e hr hu
   split at h
   ·cases h;exact ⟨_,_,_,_,rfl,rfl,hr,hu,.inl ⟨rfl,rfl⟩,rfl⟩
   ·cases h;exact ⟨_,_,_,_,rfl,rfl,hr,hu,.inr ⟨rfl,rfl⟩,rfl⟩
   ·cases h
  ·cases h
 ·cases h
theorem pure_binOp {op:BinOp} {t yt:TypeId} {x y:Operand} (h:Rep w0 m Y a w) (ho:o.op=.binOp op t x y yt) (hp:plan P T Y nn nid o.op=.ok p)
  (hd:DefsOk T m.env Y.nv nn p.defs) (hz:∀ x∈p.nz,x.ev m.env≠0):PureOk P m Y a w o p.val:=by
 rw [ho] at hp
 simp only [plan] at hp
 split at hp
 ·rename_i u v hu hv
  have h1:=h.v_ hu
  have h2:=h.v_ hv
  split at hp
  ·rename_i q hq
   cases hp
   obtain ⟨id,r,e,n,rfl,rfl,hr,hut,hn,rfl⟩:=rowNil_spec hq
   obtain ⟨q1,q2,q5,q6,q3⟩:=h.row_ok hr
   have hvx:a.eval x=m.sv id:=h1.2.1
   have hvy:a.eval y=.slice none 0 0:=h2
   have d0:m.env nn=((dec (r.x.ev m.env)).length:Int):=by
    have:=DefsOk.snd (i:=0) hd rfl
    simpa [D.ev,q6] using this
   have d1:m.env (nn+1)=b2i (decide ((0:Int)<m.env nn)):=(hd.2 1 _ _ rfl).1
   have hz1:(0:Int)<m.env nn:=by
    have hz1:m.env (nn+1)≠0:=hz (.var (nn+1)) (by simp)
    rw [d1] at hz1
    by_cases hc:(0:Int)<m.env nn
    ·exact hc
    ·simp [hc,b2i] at hz1
   obtain ⟨ad,cap,hsv⟩:=q3.here (by omega)
   have heq:∀ n,(Go.Op.equalIn (n+1) t (m.sv id) (.slice none 0 0)).run P w=.ok false w:=fun n=>by
    rw [hsv];simp only [Go.Op.equalIn,Sem.run_bind,run_underlying hut,Result.andThen_ok];rfl
   have hgu:∀ op,(eqGuard op t x y (m.sv id) (.slice none 0 0)).run P w=.ok () w:=fun op=>by rw [hsv];cases op <;> simp [eqGuard]
   have fin:∀ {op:BinOp},(op=.eql∨op=.neq)->o.op=.binOp op t x y yt->(execOp a.eval o).run P w=.ok (.value (.bool (eqRes op false))) w:=by
    intro op hop ho
    simp only [execOp,ho,hvx,hvy]
    exact run_bin_other hop (heq 9999) (hgu op) (by rw [hsv];simp) (by rw [hsv];simp) (by rw [hsv];simp) (by rw [hsv];simp)
   rcases hn with ⟨rfl,rfl⟩ | ⟨rfl,rfl⟩
   ·exact ⟨_,fin (.inl rfl) ho,⟨trivial,trivial⟩,by simp [A.ev],rfl⟩
   ·exact ⟨_,fin (.inr rfl) ho,⟨trivial,trivial⟩,by simp [A.ev],rfl⟩
  rename_i hnone
  clear hnone
  unfold planBin at hp
  split at hp
  ·exact binInt_ok ho h1 h2 hp hd hz
  ·rename_i c d
   obtain ⟨hc1,hc2,hc3⟩:=h1
   obtain ⟨hd1,hd2,hd3⟩:=h2
   have e:∀ x y:Int,0<=x/\x<=1->0<=y/\y<=1->(decide (x≠0)==decide (y≠0))=(x==y):=by
    intro x y h1 h2
    have h3:x=0∨x=1:=by omega
    have h4:y=0∨y=1:=by omega
    rcases h3 with rfl | rfl <;> rcases h4 with rfl | rfl <;> rfl
   split at hp
   ·rename_i ht
    obtain ⟨z,hz,hk,he⟩:=mkP_ok hp hd
    rw [hz]
    refine ⟨.bool (decide (c.ev m.env≠0)==decide (d.ev m.env≠0)),?_,hk,?_,?_⟩
    ·simp only [execOp,ho,hc3,hd3]
     simp [run_eqGuard_bool,run_bin_bool ht (.inl rfl)]
    ·rw [he];exact b2i_bit _
    ·rw [he,e _ _ hc2 hd2];exact congrArg Value.bool (decide_b2i _).symm
   ·rename_i ht
    obtain ⟨z,hz,hk,he⟩:=mkP_ok hp hd
    rw [hz]
    refine ⟨.bool (decide (c.ev m.env≠0) != decide (d.ev m.env≠0)),?_,hk,?_,?_⟩
    ·simp only [execOp,ho,hc3,hd3]
     simp [run_eqGuard_bool,run_bin_bool ht (.inr rfl)]
    ·rw [he];exact b2i_bit _
    ·rw [he,bne,e _ _ hc2 hd2];exact congrArg Value.bool (decide_b2i _).symm
   ·cases hp
  ·rename_i c d
   obtain ⟨hc1,hc2,hc3⟩:=h1
   obtain ⟨hd1,hd2,hd3⟩:=h2
   have e:=str_eq hc2 hd2
   split at hp
   ·obtain ⟨z,hz,hk,he⟩:=mkP_ok hp hd
    rw [hz]
    refine ⟨.bool (dec (c.ev m.env)==dec (d.ev m.env)),?_,hk,?_,?_⟩
    ·have hr:(binOp .eql t (.string (strOfNums (dec (c.ev m.env)))) (.string (strOfNums (dec (d.ev m.env))))).run P w=.ok (.bool (dec (c.ev m.env)==dec (d.ev m.env))) w:=by rw [<- e];exact (run_bin_str (op:=.eql)).1
     simp only [execOp,ho,hc3,hd3]
     simp [run_eqGuard_str,hr]
    ·rw [he];exact b2i_bit _
    ·rw [he];exact congrArg Value.bool (decide_b2i _).symm
   ·cases hp
    have d0:=hd.2 0 _ _ rfl
    have d1:=hd.2 1 _ _ rfl
    have hlt:=hd.1
    simp only [List.length_cons,List.length_nil] at hlt
    have d0:m.env nn=b2i (dec (c.ev m.env)==dec (d.ev m.env)):=d0.1
    have d1:m.env (nn+1)=if m.env nn=0 then 1 else 0:=d1.1
    refine ⟨.bool (!(dec (c.ev m.env)==dec (d.ev m.env))),?_,⟨by show nn+1<Y.nv;omega,trivial⟩,?_,?_⟩
    ·have hr:(binOp .neq t (.string (strOfNums (dec (c.ev m.env)))) (.string (strOfNums (dec (d.ev m.env))))).run P w=.ok (.bool (!(dec (c.ev m.env)==dec (d.ev m.env)))) w:=by rw [<- e];exact (run_bin_str (op:=.eql)).2
     simp only [execOp,ho,hc3,hd3]
     simp [run_eqGuard_str,hr]
    ·show 0<=m.env (nn+1)/\m.env (nn+1)<=1
     rw [d1];split <;> simp
    ·show Value.bool _=Value.bool (decide (m.env (nn+1)≠0))
     rw [d1,d0]
     cases dec (c.ev m.env)==dec (d.ev m.env) <;> simp [b2i]
   ·cases hp
  ·rename_i c d
   have h1:a.eval x=.string c:=h1
   have h2:a.eval y=.string d:=h2
   split at hp
   ·cases hp
    refine ⟨.bool (c.data.toList==d.data.toList),?_,⟨trivial,trivial⟩,b2i_bit _,?_⟩
    ·have hr:(binOp .eql t (.string c) (.string d)).run P w=.ok (.bool (c.data.toList==d.data.toList)) w:=by rw [<- ByteArray.toList_eq,<- ByteArray.toList_eq];exact (run_bin_str (op:=.eql)).1
     simp only [execOp,ho,h1,h2]
     simp [run_eqGuard_str,hr]
    ·exact congrArg Value.bool (decide_b2i _).symm
   ·cases hp
    refine ⟨.bool (!(c.data.toList==d.data.toList)),?_,⟨trivial,trivial⟩,b2i_bit _,?_⟩
    ·have hr:(binOp .neq t (.string c) (.string d)).run P w=.ok (.bool (!(c.data.toList==d.data.toList))) w:=by rw [<- ByteArray.toList_eq,<- ByteArray.toList_eq];exact (run_bin_str (op:=.eql)).2
     simp only [execOp,ho,h1,h2]
     simp [run_eqGuard_str,hr]
    ·exact congrArg Value.bool (decide_b2i _).symm
   ·cases hp
  ·rename_i xs ys
   obtain ⟨vx,hx1,hx2⟩:=h1
   obtain ⟨vy,hy1,hy2⟩:=h2
   split at hp
   ·cases hp
   ·rename_i hg
    split at hp
    ·rename_i l hl
     obtain ⟨s,ds,g1,g2,g3,g4,g5,g6,g7,g8⟩:=eqW_ok 20 t _ _ _ _ _ hl _ _ hx2 hy2
     have e1:vx.length<=s:=by have:=Rels.length g6;simp at this;omega
     have e2:vy.length<=s:=by have:=Rels.length g7;simp at this;omega
     rw [List.take_of_length_le e1,List.take_of_length_le e2] at g8
     have hag:isAggB ds=true:=by simp [g1] at hg;exact hg.2
     have hgt:P.eqGuardType P.depth t=false:=by simp [g1] at hg;exact hg.1
     have key:(Go.Op.equalIn 10000 t (.agg vx.toArray) (.agg vy.toArray)).run P w=.ok (prs m l) w:=by
      have:=g8 10000 (by omega) w
      simpa [tval,hag] using this
     have fin:∀ {op:BinOp} {r:Value},o.op=.binOp op t x y yt->(binOp op t (.agg vx.toArray) (.agg vy.toArray)).run P w=.ok r w->(execOp a.eval o).run P w=.ok (.value r) w:=by
      intro op r ho hr
      simp only [execOp,ho,hx1,hy1]
      simp [run_eqGuard_agg w op t x y _ _ hgt,hr]
     split at hp
     ·obtain ⟨z,hz,hk,he⟩:=mkP_ok hp hd
      rw [hz]
      refine ⟨.bool (prs m l),fin ho (by rw [run_eql_struct,key];rfl),hk,?_,?_⟩
      ·rw [he];exact b2i_bit _
      ·rw [he];exact congrArg Value.bool (decide_b2i _).symm
     ·have key2:(execOp a.eval o).run P w=.ok (.value (.bool (!prs m l))) w:=fin ho (by rw [run_neq_struct,key];rfl)
      split at hp
      ·rename_i n hn
       cases hp
       have h3:=litD_ev (T:=T) hn m.env
       simp only [D.ev] at h3
       have h4:b2i (prs m l)=n:=h3
       refine ⟨_,key2,⟨trivial,trivial⟩,?_,?_⟩
       ·simp only [A.ev];split <;> simp
       ·rw [<- h4];cases prs m l <;> simp [A.ev,b2i]
      ·cases hp
       have d1:=hd.2 0 _ _ rfl
       have d2:=hd.2 1 _ _ rfl
       have h0:=hd.1
       simp only [List.length_cons,List.length_nil] at h0
       simp only [Nat.add_zero,D.ev] at d1 d2
       have h4:m.env nn=b2i (prs m l):=d1.1
       have h5:m.env (nn+1)=if m.env nn=0 then 1 else 0:=d2.1
       refine ⟨_,key2,⟨show nn+1<Y.nv by omega,trivial⟩,?_,?_⟩
       ·simp only [A.ev,h5];split <;> simp
       ·simp only [A.ev,h5,h4];cases prs m l <;> simp [b2i]
     ·cases hp
    ·cases hp
  ·rename_i c d hnn1 hnn2
   split at hp
   ·rename_i ds hud
    split at hp
    ·rename_i b hb
     obtain ⟨k0,k2,k3,k4,k5,k6⟩:=eqNil_ok hud hb h1 h2 (w:=w) x y
     have k1:(Go.Op.equal t (a.eval x) (a.eval y)).run P w=.ok b w:=k0 9999
     have fin:∀ {op:BinOp},(op=.eql∨op=.neq)->o.op=.binOp op t x y yt->(execOp a.eval o).run P w=.ok (.value (.bool (eqRes op b))) w:=by
      intro op hop ho
      simp only [execOp,ho]
      exact run_bin_other hop k1 (k2 op) k3 k4 k5 k6
     split at hp
     ·cases hp
      refine ⟨_,fin (.inl rfl) ho,⟨trivial,trivial⟩,b2i_bit _,?_⟩
      exact congrArg Value.bool (decide_b2i _).symm
     ·cases hp
      refine ⟨_,fin (.inr rfl) ho,⟨trivial,trivial⟩,b2i_bit _,?_⟩
      exact congrArg Value.bool (decide_b2i _).symm
     ·cases hp
    ·cases hp
   ·cases hp
  ·cases hp
 ·cases hp
end
section
variable {P:Program} {w:World}
theorem run_sliceBound {v:Value} {k:IntKind} {n y:Nat} {code:BoundsCode} (hv:v=.int k (n:Int)) (hn:n<=y):(Instr.sliceBound v y code).run P w=.ok n w:=by
 subst hv
 simp [Instr.sliceBound,asIntOf]
 omega
theorem run_sliceBounds {b:Bool} {len cap:Nat} {lo hi:Option Value} {l h:Option Nat} (hl:∀ v,lo=some v->∃ n k,l=some n/\v=.int k (n:Int)) (hl0:lo=none->l=none)
  (hh:∀ v,hi=some v->∃ n k,h=some n/\v=.int k (n:Int)) (hh0:hi=none->h=none) (h1:h.getD len<=cap) (h2:l.getD 0<=h.getD len) :
  (Instr.sliceBounds b len cap lo hi none).run P w=.ok (l.getD 0,h.getD len,cap) w:=by
 cases hi with
 | none =>
  rw [hh0 rfl] at h1 h2 ⊢
  cases lo with
  | none=>rw [hl0 rfl];simp [Instr.sliceBounds]
  | some v=>obtain ⟨n,k,rfl,hv⟩:=hl v rfl;simp at h1 h2;simp [Instr.sliceBounds,run_sliceBound hv h2]
 | some u =>
  obtain ⟨n',k',rfl,hu⟩:=hh u rfl
  simp at h1 h2
  cases lo with
  | none=>rw [hl0 rfl];simp [Instr.sliceBounds,run_sliceBound hu h1]
  | some v=>obtain ⟨n,k,rfl,hv⟩:=hl v rfl;simp at h2;simp [Instr.sliceBounds,run_sliceBound hv h2,run_sliceBound hu h1]
end
theorem foldl_set (off:Nat):∀ (v:List Value) (k:Nat) (l:List Value),off+k+v.length<=l.length ->
  (v.zipIdx k).foldl (fun cs (p:Value×Nat)=>cs.set (off+p.2) p.1) l=l.take (off+k)++v++l.drop (off+k+v.length)
 | [],k,l,_=>by simp
 | x::v,k,l,h=>by
  simp only [List.zipIdx_cons,List.foldl_cons,List.length_cons] at h ⊢
  rw [foldl_set off v (k+1) _ (by simp;omega)]
  have e:=list_seg_step l (off+k) x v (by omega)
  simpa [Nat.add_assoc] using e
theorem foldl_arr (off:Nat) (v cells:Array Value) (h:off+v.size<=cells.size) :
  v.zipIdx.foldl (fun cs (x:Value×Nat)=>cs.setIfInBounds (off+x.2) x.1) cells=(cells.toList.take off++v.toList++cells.toList.drop (off+v.size)).toArray:=by
 have h0:=foldl_set off v.toList 0 cells.toList (by simpa using h)
 simp only [Nat.add_zero,Array.length_toList] at h0
 apply Array.ext'
 rw [<- h0,<- Array.foldl_toList,Array.toList_zipIdx]
 generalize v.toList.zipIdx 0=l
 clear h h0
 induction l generalizing cells with
 | nil=>rfl
 | cons x l ih=>simp only [List.foldl_cons];rw [ih];congr 1;simp
section
variable {P:Program} {T:List K} {w0:World} {m:M} {Y:St} {a:Act} {w:World} {o:Oper} {nn nid:Nat} {p:Plan}
theorem fill_ok {nv:Nat} {al:Nat->Bool} {place:Nat->Option (Nat×Nat)}:∀ (parts:List (Nat×Value)) (l:List (Nat×List C)),l.all (fun p=>p.2.all C.solid)=true ->
  (l.length=parts.length/\∀ (i:Nat) p q,l[i]?=some p->parts[i]?=some q->p.1=q.1/\∃ vs:List Value,q.2.cells=vs.toArray/\Rels m nv al p.2 vs) ->
  ∀ (cells cs:List C) (zs:List Value),Rels m nv al cells zs->fillC place cells l=some cs->∃ vs:List Value,Instr.fill place zs.toArray parts=some vs.toArray/\Rels m nv al cs vs:=by
 intro parts
 induction parts with
 | nil =>
  intro l _ hl cells cs zs hz h
  cases l with
  | nil=>simp [fillC] at h;subst h;exact ⟨zs,rfl,hz⟩
  | cons x l=>simp at hl
 | cons q parts ih =>
  intro l hs hl cells cs zs hz h
  cases l with
  | nil=>simp at hl
  | cons x l =>
   simp only [List.all_cons,Bool.and_eq_true] at hs
   obtain ⟨hlen,hrel⟩:=hl
   obtain ⟨h1,vs,h2,h3⟩:=hrel 0 x q rfl rfl
   obtain ⟨xi,xv⟩:=x
   obtain ⟨qi,qv⟩:=q
   simp only at h1 h2 h3
   subst h1
   unfold fillC at h
   unfold Instr.fill
   split at h
   ·cases h
   ·rename_i off size hp
    rw [hp]
    split at h
    ·cases h
    ·rename_i hn
     simp only [ne_eq,Bool.or_eq_true,decide_eq_true_eq,not_or,decide_not,Bool.not_eq_eq_eq_not,Bool.not_true] at hn
     have hlen':=Rels.length h3
     have hlz:=Rels.length hz
     have hc1:qv.cells.size=size:=by rw [h2];simp;simp at hn;omega
     have hc2:¬ off+qv.cells.size > zs.toArray.size:=by rw [h2];simp;simp at hn;omega
     simp only [hc1,ne_eq,not_true_eq_false,decide_false,Bool.false_or]
     rw [hc1] at hc2
     rw [if_neg (by simpa using hc2)]
     have hfold:=foldl_arr off qv.cells zs.toArray (by rw [hc1];simpa using hc2)
     refine (ih l hs.2 ⟨by simpa using hlen,fun i p q hp hq=>hrel (i+1) p q (by simpa using hp) (by simpa using hq)⟩ _ cs (zs.take off++vs++zs.drop (off+vs.length)) ?_ h).imp ?_
     ·rw [hlen']
      exact ((hz.take off).append h3).append (hz.drop _)
     ·rintro us ⟨hu1,hu2⟩
      refine ⟨?_,hu2⟩
      rw [<- hu1]
      congr 1
      rw [hfold,h2]
      simp
theorem parts_ok (h:Rep w0 m Y a w):∀ (ps:List (Nat×Operand)) (l:List (Nat×List C)),mapO (partOf Y) ps=some l ->
  l.all (fun p=>p.2.all C.solid)=true ->
  (l.length=(ps.map fun (i,x)=>(i,a.eval x)).length/\∀ (i:Nat) p q,l[i]?=some p->(ps.map fun (i,x)=>(i,a.eval x))[i]?=some q->p.1=q.1/\∃ vs:List Value,q.2.cells=vs.toArray/\Rels m Y.nv Y.al p.2 vs):=by
 intro ps
 induction ps with
 | nil=>intro l hl _;simp [mapO] at hl;subst hl;simp
 | cons x ps ih =>
  intro l hl hs
  unfold mapO at hl
  split at hl
  ·cases hl
  ·rename_i y hy
   split at hl
   ·cases hl
   ·rename_i ys hys
    cases hl
    simp only [List.all_cons,Bool.and_eq_true] at hs
    obtain ⟨h1,h2⟩:=ih ys hys hs.2
    refine ⟨by simpa using h1,fun i p q hp hq=>?_⟩
    cases i with
    | zero =>
     simp at hp hq
     subst hp hq
     unfold partOf at hy
     split at hy
     ·rename_i v hv
      cases hy
      obtain ⟨vs,g1,g2,_⟩:=V.rel_cells (h.v_ hv) hs.1
      exact ⟨rfl,vs,g1,g2⟩
     ·cases hy
    | succ i=>exact h2 i p q (by simpa using hp) (by simpa using hq)
end
end Go.Sx
