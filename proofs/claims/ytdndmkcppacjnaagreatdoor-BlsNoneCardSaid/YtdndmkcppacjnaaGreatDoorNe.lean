/- Part Ne of the proof. -/
import Derived.Test.YtdndmkcppacjnaaGreatDoorNd
import Derived.Test.YtdndmkcppacjnaaGreatDoorNb
import Derived.Test.YtdndmkcppacjnaaGreatDoorNc
import Derived.Deep.Slices
import Derived.Laws.OwnMore
import Derived.Maps.AppendAt
set_option linter.unusedVariables false
set_option linter.unusedSimpArgs false
namespace Go.Sx
open Go Go.RowKit
theorem LK.hasL.sub {k:LK} {l:List Int} (h:k.hasL l) (hi lo:Nat):k.hasL ((l.take hi).drop lo) :=
 ⟨by have:=h.1; simp only [List.length_drop,List.length_take]; omega,fun z hz=>h.2 z (List.mem_of_mem_take (List.mem_of_mem_drop hz))⟩
theorem has_u64 {x:Int} (h:has .u64 x):0 ≤ x ∧ x < 18446744073709551616:=by simp only [has,lo,hi] at h; omega
section
variable {T:List K} {m:M} {nv:Nat} {al:Nat → Bool}
theorem cEq_ok {c c':C} {v:Value} (h:cEq c c'=true) (hv:c'.rel m nv al v):v=cstV c:=by
 unfold cEq at h
 split at h <;> simp only [C.rel] at hv
 ·simp at h; obtain ⟨rfl,rfl⟩:=h; exact hv.2.2
 ·simp at h; subst h; exact hv.2.2
 ·simp at h; subst h; rw [hv.2]; rfl
 ·have h:=of_decide_eq_true h; subst h; exact hv
 all_goals (first | exact hv | cases h)
theorem uni_ok {as:List A} {n:Nat} (h:uni as=some n):as=[.limb n 0,.limb n 1,.limb n 2,.limb n 3,.limb n 4,.limb n 5]:=by
 unfold uni at h
 split at h
 ·split at h
  ·rename_i hh; simp at hh h; obtain ⟨⟨⟨⟨rfl,rfl⟩,rfl⟩,rfl⟩,rfl⟩:=hh; rw [h]
  ·cases h
 ·cases h
theorem lits_ok (e:Nat → Int):∀ (as:List A) (l:List Int),mapO A.lit? as=some l → as.map (·.ev e)=l:=by
 intro as
 induction as with
 | nil=>intro l hm; simp [mapO] at hm; subst hm; rfl
 | cons a as ih =>
  intro l hm
  unfold mapO at hm
  split at hm
  ·cases hm
  ·rename_i y hy
   split at hm
   ·cases hm
   ·rename_i ys hys
    cases hm
    simp only [List.map_cons,ih _ hys]
    congr 1
    cases a <;> simp [A.lit?] at hy
    subst hy; rfl
theorem litsJ_ok {as:List A} {n:Int} (h:litsJ as=some n) (e:Nat → Int):joinE (as.map (·.ev e))=n:=by
 unfold litsJ at h
 cases hm:mapO A.lit? as with
 | none=>simp [hm] at h
 | some l=>simp [hm] at h; rw [lits_ok e as l hm,h]
theorem numA_ok {nn:Nat} {a b c d e f:A} {v0 v1 v2 v3 v4 v5:Value}
  (h0:C.rel m nv al (.int .u64 a) v0) (h1:C.rel m nv al (.int .u64 b) v1) (h2:C.rel m nv al (.int .u64 c) v2) (h3:C.rel m nv al (.int .u64 d) v3) (h4:C.rel m nv al (.int .u64 e) v4) (h5:C.rel m nv al (.int .u64 f) v5) :
  (nv ≤ nn → GenOk T m.env nn (numA nn [a,b,c,d,e,f]).1 ∧ (numA nn [a,b,c,d,e,f]).2.ok (nn + (numA nn [a,b,c,d,e,f]).1.length)) ∧
  ∀ e',(∀ i,i < nv → e' i=m.env i) → Told T e' nn (numA nn [a,b,c,d,e,f]).1 →
   limbs ((numA nn [a,b,c,d,e,f]).2.ev e')=[v0,v1,v2,v3,v4,v5] ∧ 0 ≤ (numA nn [a,b,c,d,e,f]).2.ev e' ∧ (numA nn [a,b,c,d,e,f]).2.ev e' < N384:=by
 have hj:=limbs_join (has_u64 h0.2.1) (has_u64 h1.2.1) (has_u64 h2.2.1) (has_u64 h3.2.1) (has_u64 h4.2.1) (has_u64 h5.2.1)
 rw [← h0.2.2,← h1.2.2,← h2.2.2,← h3.2.2,← h4.2.2,← h5.2.2] at hj
 unfold numA
 cases hu:uni [a,b,c,d,e,f] with
 | some n =>
  have hu':=uni_ok hu
  simp only [List.cons.injEq,and_true] at hu'
  obtain ⟨rfl,rfl,rfl,rfl,rfl,rfl⟩:=hu'
  have hlt:n < nv:=h0.1.1
  refine ⟨fun hn=>⟨trivial,by simp only [A.ok]; omega⟩,fun e' he _=>?_⟩
  have hen:e' n=m.env n:=he n hlt
  refine ⟨?_,?_⟩
  ·rw [h0.2.2,h1.2.2,h2.2.2,h3.2.2,h4.2.2,h5.2.2]
   have hv:(A.var n).ev e'=m.env n:=hen
   rw [hv]
   rfl
  ·simp only [A.ev,hen]; exact h0.1.2
 | none =>
  simp only
  cases hl:litsJ [a,b,c,d,e,f] with
  | some n =>
   have:=litsJ_ok hl m.env
   simp only [List.map_cons,List.map_nil] at this
   rw [this] at hj
   exact ⟨fun _=>⟨trivial,trivial⟩,fun e' _ _=>hj⟩
  | none =>
   simp only
   have hok:∀ x ∈ [a,b,c,d,e,f],x.ok nv:=by
    intro x hx
    simp only [List.mem_cons,List.not_mem_nil,or_false] at hx
    rcases hx with rfl | rfl | rfl | rfl | rfl | rfl
    ·exact h0.1.1
    ·exact h1.1.1
    ·exact h2.1.1
    ·exact h3.1.1
    ·exact h4.1.1
    ·exact h5.1.1
   refine ⟨fun hn=>⟨⟨fun x hx=>A.ok_mono (hok x hx) hn,hj.2,trivial⟩,by simp [A.ok]⟩,fun e' he ht=>?_⟩
   have h6:=(ht 0 _ _ rfl).1
   simp only [Nat.add_zero] at h6
   simp only [A.ev]
   rw [h6,D.ev_congr (d:=.join [a,b,c,d,e,f]) hok he]
   exact hj
theorem intA_map {k:IntKind} {cs:List C} {as:List A} (h:mapO (intA k) cs=some as):cs=as.map (.int k):=by
 induction cs generalizing as with
 | nil=>simp [mapO] at h; subst h; rfl
 | cons c cs ih =>
  unfold mapO at h
  split at h
  ·cases h
  ·rename_i y hy
   split at h
   ·cases h
   ·rename_i ys hys
    cases h
    unfold intA at hy
    split at hy
    ·split at hy
     ·rename_i hk
      cases hy
      simp at hk
      subst hk
      rw [List.map_cons,← ih hys]
     ·cases hy
    ·cases hy
theorem ints_all:∀ {as:List A} {k:IntKind} {vs:List Value},Rels m nv al (as.map (.int k)) vs → vs=(as.map (·.ev m.env)).map (.int k) ∧ ∀ x ∈ as,x.wf nv m.env ∧ has k (x.ev m.env)
 | [],k,[],_=>⟨rfl,by simp⟩
 | a :: as,k,v :: vs,h=>by
  obtain ⟨h1,h2⟩:=ints_all (as:=as) h.2
  refine ⟨by simp only [List.map_cons]; rw [← h1,h.1.2.2],fun x hx=>?_⟩
  rcases List.mem_cons.1 hx with rfl | hx
  ·exact ⟨h.1.1,h.1.2.1⟩
  ·exact h2 x hx
theorem arrA_ok {nn:Nat} {k:IntKind} {as:List A} {vs:List Value} (hr:Rels m nv al (as.map (.int k)) vs) (hl:as.length ≤ 1024) :
  (nv ≤ nn → GenOk T m.env nn (arrA nn k as).1 ∧ (arrA nn k as).2.ok (nn + (arrA nn k as).1.length)) ∧ (arrA nn k as).1.length=1 ∧
  ∀ e',(∀ i,i < nv → e' i=m.env i) → Told T e' nn (arrA nn k as).1 → dec ((arrA nn k as).2.ev e')=as.map (·.ev m.env):=by
 obtain ⟨h1,h2⟩:=ints_all hr
 have hL:(LK.int k).hasL (as.map (·.ev m.env)):=⟨by rw [List.length_map]; omega,fun z hz=>by obtain ⟨x,hx,rfl⟩:=List.mem_map.1 hz; exact (h2 x hx).2⟩
 unfold arrA
 cases hu:eltU k as with
 | none =>
  refine ⟨fun hn=>⟨⟨⟨trivial,fun x hx=>A.ok_mono (h2 x hx).1.1 hn⟩,?_,trivial⟩,by show nn < nn + 1; omega⟩,rfl,fun e' he ht=>?_⟩
  ·simp only [KK.has,D.ev,A.ev,dec_zero,dec_enc,List.nil_append]
   exact ⟨hL,by rw [List.length_map]⟩
  ·have h0:=(ht 0 _ _ rfl).1
   simp only [Nat.add_zero,D.ev,A.ev,dec_zero,List.nil_append] at h0
   show dec (e' nn)=_
   rw [h0,dec_enc]
   exact List.map_congr_left fun x hx=>A.ev_congr (h2 x hx).1.1 he
 | some n =>
  obtain ⟨h3,h4⟩:=eltU_ok hu
  obtain ⟨h5,h6,h7⟩:=elt_len hu hr
  have key:(dec (m.env n)).take as.length=as.map (·.ev m.env):=by
   refine List.ext_getElem? fun i=>?_
   rw [List.getElem?_take,List.getElem?_map]
   split
   ·rename_i hi
    rw [List.getElem?_eq_getElem hi,Option.map_some,h4 i _ (List.getElem?_eq_getElem hi)]
    simp only [A.ev]
    rw [List.getD_eq_getElem?_getD,List.getElem?_eq_getElem (by omega)]; rfl
   ·rename_i hi
    rw [List.getElem?_eq_none (by omega)]; rfl
  refine ⟨fun hn=>⟨⟨⟨by show n < nn; omega,trivial,trivial⟩,?_,trivial⟩,by show nn < nn + 1; omega⟩,rfl,fun e' he ht=>?_⟩
  ·simp only [KK.has,D.ev,A.ev,dec_enc,Int.toNat_natCast,Int.toNat_zero,List.drop_zero,key]
   exact ⟨hL,by rw [List.length_map]⟩
  ·have h0:=(ht 0 _ _ rfl).1
   simp only [Nat.add_zero,D.ev,A.ev,Int.toNat_natCast,Int.toNat_zero,List.drop_zero] at h0
   show dec (e' nn)=_
   rw [h0,dec_enc,he n h7,key]
theorem takeLs_ok:∀ (ls:List L) (cs:List C) (nn:Nat) (ds:Defs) (as:List A),takeLs nn ls cs=some (ds,as) → ∀ (m:M) (nv:Nat) (vs:List Value),Rels m nv al cs vs →
  (nv ≤ nn → GenOk T m.env nn ds ∧ (∀ a ∈ as,a.ok (nn + ds.length))) ∧ as.length=lcount ls ∧
  ∀ e',(∀ i,i < nv → e' i=m.env i) → Told T e' nn ds → lvals ls (as.map (·.ev e'))=vs ∧ lhas ls (as.map (·.ev e')):=by
 intro ls
 induction ls with
 | nil =>
  intro cs nn ds as h m nv vs hr
  unfold takeLs at h
  split at h
  ·cases h
   match vs,hr with
   | [],_=>exact ⟨fun _=>⟨trivial,by simp⟩,rfl,fun e' _ _=>⟨rfl,trivial⟩⟩
  all_goals (rename_i hh; first | (exact absurd rfl hh) | (simp_all; done) | cases h)
 | cons l ls ih =>
  intro cs nn ds as h m nv vs hr
  unfold takeLs at h
  split at h
  ·rename_i hc; cases hc
  ·rename_i c ls' c' cs' hcl
   simp only [List.cons.injEq] at hcl
   obtain ⟨rfl,rfl⟩:=hcl
   split at h
   ·rename_i hce
    match vs,hr with
    | v :: vs,hr =>
     obtain ⟨g1,g3,g4⟩:=ih _ _ _ _ h m nv vs hr.2
     refine ⟨g1,by simp [lcount,L.n,g3],fun e' he ht=>?_⟩
     obtain ⟨g5,g6⟩:=g4 e' he ht
     exact ⟨by simp only [lvals]; rw [g5,← cEq_ok hce hr.1],g6⟩
   ·cases h
  ·rename_i k ls' k' a cs' hcl
   simp only [List.cons.injEq] at hcl
   obtain ⟨rfl,rfl⟩:=hcl
   split at h
   ·rename_i hk
    simp at hk
    subst hk
    cases hq:takeLs nn ls cs' with
    | none=>simp [hq] at h
    | some q =>
     obtain ⟨q1,q2⟩:=q
     simp [hq] at h
     obtain ⟨rfl,rfl⟩:=h
     match vs,hr with
     | v :: vs,hr =>
      obtain ⟨g1,g3,g4⟩:=ih _ _ _ _ hq m nv vs hr.2
      refine ⟨fun hn=>⟨(g1 hn).1,?_⟩,by simp [lcount,L.n,g3,Nat.add_comm],fun e' he ht=>?_⟩
      ·intro x hx
       rcases List.mem_cons.1 hx with rfl | hx
       ·exact A.ok_mono hr.1.1.1 (by omega)
       ·exact (g1 hn).2 x hx
      ·obtain ⟨g5,g6⟩:=g4 e' he ht
       have hev:a.ev e'=a.ev m.env:=A.ev_congr hr.1.1.1 he
       simp only [List.map_cons,hev]
       exact ⟨by simp only [lvals]; rw [g5,hr.1.2.2],hr.1.2.1,g6⟩
   ·cases h
  ·rename_i ls' a cs' hcl
   simp only [List.cons.injEq] at hcl
   obtain ⟨rfl,rfl⟩:=hcl
   have h':(takeLs nn ls cs').map (fun r=>(r.1,a :: r.2))=some (ds,as):=by
    split at h
    ·split at h
     ·exact h
     ·cases h
    ·exact h
   clear h
   cases hq:takeLs nn ls cs' with
   | none=>simp [hq] at h'
   | some q =>
    obtain ⟨q1,q2⟩:=q
    simp [hq] at h'
    obtain ⟨rfl,rfl⟩:=h'
    match vs,hr with
    | v :: vs,hr =>
     obtain ⟨g1,g3,g4⟩:=ih _ _ _ _ hq m nv vs hr.2
     refine ⟨fun hn=>⟨(g1 hn).1,?_⟩,by simp [lcount,L.n,g3,Nat.add_comm],fun e' he ht=>?_⟩
     ·intro x hx
      rcases List.mem_cons.1 hx with rfl | hx
      ·exact A.ok_mono hr.1.1.1 (by omega)
      ·exact (g1 hn).2 x hx
     ·obtain ⟨g5,g6⟩:=g4 e' he ht
      have hev:a.ev e'=a.ev m.env:=A.ev_congr hr.1.1.1 he
      simp only [List.map_cons,hev]
      exact ⟨by simp only [lvals]; rw [g5,hr.1.2.2],hr.1.2.1,g6⟩
  ·rename_i ls' a b c d e f cs' hcl
   simp only [List.cons.injEq] at hcl
   obtain ⟨rfl,rfl⟩:=hcl
   split at h
   ·cases h
   ·rename_i as6 h6
    split at h
    ·cases h
    ·rename_i r hq
     obtain ⟨q1,q2⟩:=r
     simp at h
     obtain ⟨rfl,rfl⟩:=h
     unfold sixA at h6
     split at h6
     ·rename_i a' b' c' d' e' f' hsix
      cases h6
      simp only [List.cons.injEq,and_true] at hsix
      obtain ⟨rfl,rfl,rfl,rfl,rfl,rfl⟩:=hsix
      match vs,hr with
      | v0 :: v1 :: v2 :: v3 :: v4 :: v5 :: vs,hr =>
       obtain ⟨r0,r1,r2,r3,r4,r5,hr⟩:=hr
       obtain ⟨n1,n3⟩:=numA_ok (T:=T) (nn:=nn) r0 r1 r2 r3 r4 r5
       obtain ⟨g1,g3,g4⟩:=ih _ _ _ _ hq m nv vs hr
       refine ⟨fun hn=>⟨gen_append _ _ _ _ (n1 hn).1 fun e1 he1 ht1=>?_,?_⟩,by simp [lcount,L.n,g3,Nat.add_comm],fun e2 he2 ht2=>?_⟩
       ·have hx:MExt m nv al {m with env:=e1 } nv al:=⟨fun i hi=>he1 i (by omega),fun _ _=>rfl,rfl,fun _ _=>rfl,Nat.le_refl _,fun _ h=>h⟩
        exact ((ih _ _ _ _ hq {m with env:=e1 } nv vs (hr.mono hx)).1 (by omega)).1
       ·intro x hx
        rcases List.mem_cons.1 hx with rfl | hx
        ·exact A.ok_mono (n1 hn).2 (by simp)
        ·exact A.ok_mono ((g1 (by omega)).2 x hx) (by simp; omega)
       ·rw [Told.append] at ht2
        obtain ⟨n4,n5⟩:=n3 e2 he2 ht2.1
        obtain ⟨g5,g6⟩:=g4 e2 he2 ht2.2
        simp only [List.map_cons,lvals,lhas,g5,n4]
        exact ⟨rfl,n5,g6⟩
     ·cases h6
  ·rename_i cs' k n ls' hcl
   simp only [List.cons.injEq] at hcl
   obtain ⟨rfl,rfl⟩:=hcl
   split at h
   ·cases h
   ·rename_i as1 h6
    split at h
    ·rename_i hln
     simp only [Bool.and_eq_true,beq_iff_eq,decide_eq_true_eq] at hln
     split at h
     ·cases h
     ·rename_i r hq
      obtain ⟨q1,q2⟩:=r
      simp at h
      obtain ⟨rfl,rfl⟩:=h
      have hr1:Rels m nv al (as1.map (.int k)) (vs.take n):=by rw [← intA_map h6]; exact hr.take n
      obtain ⟨h1,h2⟩:=ints_all hr1
      obtain ⟨n1,n2,n3⟩:=arrA_ok (T:=T) (nn:=nn) hr1 (by omega)
      obtain ⟨g1,g3,g4⟩:=ih _ _ _ _ hq m nv _ (hr.drop n)
      refine ⟨fun hn=>⟨gen_append _ _ _ _ (n1 hn).1 fun e1 he1 ht1=>?_,?_⟩,by simp [lcount,L.n,g3,Nat.add_comm],fun e2 he2 ht2=>?_⟩
      ·have hx:MExt m nv al {m with env:=e1 } nv al:=⟨fun i hi=>he1 i (by omega),fun _ _=>rfl,rfl,fun _ _=>rfl,Nat.le_refl _,fun _ h=>h⟩
       exact ((ih _ _ _ _ hq {m with env:=e1 } nv _ ((hr.drop n).mono hx)).1 (by omega)).1
      ·intro x hx
       rcases List.mem_cons.1 hx with rfl | hx
       ·exact A.ok_mono (n1 hn).2 (by simp)
       ·exact A.ok_mono ((g1 (by omega)).2 x hx) (by simp; omega)
      ·rw [Told.append] at ht2
       have n4:=n3 e2 he2 ht2.1
       obtain ⟨g5,g6⟩:=g4 e2 he2 ht2.2
       simp only [List.map_cons,lvals,lhas,g5,n4,← h1]
       refine ⟨List.take_append_drop n vs,⟨⟨by rw [List.length_map]; omega,fun z hz=>?_⟩,by rw [List.length_map]; exact hln.1⟩,g6⟩
       obtain ⟨x,hx,rfl⟩:=List.mem_map.1 hz
       exact (h2 x hx).2
    ·cases h
  ·cases h
end
theorem elt_rels_from {m:M} {nv nn:Nat} {al:Nat → Bool} {k:IntKind} {l:List Int} (he:dec (m.env nn)=l) (hk:(LK.int k).hasL l) (hn:nn < nv):∀ (n j:Nat),j + n=l.length → Rels m nv al (eltCs k nn n j) ((l.drop j).map (.int k))
 | 0,j,h=>by rw [List.drop_of_length_le (by omega)]; trivial
 | n + 1,j,h=>by
  have hj:j < l.length:=by omega
  rw [List.drop_eq_getElem_cons hj]
  have e1:A.ev m.env (.elt k nn j)=l[j]:=by simp only [A.ev,he]; simp [hj]
  refine ⟨⟨⟨hn,by simp only [A.good,he]; exact ⟨hk.2,hj⟩⟩,?_,?_⟩,elt_rels_from he hk hn n (j + 1) (by omega)⟩
  ·rw [e1]; exact hk.2 _ (List.getElem_mem hj)
  ·rw [e1]
theorem elt_rels {m:M} {nv nn:Nat} {al:Nat → Bool} {k:IntKind} {y:Int} {n:Nat} (he:m.env nn=y) (hk:(LK.int k).hasL (dec y)) (hl:(dec y).length=n) (hn:nn < nv):Rels m nv al (eltCs k nn n 0) ((dec y).map (.int k)):=by
 have:=elt_rels_from (m:=m) (nv:=nv) (al:=al) (l:=dec y) (by rw [he]) hk hn n 0 (by omega)
 simpa using this
section
variable {T:List K} {w0:World} {σ:St} {a:Act} {w:World}
theorem LL.sz_pos (l:LL):0 < l.sz:=by cases l <;> simp [LL.sz]
theorem sz_pos (k:LK):0 < k.sz:=by
 cases k with
 | num=>simp [LK.sz]
 | int k=>simp [LK.sz]
 | tup l ls=>have:=l.sz_pos; simp only [LK.sz]; omega
 | byt=>simp [LK.sz]
theorem leafs_vals:∀ (ls:List LL) (xs:List Int),lhas (ls.map LL.leaf) xs → lvals (ls.map LL.leaf) xs=llVals ls xs ∧ llHas ls xs
 | [],[],_=>⟨rfl,trivial⟩
 | [],_ :: _,h=>h.elim
 | l :: ls,[],h=>by cases l <;> exact h.elim
 | l :: ls,x :: xs,h=>by
  cases l with
  | num =>
   obtain ⟨i1,i2⟩:=leafs_vals ls xs h.2
   exact ⟨by show limbs x ++ lvals (ls.map LL.leaf) xs=limbs x ++ llVals ls xs; rw [i1],h.1,i2⟩
  | int k =>
   obtain ⟨i1,i2⟩:=leafs_vals ls xs h.2
   exact ⟨by show Value.int k x :: lvals (ls.map LL.leaf) xs=[Value.int k x] ++ llVals ls xs; rw [i1]; rfl,h.1,i2⟩
  | bit =>
   obtain ⟨i1,i2⟩:=leafs_vals ls xs h.2
   exact ⟨by show Value.bool (decide (x ≠ 0)) :: lvals (ls.map LL.leaf) xs=[Value.bool (decide (x ≠ 0))] ++ llVals ls xs; rw [i1]; rfl,h.1,i2⟩
theorem takeK_ok {k:LK} {nn:Nat} {cs:List C} {ds:Defs} {y:A} {al:Nat → Bool} (h:takeK nn k cs=some (ds,y)) (m:M) (nv:Nat) (vs:List Value) (hr:Rels m nv al cs vs) :
  (nv ≤ nn → GenOk T m.env nn ds ∧ y.ok (nn + ds.length)) ∧ ∀ e',(∀ i,i < nv → e' i=m.env i) → Told T e' nn ds → k.vals (y.ev e')=vs ∧ k.has (y.ev e'):=by
 have one:∀ {r:Option (Defs × List A)},oneA r=some (ds,y) → r=some (ds,[y]):=fun {r} h=>by
  unfold oneA at h
  split at h
  ·cases h; rfl
  ·cases h
 cases k with
 | num =>
  obtain ⟨g1,_,g4⟩:=takeLs_ok (T:=T) _ _ _ _ _ (one h) m nv vs hr
  refine ⟨fun hn=>⟨(g1 hn).1,(g1 hn).2 y (by simp)⟩,fun e' he ht=>?_⟩
  obtain ⟨g5,g6⟩:=g4 e' he ht
  exact ⟨by rw [← g5]; simp [lvals,LK.vals],g6.1⟩
 | int k =>
  obtain ⟨g1,_,g4⟩:=takeLs_ok (T:=T) _ _ _ _ _ (one h) m nv vs hr
  refine ⟨fun hn=>⟨(g1 hn).1,(g1 hn).2 y (by simp)⟩,fun e' he ht=>?_⟩
  obtain ⟨g5,g6⟩:=g4 e' he ht
  exact ⟨by rw [← g5]; rfl,g6.1⟩
 | byt=>cases h
 | tup l ls =>
  unfold takeK at h
  simp only at h
  split at h
  ·rename_i ds0 as htk
   cases h
   obtain ⟨g1,_,g4⟩:=takeLs_ok (T:=T) _ _ _ _ _ htk m nv vs hr
   refine ⟨fun hn=>⟨gen_append _ _ _ _ (g1 hn).1 fun e1 he1 ht1=>⟨⟨trivial,(g1 hn).2⟩,trivial,trivial⟩,?_⟩,fun e' he ht=>?_⟩
   ·show nn + ds0.length < nn + (ds0 ++ _).length
    simp
   ·obtain ⟨t1,t2⟩:=Told.append.1 ht
    have h0:e' (nn + ds0.length + 0)=enc (dec 0 ++ as.map (·.ev e')):=(t2 0 _ _ rfl).1
    rw [Nat.add_zero,dec_zero,List.nil_append] at h0
    obtain ⟨g5,g6⟩:=g4 e' he t1
    obtain ⟨g7,g8⟩:=leafs_vals (l :: ls) _ g6
    show (LK.tup l ls).vals (e' (nn + ds0.length))=vs ∧ (LK.tup l ls).has (e' (nn + ds0.length))
    rw [h0]
    show llVals (l :: ls) (dec (enc (as.map (·.ev e'))))=vs ∧ llHas (l :: ls) (dec (enc (as.map (·.ev e'))))
    rw [dec_enc]
    exact ⟨by rw [← g5,← g7],g8⟩
  ·cases h
theorem Rels_split {m:M} {nv:Nat} {al:Nat → Bool}:∀ (n:Nat) {cs:List C} {vs:List Value},Rels m nv al cs vs → Rels m nv al (cs.take n) (vs.take n) ∧ Rels m nv al (cs.drop n) (vs.drop n)
 | 0,_,_,h=>⟨trivial,h⟩
 | n + 1,[],[],_=>⟨trivial,trivial⟩
 | n + 1,[],_ :: _,h=>h.elim
 | n + 1,_ :: _,[],h=>h.elim
 | n + 1,_ :: _,_ :: _,h=>⟨⟨h.1,(Rels_split n h.2).1⟩,(Rels_split n h.2).2⟩
theorem takeNK_ok {k:LK} {al:Nat → Bool}:∀ (n nn:Nat) (cs:List C) (ds:Defs) (as:List A),takeNK k nn n cs=some (ds,as) → ∀ (m:M) (nv:Nat) (vs:List Value),Rels m nv al cs vs →
  (nv ≤ nn → GenOk T m.env nn ds ∧ (∀ a ∈ as,a.ok (nn + ds.length))) ∧ as.length=n ∧
  ∀ e',(∀ i,i < nv → e' i=m.env i) → Told T e' nn ds → flat k (as.map (·.ev e'))=vs ∧ ∀ x ∈ as.map (·.ev e'),k.has x
 | 0,nn,cs,ds,as,h,m,nv,vs,hr=>by
  unfold takeNK at h
  split at h
  ·cases h
   match vs,hr with
   | [],_=>exact ⟨fun _=>⟨trivial,by simp⟩,rfl,fun e' _ _=>⟨rfl,by simp⟩⟩
  ·cases h
 | n + 1,nn,cs,ds,as,h,m,nv,vs,hr=>by
  unfold takeNK at h
  split at h
  ·cases h
  ·rename_i d hd
   split at h
   ·cases h
   ·rename_i r hq
    cases h
    obtain ⟨q1,q2⟩:=Rels_split k.sz hr
    obtain ⟨n1,n3⟩:=takeK_ok (T:=T) (ds:=d.1) (y:=d.2) hd m nv _ q1
    obtain ⟨g1,g3,g4⟩:=takeNK_ok n _ _ r.1 r.2 hq m nv _ q2
    refine ⟨fun hn=>⟨gen_append _ _ _ _ (n1 hn).1 fun e1 he1 ht1=>?_,?_⟩,by rw [List.length_cons,g3],fun e2 he2 ht2=>?_⟩
    ·have hx:MExt m nv al {m with env:=e1 } nv al:=⟨fun i hi=>he1 i (by omega),fun _ _=>rfl,rfl,fun _ _=>rfl,Nat.le_refl _,fun _ h=>h⟩
     exact ((takeNK_ok n _ _ r.1 r.2 hq {m with env:=e1 } nv _ (q2.mono hx)).1 (by omega)).1
    ·intro x hx
     rcases List.mem_cons.1 hx with rfl | hx
     ·exact A.ok_mono (n1 hn).2 (by simp)
     ·exact A.ok_mono ((g1 (by omega)).2 x hx) (by simp; omega)
    ·rw [Told.append] at ht2
     obtain ⟨n4,n5⟩:=n3 e2 he2 ht2.1
     obtain ⟨g5,g6⟩:=g4 e2 he2 ht2.2
     refine ⟨?_,?_⟩
     ·show k.vals (d.2.ev e2) ++ flat k (r.2.map (·.ev e2))=vs
      rw [n4,g5,List.take_append_drop]
     ·intro x hx
      rcases List.mem_cons.1 hx with rfl | hx
      ·exact n5
      ·exact g6 x hx
theorem cellAdd_lt {w:World} {ad:Addr} {n:Nat} {v:Value} (h:w.cell? (ad.add n)=some v):ad.block < w.heap.size:=by
 have hb:(ad.add n).block=ad.block:=by unfold Addr.add; split <;> rfl
 unfold World.cell? at h
 rw [hb] at h
 rcases Nat.lt_or_ge ad.block w.heap.size with h' | h'
 ·exact h'
 ·rw [Array.getElem?_eq_none h'] at h; cases h
theorem takeSh_ok {s:Sh} {v:V} {nn:Nat} {ds:Defs} {as:List A} (h:takeSh σ nn s v=some (ds,as)) {m:M} (hrep:Rep w0 m σ a w) {u:Value} (hu:v.rel m σ.nv σ.al u) :
  (σ.nv ≤ nn → GenOk T m.env nn ds ∧ (∀ a ∈ as,a.ok (nn + ds.length))) ∧ as.length=lcount s.leaves ∧
  ∀ e',(∀ i,i < σ.nv → e' i=m.env i) → Told T e' nn ds → lhas s.leaves (as.map (·.ev e')) ∧ s.rel w (as.map (·.ev e')) u:=by
 unfold takeSh at h
 split at h
 ·rename_i l c
  obtain ⟨g1,g3,g4⟩:=takeLs_ok (T:=T) _ _ _ _ _ h m σ.nv [u] ⟨hu,trivial⟩
  refine ⟨g1,g3,fun e' he ht=>?_⟩
  obtain ⟨g5,g6⟩:=g4 e' he ht
  exact ⟨g6,g5.symm⟩
 ·rename_i ls cs
  obtain ⟨vs,rfl,hr⟩:=hu
  obtain ⟨g1,g3,g4⟩:=takeLs_ok (T:=T) _ _ _ _ _ h m σ.nv vs hr
  refine ⟨g1,g3,fun e' he ht=>?_⟩
  obtain ⟨g5,g6⟩:=g4 e' he ht
  exact ⟨g6,by simp only [Sh.rel]; rw [g5]⟩
 ·rename_i ls id off
  split at h
  ·cases h
  ·rename_i b hb
   obtain ⟨vs,hl,hr,hc⟩:=hrep.reads hb off ((b.cells.drop off).take (ls.foldl (fun n l=>n + (match l with | .num=>6 | .lst _=>0 | .arr _ n=>n | _=>1)) 0)).length (by rw [List.length_take]; omega)
   have e0:(b.cells.drop off).take ((b.cells.drop off).take (ls.foldl (fun n l=>n + (match l with | .num=>6 | .lst _=>0 | .arr _ n=>n | _=>1)) 0)).length=(b.cells.drop off).take (ls.foldl (fun n l=>n + (match l with | .num=>6 | .lst _=>0 | .arr _ n=>n | _=>1)) 0):=by
    rw [List.length_take,List.take_eq_take_iff]; omega
   rw [e0] at hr
   obtain ⟨g1,g3,g4⟩:=takeLs_ok (T:=T) _ _ _ _ _ h m σ.nv vs hr
   refine ⟨g1,g3,fun e' he ht=>?_⟩
   obtain ⟨g5,g6⟩:=g4 e' he ht
   refine ⟨g6,(m.rho id).1,(m.rho id).2 + off,hu.2,fun j x hj=>?_⟩
   rw [g5] at hj
   have:=hc j x hj
   rw [at_add] at this
   simpa [M.at,Nat.add_assoc] using this
 ·rename_i k id
  split at h
  ·rename_i r hr
   split at h
   ·rename_i hk
    cases h
    have hk:=LKeq_ok hk
    subst hk
    have hu:σ.al id=true ∧ u=m.sv id ∧ u.oneCell'=true:=hu
    obtain ⟨q1,q2,_,_,q3⟩:=hrep.row_ok hr
    refine ⟨fun hn=>⟨trivial,fun x hx=>?_⟩,rfl,fun e' he _=>?_⟩
    ·rw [List.mem_singleton.1 hx]; exact A.ok_mono q2.1 (by simpa using hn)
    ·simp only [List.map_cons,List.map_nil,Sh.leaves,lhas,Sh.rel,List.headD_cons]
     rw [A.ev_congr q2.1 he,hu.2.1]
     exact ⟨⟨q3.1,trivial⟩,q3.ro hrep.below.size⟩
   ·cases h
  ·cases h
 ·rename_i k
  cases h
  have hu:u=.slice none 0 0:=hu
  refine ⟨fun _=>⟨trivial,fun x hx=>by rw [List.mem_singleton.1 hx]; trivial⟩,rfl,fun e' _ _=>?_⟩
  simp only [List.map_cons,List.map_nil,Sh.leaves,lhas,Sh.rel,List.headD_cons,A.ev,dec_zero]
  exact ⟨⟨⟨by simp,by simp⟩,trivial⟩,.inl ⟨hu,rfl⟩⟩
 ·rename_i k x
  split at h
  ·rename_i hk
   cases h
   have hk:=LKeq_ok hk
   subst hk
   obtain ⟨b1,b2,b3,b4⟩:=(show C.rel m σ.nv σ.al (.rol x) u from hu)
   refine ⟨fun hn=>⟨trivial,fun y hx=>?_⟩,rfl,fun e' he _=>?_⟩
   ·rw [List.mem_singleton.1 hx]; exact A.ok_mono b1.1 (by simpa using hn)
   ·simp only [List.map_cons,List.map_nil,Sh.leaves,lhas,Sh.rel,List.headD_cons]
    rw [A.ev_congr b1.1 he]
    rw [hrep.base] at b3
    exact ⟨⟨b2,trivial⟩,b3.up hrep.below⟩
  ·cases h
 ·rename_i k id lo hi k'
  split at h
  ·rename_i r hr
   split at h
   ·rename_i hk
    simp only [Bool.and_eq_true] at hk
    cases h
    have hk1:=LKeq_ok hk.1
    have hk2:=LKeq_ok hk.2
    subst hk1
    subst hk2
    obtain ⟨b1,b2,b3,b4,b5,b6⟩:=(show C.rel m σ.nv σ.al (.slv id lo hi r.k) u from hu)
    obtain ⟨q1,q2,q5,q6,q3⟩:=hrep.row_ok hr
    rw [q3.lenV] at b4
    have ro:=(q3.ro hrep.below.size).view (lo:=(lo.ev m.env).toNat) (hi:=(hi.ev m.env).toNat) (by omega) (by omega) b5
    have hL:=q3.1.sub (hi.ev m.env).toNat (lo.ev m.env).toNat
    refine ⟨fun hn=>⟨⟨⟨A.ok_mono q2.1 hn,A.ok_mono b2.1 hn,A.ok_mono b3.1 hn⟩,by simp only [KK.has,D.ev,dec_enc]; exact hL,trivial⟩,fun x hx=>by rw [List.mem_singleton.1 hx]; show nn < nn + 1; omega⟩,rfl,fun e' he ht=>?_⟩
    have h0:=(ht 0 _ _ rfl).1
    simp only [Nat.add_zero,D.ev] at h0
    rw [A.ev_congr q2.1 he,A.ev_congr b2.1 he,A.ev_congr b3.1 he] at h0
    simp only [List.map_cons,List.map_nil,Sh.leaves,lhas,Sh.rel,List.headD_cons,A.ev,h0,dec_enc]
    exact ⟨⟨hL,trivial⟩,ro⟩
   ·cases h
  ·cases h
 ·rename_i k id
  split at h
  ·rename_i r hr
   split at h
   ·rename_i hk
    simp only [Bool.and_eq_true] at hk
    cases h
    have hk1:=LKeq_ok hk.1
    subst hk1
    have hu:σ.al id=true ∧ u=m.sv id ∧ u.oneCell'=true:=hu
    obtain ⟨q1,q2,q5,q6,q3⟩:=hrep.row_ok hr
    have hb:=q3.1.1
    refine ⟨fun hn=>⟨⟨A.ok_mono q5.1 hn,by simp only [KK.has,D.ev,q6,has,lo,hi]; omega,trivial⟩,fun x hx=>?_⟩,rfl,fun e' he ht=>?_⟩
    ·simp only [List.mem_cons,List.not_mem_nil,or_false] at hx
     rcases hx with rfl | rfl
     ·exact A.ok_mono q2.1 (by omega)
     ·show nn < nn + 1; omega
    ·have h0:=(ht 0 _ _ rfl).1
     simp only [Nat.add_zero,D.ev] at h0
     rw [A.ev_congr q5.1 he,q6] at h0
     obtain ⟨bb,cap,hsv⟩:=q3.len
     have hv0:A.ev e' (.var nn)=((dec (r.x.ev m.env)).length:Int):=h0
     have hx0:A.ev e' r.x=A.ev m.env r.x:=A.ev_congr q2.1 he
     show lhas [.lst r.k,.int .i64] [A.ev e' r.x,A.ev e' (.var nn)] ∧ lentAt r.k (fun v'=>RoRow w w r.k v' (dec (A.ev e' r.x))) (dec (A.ev e' r.x)) (A.ev e' (.var nn)) u
     rw [hx0,hv0]
     refine ⟨⟨q3.1,by simp only [has,lo,hi]; omega,trivial⟩,m.sv id,q3.ro hrep.below.size,q3.2.2 hk.2,by omega,?_⟩
     rw [hu.2.1,hsv,subV_zero,Int.toNat_natCast]
   ·cases h
  ·cases h
 ·rename_i k id lo hi k'
  split at h
  ·rename_i r hr
   split at h
   ·rename_i hk
    simp only [Bool.and_eq_true] at hk
    obtain ⟨⟨⟨hk1,hk2⟩,hk3⟩,hk4⟩:=hk
    cases h
    have hk1:=LKeq_ok hk1
    have hk2:=LKeq_ok hk2
    subst hk1
    subst hk2
    have hz0:=isZ_ok hk4
    subst hz0
    obtain ⟨b1,b2,b3,b4,b5,b6⟩:=(show C.rel m σ.nv σ.al (.slv id (.lit 0) hi r.k) u from hu)
    obtain ⟨q1,q2,q5,q6,q3⟩:=hrep.row_ok hr
    rw [q3.lenV] at b4
    have c1:0 ≤ hi.ev m.env:=b4.2.1
    have c2:hi.ev m.env ≤ ((dec (r.x.ev m.env)).length:Int):=b4.2.2.1
    have c3:=b4.2.2.2
    refine ⟨fun hn=>⟨trivial,fun x hx=>?_⟩,rfl,fun e' he ht=>?_⟩
    ·simp only [List.mem_cons,List.not_mem_nil,or_false] at hx
     rcases hx with rfl | rfl
     ·exact A.ok_mono q2.1 (by simpa using hn)
     ·exact A.ok_mono b3.1 (by simpa using hn)
    ·have hx0:A.ev e' r.x=A.ev m.env r.x:=A.ev_congr q2.1 he
     have hv0:A.ev e' hi=A.ev m.env hi:=A.ev_congr b3.1 he
     show lhas [.lst r.k,.int .i64] [A.ev e' r.x,A.ev e' hi] ∧ lentAt r.k (fun v'=>RoRow w w r.k v' (dec (A.ev e' r.x))) (dec (A.ev e' r.x)) (A.ev e' hi) u
     rw [hx0,hv0]
     exact ⟨⟨q3.1,by simp only [has,lo,Sx.hi]; omega,trivial⟩,m.sv id,q3.ro hrep.below.size,q3.2.2 hk3,⟨c1,c2⟩,isView.zero b5⟩
   ·cases h
  ·cases h
 ·rename_i k
  cases h
  have hu:u=.slice none 0 0:=hu
  refine ⟨fun _=>⟨trivial,fun x hx=>?_⟩,rfl,fun e' _ _=>?_⟩
  ·simp only [List.mem_cons,List.not_mem_nil,or_false] at hx
   rcases hx with rfl | rfl <;> trivial
  ·simp only [List.map_cons,List.map_nil,Sh.leaves,lhas,Sh.rel,List.headD_cons,A.ev,dec_zero]
   exact ⟨⟨⟨by simp,by simp⟩,⟨by simp [has,lo,hi],trivial⟩⟩,.slice none 0 0,.inl ⟨rfl,rfl⟩,rfl,by simp,by rw [hu]; rfl⟩
 ·rename_i k id off n c
  split at h
  ·cases h
  ·rename_i b hb
   split at h
   ·rename_i hcond
    simp only [Bool.and_eq_true,decide_eq_true_eq] at hcond
    obtain ⟨⟨⟨hn0,hnc⟩,hn2⟩,hlen⟩:=hcond
    split at h
    ·rename_i ds' as' htk
     cases h
     obtain ⟨vs,hvl,hr,hc⟩:=hrep.reads hb off (n * k.sz) hlen
     have hu:σ.al id=true ∧ u=.slice (some (m.at id off)) n c:=hu
     obtain ⟨g1,g3,g4⟩:=takeNK_ok (T:=T) _ _ _ _ _ htk m σ.nv vs hr
     have fin:∀ e',(∀ i,i < σ.nv → e' i=m.env i) → Told T e' nn ds' → k.hasL (as'.map (·.ev e')) ∧ RoRow w w k u (as'.map (·.ev e')):=fun e' he ht=>by
      obtain ⟨v1,v2⟩:=g4 e' he ht
      have hl:(as'.map (·.ev e')).length=n:=by rw [List.length_map,g3]
      have f1:=v1.symm
      refine ⟨⟨by rw [hl]; omega,v2⟩,.inr ⟨m.at id off,c,by rw [hl]; exact hu.2,?_,by rw [hl]; exact hnc,fun j x hj=>hc j x (by rw [f1]; exact hj)⟩⟩
      have hpos:0 < vs.length:=by
       rw [hvl]
       exact Nat.mul_pos hn0 (sz_pos k)
      have h0:=hc 0 _ (List.getElem?_eq_getElem hpos)
      exact (.inr (cellAdd_lt h0))
     refine ⟨fun hn=>⟨gen_append _ _ _ _ (g1 hn).1 fun e1 he1 ht1=>⟨⟨trivial,(g1 hn).2⟩,?_,trivial⟩,?_⟩,rfl,fun e' he ht=>?_⟩
     ·simp only [KK.has,D.ev,A.ev,dec_zero,dec_enc,List.nil_append]
      exact (fin e1 (fun i hi=>he1 i (by omega)) ht1).1
     ·intro x hx
      rw [List.mem_singleton.1 hx]
      show nn + ds'.length < nn + (ds' ++ _).length
      simp
     ·obtain ⟨t1,t2⟩:=Told.append.1 ht
      have h0:=(t2 0 _ _ rfl).1
      simp only [Nat.add_zero,D.ev,A.ev,dec_zero,List.nil_append] at h0
      obtain ⟨f1,f2⟩:=fin e' he t1
      simp only [List.map_cons,List.map_nil,Sh.leaves,lhas,Sh.rel,List.headD_cons,A.ev,h0,dec_enc]
      exact ⟨⟨f1,trivial⟩,f2⟩
    ·cases h
   ·cases h
 ·rename_i k id off hi n
  split at h
  ·cases h
  ·rename_i b hb
   split at h
   ·rename_i hcond
    simp only [Bool.and_eq_true,decide_eq_true_eq] at hcond
    obtain ⟨⟨hn0,hn2⟩,hlen⟩:=hcond
    split at h
    ·rename_i ds' as' htk
     cases h
     obtain ⟨vs,hvl,hr,hc⟩:=hrep.reads hb off (n * k.sz) hlen
     obtain ⟨hu1,hu2,hu3,hu4⟩:=(show C.rel m σ.nv σ.al (.slS id off hi n) u from hu)
     obtain ⟨g1,g3,g4⟩:=takeNK_ok (T:=T) _ _ _ _ _ htk m σ.nv vs hr
     have fin:∀ e',(∀ i,i < σ.nv → e' i=m.env i) → Told T e' nn ds' → k.hasL (as'.map (·.ev e')) ∧ k.hasL ((as'.map (·.ev e')).take (hi.ev m.env).toNat) ∧ RoRow w w k u ((as'.map (·.ev e')).take (hi.ev m.env).toNat):=fun e' he ht=>by
      obtain ⟨v1,v2⟩:=g4 e' he ht
      have hl:(as'.map (·.ev e')).length=n:=by rw [List.length_map,g3]
      have f1:=v1.symm
      have hl2:((as'.map (·.ev e')).take (hi.ev m.env).toNat).length=(hi.ev m.env).toNat:=by rw [List.length_take,hl]; omega
      refine ⟨⟨by rw [hl]; omega,v2⟩,⟨by rw [hl2]; omega,fun z hz=>v2 z (List.mem_of_mem_take hz)⟩,.inr ⟨m.at id off,n,by rw [hl2]; exact hu4,?_,by rw [hl2]; omega,fun j x hj=>?_⟩⟩
      ·have hpos:0 < vs.length:=by
        rw [hvl]
        exact Nat.mul_pos hn0 (sz_pos k)
       have h0:=hc 0 _ (List.getElem?_eq_getElem hpos)
       exact (.inr (cellAdd_lt h0))
      ·rw [flat_take,List.getElem?_take] at hj
       split at hj
       ·exact hc j x (by rw [f1]; exact hj)
       ·cases hj
     refine ⟨fun hn=>⟨gen_append _ _ _ _ (g1 hn).1 fun e1 he1 ht1=>⟨⟨trivial,(g1 hn).2⟩,?_,⟨by show nn + ds'.length < nn + ds'.length + 1; omega,trivial,A.ok_mono hu2.1 (by omega)⟩,?_,trivial⟩,?_⟩,rfl,fun e' he ht=>?_⟩
     ·simp only [KK.has,D.ev,A.ev,dec_zero,dec_enc,List.nil_append]
      exact (fin e1 (fun i hi=>he1 i (by omega)) ht1).1
     ·have hx:=fin e1 (fun i hi=>he1 i (by omega)) ht1
      have h1:∀ v:Int,A.ev (upd e1 (nn + ds'.length) v) hi=A.ev m.env hi:=fun v=>A.ev_congr hu2.1 fun i hi=>by simp only [upd]; rw [if_neg (by omega)]; exact he1 i (by omega)
      simp only [KK.has,D.ev,h1]
      simp only [A.ev,upd,if_true,dec_zero,dec_enc,List.nil_append,Int.toNat_zero,List.drop_zero]
      exact hx.2.1
     ·intro x hx
      rw [List.mem_singleton.1 hx]
      show nn + (ds'.length + 1) < nn + (ds' ++ _).length
      simp
     ·obtain ⟨t1,t2⟩:=Told.append.1 ht
      have h0:=(t2 0 _ _ rfl).1
      have h1:=(t2 1 _ _ rfl).1
      simp only [Nat.add_zero,D.ev,A.ev,dec_zero,List.nil_append] at h0
      obtain ⟨f1,f2,f3⟩:=fin e' he t1
      simp only [D.ev,A.ev_congr hu2.1 he] at h1
      simp only [A.ev,h0,dec_enc,Int.toNat_zero,List.drop_zero] at h1
      rw [Nat.add_assoc] at h1
      simp only [List.map_cons,List.map_nil,Sh.leaves,lhas,Sh.rel,List.headD_cons,A.ev,h1,dec_enc]
      exact ⟨⟨f2,trivial⟩,f3⟩
    ·cases h
   ·cases h
 ·cases h
theorem takeRs_ok:∀ (cs:List C) (nn:Nat) (ds:Defs) (as:List A),takeRs σ nn cs=some (ds,as) → ∀ {m:M},Rep w0 m σ a w → ∀ {us:List Value},Rels m σ.nv σ.al cs us →
  (σ.nv ≤ nn → GenOk T m.env nn ds ∧ (∀ a ∈ as,a.ok (nn + ds.length))) ∧ as.length=cs.length ∧
  ∀ e',(∀ i,i < σ.nv → e' i=m.env i) → Told T e' nn ds → ∀ (j:Nat) x,as[j]?=some x → (LK.int .u8).hasL (dec (x.ev e')) ∧ ∃ u,us[j]?=some u ∧ RoRow w w (.int .u8) u (dec (x.ev e')):=by
 intro cs
 induction cs with
 | nil =>
  intro nn ds as h m _ us hu
  cases h
  exact ⟨fun _=>⟨trivial,by simp⟩,rfl,fun e' _ _ j x hj=>by simp at hj⟩
 | cons c cs ih =>
  intro nn ds as h m hrep us hu
  cases us with
  | nil=>exact hu.elim
  | cons u us =>
   unfold takeRs at h
   split at h
   ·rename_i d1 y hd
    split at h
    ·rename_i r hr
     obtain ⟨r1,r2⟩:=r
     simp only [Option.some.injEq,Prod.mk.injEq] at h
     obtain ⟨rfl,rfl⟩:=h
     obtain ⟨g1,g3,g4⟩:=takeSh_ok (T:=T) hd hrep (u:=u) (show V.rel m σ.nv σ.al (.one c) u from hu.1)
     have tl:=ih _ _ _ hr hrep hu.2
     refine ⟨fun hn=>⟨gen_append _ _ _ _ (g1 hn).1 fun e1 he1 _=>?_,?_⟩,by simp [tl.2.1],fun e2 he2 ht2=>?_⟩
     ·have hx:MExt m σ.nv σ.al {m with env:=e1 } σ.nv σ.al:=⟨fun i hi=>he1 i (by omega),fun _ _=>rfl,rfl,fun _ _=>rfl,Nat.le_refl _,fun _ h=>h⟩
      exact ((ih _ _ _ hr (hrep.names e1 (fun i hi=>he1 i (by omega)) σ.nv (Nat.le_refl _)) (hu.2.mono hx)).1 (by show σ.nv ≤ _; omega)).1
     ·intro x hx
      rcases List.mem_cons.1 hx with rfl | hx
      ·exact A.ok_mono ((g1 hn).2 x (by simp)) (by simp)
      ·exact A.ok_mono ((tl.1 (by omega)).2 x hx) (by simp; omega)
     ·rw [Told.append] at ht2
      obtain ⟨h1,h2⟩:=g4 e2 he2 ht2.1
      have h3:=tl.2.2 e2 he2 ht2.2
      intro j x hj
      cases j with
      | zero =>
       simp at hj
       subst hj
       exact ⟨h1.1,u,rfl,h2⟩
      | succ j=>simpa using h3 j x (by simpa using hj)
    ·cases h
   ·cases h
theorem takeLl_ok {v:V} {nn:Nat} {ds:Defs} {as:List A} (h:takeLl σ nn v=some (ds,as)) {m:M} (hrep:Rep w0 m σ a w) {u:Value} (hu:v.rel m σ.nv σ.al u) :
  (σ.nv ≤ nn → GenOk T m.env nn ds ∧ (∀ a ∈ as,a.ok (nn + ds.length))) ∧ as.length=1 ∧
  ∀ e',(∀ i,i < σ.nv → e' i=m.env i) → Told T e' nn ds → lhas [.lst .byt] (as.map (·.ev e')) ∧ Sh.rel w (as.map (·.ev e')) .ll u:=by
 unfold takeLl at h
 split at h
 ·rename_i x
  cases h
  obtain ⟨b1,b2,b3⟩:=(show C.rel m σ.nv σ.al (.ll x) u from hu)
  refine ⟨fun hn=>⟨trivial,fun y hx=>?_⟩,rfl,fun e' he _=>?_⟩
  ·rw [List.mem_singleton.1 hx]; exact A.ok_mono b1.1 (by simpa using hn)
  ·simp only [List.map_cons,List.map_nil,lhas,Sh.rel,List.headD_cons]
   rw [A.ev_congr b1.1 he]
   rw [hrep.base] at b2
   exact ⟨⟨b2.1,trivial⟩,b2.up hrep.below⟩
 ·cases h
  have hu:u=.slice none 0 0:=hu
  refine ⟨fun _=>⟨trivial,fun x hx=>by rw [List.mem_singleton.1 hx]; trivial⟩,rfl,fun e' _ _=>?_⟩
  simp only [List.map_cons,List.map_nil,lhas,Sh.rel,List.headD_cons,A.ev,dec_zero]
  exact ⟨⟨⟨by simp,by simp⟩,trivial⟩,⟨by simp,by simp⟩,.inl ⟨hu,rfl⟩⟩
 ·rename_i id off n c
  split at h
  ·cases h
  ·rename_i b hb
   split at h
   ·rename_i hcond
    simp only [Bool.and_eq_true,decide_eq_true_eq] at hcond
    obtain ⟨⟨⟨hn0,hnc⟩,hn2⟩,hlen⟩:=hcond
    split at h
    ·rename_i r htk
     obtain ⟨ds',as'⟩:=r
     cases h
     obtain ⟨vs,hvl,hr,hc⟩:=hrep.reads hb off n hlen
     have hu:σ.al id=true ∧ u=.slice (some (m.at id off)) n c:=hu
     obtain ⟨g1,g3,g4⟩:=takeRs_ok (T:=T) _ _ _ _ htk hrep hr
     have g3:as'.length=n:=by rw [g3,List.length_take]; omega
     have fin:∀ e',(∀ i,i < σ.nv → e' i=m.env i) → Told T e' nn ds' → RoLol w u (as'.map (·.ev e')):=fun e' he ht=>by
      have v1:=g4 e' he ht
      have hl:(as'.map (·.ev e')).length=n:=by rw [List.length_map,g3]
      refine ⟨⟨by rw [hl]; omega,fun z hz=>?_⟩,.inr ⟨m.at id off,c,by rw [hl]; exact hu.2,?_,by rw [hl]; exact hnc,fun j x hj=>?_⟩⟩
      ·obtain ⟨x,hx,rfl⟩:=List.mem_map.1 hz
       obtain ⟨j,hj⟩:=List.mem_iff_getElem?.1 hx
       exact (v1 j x hj).1
      ·have hpos:0 < vs.length:=by rw [hvl]; exact hn0
       exact cellAdd_lt (hc 0 _ (List.getElem?_eq_getElem hpos))
      ·rw [List.getElem?_map] at hj
       obtain ⟨y,hy,rfl⟩:=Option.map_eq_some_iff.1 hj
       obtain ⟨_,u',k1,k2⟩:=v1 j y hy
       exact ⟨u',hc j u' k1,k2⟩
     refine ⟨fun hn=>⟨gen_append _ _ _ _ (g1 hn).1 fun e1 he1 ht1=>⟨⟨trivial,(g1 hn).2⟩,?_,trivial⟩,?_⟩,rfl,fun e' he ht=>?_⟩
     ·simp only [KK.has,D.ev,A.ev,dec_zero,dec_enc,List.nil_append]
      exact (fin e1 (fun i hi=>he1 i (by omega)) ht1).1
     ·intro x hx
      rw [List.mem_singleton.1 hx]
      show nn + ds'.length < nn + (ds' ++ _).length
      simp
     ·obtain ⟨t1,t2⟩:=Told.append.1 ht
      have h0:=(t2 0 _ _ rfl).1
      simp only [Nat.add_zero,D.ev,A.ev,dec_zero,List.nil_append] at h0
      have f2:=fin e' he t1
      simp only [List.map_cons,List.map_nil,lhas,Sh.rel,List.headD_cons,A.ev,h0,dec_enc]
      exact ⟨⟨f2.1,trivial⟩,f2⟩
    ·cases h
   ·cases h
 ·cases h
theorem takeArg_ok {s:Sh} {v:V} {nn:Nat} {ds:Defs} {as:List A} (h:takeArg σ nn s v=some (ds,as)) {m:M} (hrep:Rep w0 m σ a w) {u:Value} (hu:v.rel m σ.nv σ.al u) :
  (σ.nv ≤ nn → GenOk T m.env nn ds ∧ (∀ a ∈ as,a.ok (nn + ds.length))) ∧ as.length=lcount s.leaves ∧
  ∀ e',(∀ i,i < σ.nv → e' i=m.env i) → Told T e' nn ds → lhas s.leaves (as.map (·.ev e')) ∧ s.rel w (as.map (·.ev e')) u:=by
 cases s with
 | ll=>exact takeLl_ok h hrep hu
 | _=>exact takeSh_ok h hrep hu
theorem takeIns_ok:∀ (ss:List Sh) (vs:List V) (nn:Nat) (ds:Defs) (as:List A),takeIns σ nn ss vs=some (ds,as) → ∀ {m:M},Rep w0 m σ a w → ∀ {us:List Value},VRels m σ.nv σ.al vs us →
  (σ.nv ≤ nn → GenOk T m.env nn ds ∧ (∀ a ∈ as,a.ok (nn + ds.length))) ∧
  ∀ e',(∀ i,i < σ.nv → e' i=m.env i) → Told T e' nn ds → insRel w ss (as.map (·.ev e')) us:=by
 intro ss
 induction ss with
 | nil =>
  intro vs nn ds as h m _ us hu
  unfold takeIns at h
  split at h
  ·cases h
   match us,hu with
   | [],_=>exact ⟨fun _=>⟨trivial,by simp⟩,fun e' _ _=>⟨rfl,rfl⟩⟩
  ·simp_all
  ·cases h
 | cons s ss ih =>
  intro vs nn ds as h m hrep us hu
  unfold takeIns at h
  split at h
  ·simp_all
  ·rename_i s' ss' v vs' hss
   simp only [List.cons.injEq] at hss
   obtain ⟨rfl,rfl⟩:=hss
   split at h
   ·cases h
   ·rename_i d hd
    obtain ⟨d1,d2⟩:=d
    simp only at h
    split at h
    ·cases h
    ·rename_i r hr
     obtain ⟨r1,r2⟩:=r
     simp at h
     obtain ⟨rfl,rfl⟩:=h
     match us,hu with
     | u :: us,hu =>
      obtain ⟨g1,g3,g4⟩:=takeArg_ok (T:=T) hd hrep hu.1
      have tl:=ih _ _ _ _ hr hrep hu.2
      refine ⟨fun hn=>⟨gen_append _ _ _ _ (g1 hn).1 fun e1 he1 _=>?_,?_⟩,fun e2 he2 ht2=>?_⟩
      ·have hx:MExt m σ.nv σ.al {m with env:=e1 } σ.nv σ.al:=⟨fun i hi=>he1 i (by omega),fun _ _=>rfl,rfl,fun _ _=>rfl,Nat.le_refl _,fun _ h=>h⟩
       exact ((ih _ _ _ _ hr (hrep.names e1 (fun i hi=>he1 i (by omega)) σ.nv (Nat.le_refl _)) (hu.2.mono hx)).1 (by show σ.nv ≤ _; omega)).1
      ·intro x hx
       rcases List.mem_append.1 hx with hx | hx
       ·exact A.ok_mono ((g1 hn).2 x hx) (by simp)
       ·exact A.ok_mono ((tl.1 (by omega)).2 x hx) (by simp; omega)
      ·rw [Told.append] at ht2
       obtain ⟨h1,h2⟩:=g4 e2 he2 ht2.1
       have h3:=tl.2 e2 he2 ht2.2
       have e1:(List.map (fun x=>A.ev e2 x) d2 ++ List.map (fun x=>A.ev e2 x) r2).take (lcount s.leaves)=List.map (fun x=>A.ev e2 x) d2:=by
        rw [List.take_append_of_le_length (by simp [g3]),List.take_of_length_le (by simp [g3])]
       have e2':(List.map (fun x=>A.ev e2 x) d2 ++ List.map (fun x=>A.ev e2 x) r2).drop (lcount s.leaves)=List.map (fun x=>A.ev e2 x) r2:=by
        rw [List.drop_append_of_le_length (by simp [g3]),List.drop_of_length_le (by simp [g3])]; rfl
       simp only [List.map_append,insRel,e1,e2']
       exact ⟨h1,h2,h3⟩
  ·cases h
end
end Go.Sx
namespace Go.Sx
open Go Go.ChangeShapes Go.WideShapes Go.RowKit
variable {H:Type} {enc':TypeId × Value → H} {P:Program} {w:World} {base:Nat} {spare:Nat → Bool} {held:Bool}
theorem arr_cells {t e:TypeId} {n:Nat} {k:IntKind} (ht:P.underlying t=some (.array n e)) (he:P.underlying e=some (.int k)) (hce:P.cellsOf e=1) (hct:P.cellsOf t=n)
  {m:Nat} {cs:List Value} {d:DataW H × List MemPlace} (hf:DataW.trod enc' P w base spare held m t cs=some d) (hl:cs.length=n) :
  ∃ zs:List Int,zs.length=n ∧ cs=zs.map (fun z=>.int k z) ∧ ∀ z ∈ zs,(Lit.int k z).wf=true:=by
 cases m with
 | zero=>simp [DataW.trod] at hf
 | succ m =>
  rw [DataW.trod_step] at hf
  unfold DataW.trodStep at hf
  simp only [ht] at hf
  rw [if_pos (by rw [hct]; exact hl)] at hf
  simp only [Option.map_eq_some_iff] at hf
  obtain ⟨ys,hy,_⟩:=hf
  have hall:=mapM_each _ _ hy
  have hz:∀ i,i < n → ∃ z,cs[i]?=some (.int k z) ∧ (Lit.int k z).wf=true:=by
   intro i hi
   obtain ⟨y,hy⟩:=hall i (List.mem_range.2 hi)
   obtain ⟨z,e1,_,wz⟩:=DataW.trod_int he hy
   rw [hce,Nat.mul_one] at e1
   refine ⟨z,?_,wz⟩
   have:((cs.drop i).take 1)[0]?=some (.int k z):=by rw [e1]; rfl
   simpa using this
  have key:∀ (L:List Value),(∀ i,i < L.length → ∃ z,L[i]?=some (.int k z) ∧ (Lit.int k z).wf=true) → ∃ zs:List Int,zs.length=L.length ∧ L=zs.map (fun z=>.int k z) ∧ ∀ z ∈ zs,(Lit.int k z).wf=true:=by
   intro L
   induction L with
   | nil=>exact fun _=>⟨[],rfl,rfl,fun _ h=>by cases h⟩
   | cons a L ih =>
    intro h
    obtain ⟨z,e0,wz⟩:=h 0 (by simp)
    simp at e0
    subst e0
    obtain ⟨zs,h1,h2,h3⟩:=ih fun i hi=>by have:=h (i + 1) (by simpa using hi); simpa using this
    exact ⟨z :: zs,by simp [h1],by rw [h2]; rfl,fun y hy=>by rcases List.mem_cons.1 hy with rfl | hy; exact wz; exact h3 _ hy⟩
  obtain ⟨zs,h1,h2,h3⟩:=key cs (by rw [hl]; exact hz)
  exact ⟨zs,by rw [h1,hl],h2,h3⟩
theorem num_cells {t e:TypeId} (ht:P.underlying t=some (.array 6 e)) (he:P.underlying e=some (.int .u64)) (hce:P.cellsOf e=1) (hct:P.cellsOf t=6)
  {m:Nat} {cs:List Value} {d:DataW H × List MemPlace} (hf:DataW.trod enc' P w base spare held m t cs=some d) (hl:cs.length=6) :
  ∃ x:Int,(0 ≤ x ∧ x < N384) ∧ cs=limbs x:=by
 obtain ⟨zs,hl,rfl,hw⟩:=arr_cells ht he hce hct hf hl
 match zs,hl,hw with
 | [z0,z1,z2,z3,z4,z5],_,hw =>
  obtain ⟨x,h1,h2,h3⟩:=limbs_six z0 z1 z2 z3 z4 z5 (int_of_wf (hw _ (by simp))) (int_of_wf (hw _ (by simp))) (int_of_wf (hw _ (by simp))) (int_of_wf (hw _ (by simp))) (int_of_wf (hw _ (by simp))) (int_of_wf (hw _ (by simp)))
  exact ⟨x,⟨h1,h2⟩,by rw [h3]; rfl⟩
end Go.Sx
namespace Go.Sx
open Go Go.ChangeShapes Go.WideShapes Go.RowKit
variable {H:Type} {enc':TypeId × Value → H} {P:Program} {w:World} {base:Nat} {spare:Nat → Bool} {held:Bool}
theorem has_i64' {a:Int} (wa:(Lit.int .i64 a).wf=true):has .i64 a:=by
 simp [Lit.wf] at wa
 have q1:IntKind.i64.min=-9223372036854775808:=by decide +kernel
 have q2:IntKind.i64.max=9223372036854775807:=by decide +kernel
 have l:lo .i64=-9223372036854775808:=by decide +kernel
 have h:hi .i64=9223372036854775807:=by decide +kernel
 simp only [has,l,h]
 omega
end Go.Sx
namespace Go.Sx
open Go Go.ChangeShapes Go.WideShapes Go.RowKit
variable {H:Type} {enc':TypeId × Value → H} {P:Program} {w:World} {base:Nat} {spare:Nat → Bool} {held:Bool}
theorem la_append:∀ (a b:List L) (xs ys:List Int),lhas a xs → lhas b ys → lhas (a ++ b) (xs ++ ys) ∧ lvals (a ++ b) (xs ++ ys)=lvals a xs ++ lvals b ys
 | [],b,[],ys,_,h=>⟨h,rfl⟩
 | [],b,x :: xs,ys,h,_=>h.elim
 | .cst c :: a,b,xs,ys,h,h'=>by
  obtain ⟨h1,h2⟩:=la_append a b xs ys h h'
  exact ⟨h1,by simp only [List.cons_append,lvals,h2]⟩
 | .int k :: a,b,[],ys,h,_=>h.elim
 | .int k :: a,b,x :: xs,ys,h,h'=>by
  obtain ⟨h1,h2⟩:=la_append a b xs ys h.2 h'
  exact ⟨⟨h.1,h1⟩,by simp only [List.cons_append,lvals,h2]⟩
 | .bool :: a,b,[],ys,h,_=>h.elim
 | .bool :: a,b,x :: xs,ys,h,h'=>by
  obtain ⟨h1,h2⟩:=la_append a b xs ys h.2 h'
  exact ⟨⟨h.1,h1⟩,by simp only [List.cons_append,lvals,h2]⟩
 | .num :: a,b,[],ys,h,_=>h.elim
 | .num :: a,b,x :: xs,ys,h,h'=>by
  obtain ⟨h1,h2⟩:=la_append a b xs ys h.2 h'
  exact ⟨⟨h.1,h1⟩,by simp only [List.cons_append,lvals,h2,List.append_assoc]⟩
 | .lst k :: a,b,[],ys,h,_=>h.elim
 | .lst k :: a,b,x :: xs,ys,h,h'=>by
  obtain ⟨h1,h2⟩:=la_append a b xs ys h.2 h'
  exact ⟨⟨h.1,h1⟩,by simp only [List.cons_append,lvals,h2]⟩
 | .arr k n :: a,b,[],ys,h,_=>h.elim
 | .arr k n :: a,b,x :: xs,ys,h,h'=>by
  obtain ⟨h1,h2⟩:=la_append a b xs ys h.2 h'
  exact ⟨⟨h.1,h1⟩,by simp only [List.cons_append,lvals,h2,List.append_assoc]⟩
def isU64 (P:Program) (e:TypeId):Bool:=match P.underlying e with | some (.int .u64)=>true | _=>false
def fldLs (P:Program) (f:TypeId → Option (List L)):List Field → Nat → Option (List L)
 | [],_=>some []
 | x :: r,off=>if x.offset == off then match f x.type,fldLs P f r (off + P.cellsOf x.type) with
  | some a,some b=>some (a ++ b)
  | _,_=>none
  else none
def fldSz (P:Program):List Field → Nat
 | []=>0
 | x :: r=>P.cellsOf x.type + fldSz P r
def tyLs (P:Program):Nat → TypeId → Option (List L)
 | 0,_=>none
 | n + 1,t=>match P.underlying t with
  | some (.int k)=>if k == .i64 || k == .u64 then some [.int k] else none
  | some .bool=>some [.bool]
  | some (.array m e)=>if m == 6 && isU64 P e && P.cellsOf e == 1 && P.cellsOf t == 6 then some [.num]
   else if m == 2 && P.cellsOf t == P.cellsOf e + P.cellsOf e then match tyLs P n e with | some ls=>some (ls ++ ls) | none=>none else none
  | some (.struct fs)=>if fldSz P fs.toList == P.cellsOf t then fldLs P (tyLs P n) fs.toList 0 else none
  | _=>none
theorem has_u64' {a:Int} (wa:(Lit.int .u64 a).wf=true):has .u64 a:=by
 have:=int_of_wf wa
 have l:lo .u64=0:=by decide +kernel
 have h:hi .u64=18446744073709551615:=by decide +kernel
 simp only [has,l,h]
 omega
theorem fld_open {n:Nat} {m:Nat} (ih:∀ t ls,tyLs P n t=some ls → ∀ cs (d:DataW H × List MemPlace),DataW.trod enc' P w base spare held m t cs=some d → ∃ xs,lhas ls xs ∧ cs=lvals ls xs) :
  ∀ (fs:List Field) (off:Nat) (ls:List L) (cs:List Value),fldLs P (tyLs P n) fs off=some ls → cs.length=off + fldSz P fs → (∀ f ∈ fs,∃ d,DataW.trod enc' P w base spare held m f.type ((cs.drop f.offset).take (P.cellsOf f.type))=some d) → ∃ xs,lhas ls xs ∧ cs.drop off=lvals ls xs
 | [],off,ls,cs,h,hl,_=>by
  simp only [fldLs,Option.some.injEq] at h
  subst h
  exact ⟨[],trivial,by rw [List.drop_of_length_le (by simp [fldSz] at hl; omega)]; rfl⟩
 | x :: r,off,ls,cs,h,hl,hd=>by
  simp only [fldLs] at h
  split at h
  ·rename_i ho
   rw [beq_iff_eq] at ho
   split at h
   ·rename_i a b ha hb
    cases h
    simp only [fldSz] at hl
    obtain ⟨d,hd0⟩:=hd x (List.mem_cons_self ..)
    obtain ⟨xs,x1,x2⟩:=ih _ _ ha _ _ hd0
    obtain ⟨ys,y1,y2⟩:=fld_open ih r (off + P.cellsOf x.type) b cs hb (by omega) fun f hf=>hd f (List.mem_cons_of_mem _ hf)
    obtain ⟨k1,k2⟩:=la_append a b xs ys x1 y1
    refine ⟨xs ++ ys,k1,?_⟩
    rw [k2,← x2,← y2,ho,← List.drop_drop,List.take_append_drop]
   ·cases h
  ·cases h
theorem flat_open:∀ (n:Nat) (t:TypeId) (ls:List L),tyLs P n t=some ls → ∀ (m:Nat) (cs:List Value) (d:DataW H × List MemPlace),DataW.trod enc' P w base spare held m t cs=some d → ∃ xs,lhas ls xs ∧ cs=lvals ls xs
 | 0,_,_,h,_,_,_,_=>by cases h
 | n + 1,t,ls,h,m,cs,d,hd=>by
  simp only [tyLs] at h
  split at h
  ·rename_i k hk
   split at h
   ·rename_i hkk
    cases h
    obtain ⟨z,rfl,_,wz⟩:=DataW.trod_int hk hd
    simp only [Bool.or_eq_true,beq_iff_eq] at hkk
    rcases hkk with rfl | rfl
    ·exact ⟨[z],⟨has_i64' wz,trivial⟩,rfl⟩
    ·exact ⟨[z],⟨has_u64' wz,trivial⟩,rfl⟩
   ·cases h
  ·rename_i hk
   cases h
   obtain ⟨b,rfl,_⟩:=DataW.trod_bool hk hd
   cases b
   ·exact ⟨[0],⟨⟨by decide,by decide⟩,trivial⟩,rfl⟩
   ·exact ⟨[1],⟨⟨by decide,by decide⟩,trivial⟩,rfl⟩
  ·rename_i j e hk
   split at h
   ·rename_i hc
    simp only [Bool.and_eq_true,beq_iff_eq] at hc
    obtain ⟨⟨⟨h1,h2⟩,h3⟩,h4⟩:=hc
    cases h
    subst h1
    have he:P.underlying e=some (.int .u64):=by
     unfold isU64 at h2
     split at h2
     ·assumption
     ·cases h2
    obtain ⟨_,_,_,_,hl,_,_⟩:=DataW.trod_array hk hd
    obtain ⟨x,hx,rfl⟩:=num_cells hk he h3 h4 hd (by rw [hl,h4])
    exact ⟨[x],⟨hx,trivial⟩,by simp [lvals]⟩
   ·split at h
    ·rename_i hc
     simp only [Bool.and_eq_true,beq_iff_eq] at hc
     obtain ⟨h1,h2⟩:=hc
     subst h1
     split at h
     ·rename_i ls' hls
      cases h
      obtain ⟨ys,m',rfl,_,hl,hl2,hel⟩:=DataW.trod_array hk hd
      match ys,hl2 with
      | [y0,y1],_ =>
       have e0:=hel 0 (by decide)
       have e1:=hel 1 (by decide)
       obtain ⟨xs,x1,x2⟩:=flat_open n e ls' hls m' _ _ e0
       obtain ⟨zs,z1,z2⟩:=flat_open n e ls' hls m' _ _ e1
       obtain ⟨k1,k2⟩:=la_append ls' ls' xs zs x1 z1
       refine ⟨xs ++ zs,k1,?_⟩
       rw [k2,← x2,← z2,Nat.zero_mul,List.drop_zero,Nat.one_mul]
       rw [List.take_of_length_le (l:=cs.drop _) (by rw [List.length_drop]; omega),List.take_append_drop]
     ·cases h
    ·cases h
  ·rename_i fs hk
   split at h
   ·rename_i hc
    rw [beq_iff_eq] at hc
    obtain ⟨ys,m',rfl,_,hl,hl2,hel⟩:=DataW.trod_struct hk hd
    have:=fld_open (P:=P) (H:=H) (enc':=enc') (w:=w) (base:=base) (spare:=spare) (held:=held) (n:=n) (m:=m') (fun t ls ht cs d hd=>flat_open n t ls ht m' cs d hd) fs.toList 0 ls cs h (by omega) fun f hf=>by
     obtain ⟨i,hi,rfl⟩:=List.getElem_of_mem hf
     have hi':i < fs.size:=by simpa using hi
     have:=hel i (fs[i]) (by simp [hi'])
     have hy:i < ys.length:=by omega
     exact ⟨ys[i],by rw [Array.getElem_toList,this]; simp [hy]⟩
    simpa using this
   ·cases h
  ·cases h
theorem open_flat {n:Nat} {t:TypeId} {ls:List L} (hls:tyLs P n t=some ls) (hag:(match P.underlying t with | some (.struct _)=>true | some (.array _ _)=>true | _=>false)=true)
  {r:Reach} {b0:Nat} {v:Value} {d:DataW H} {p:List MemPlace} (hval:Value.okWide P w r b0 t v) (hd:DataW.Trod enc' P w base spare held t v d p) :
  ∃ xs:List Int,lhas ls xs ∧ v=.agg (lvals ls xs).toArray:=by
 obtain ⟨cs,rfl⟩:∃ cs,v=.agg cs:=by
  split at hag
  ·rename_i hk
   simp only [Value.okWide,hk] at hval
   obtain ⟨cs,rfl,_⟩:=hval
   exact ⟨cs,rfl⟩
  ·rename_i hk
   simp only [Value.okWide,hk] at hval
   obtain ⟨cs,rfl,_⟩:=hval
   exact ⟨cs,rfl⟩
  ·cases hag
 obtain ⟨fuel,hf⟩:=hd
 obtain ⟨xs,h1,h2⟩:=flat_open n t ls hls fuel _ _ hf
 exact ⟨xs,h1,by rw [← h2]; simp [Value.cells]⟩
end Go.Sx
namespace Go.Sx
open Go Go.ChangeShapes Go.WideShapes Go.RowKit
variable {H:Type} {enc':TypeId × Value → H} {P:Program} {w:World} {base:Nat} {spare:Nat → Bool} {held:Bool}
end Go.Sx
namespace Go.Sx
open Go Go.RowKit
theorem leaf_vals {k:LK} {x:Int} (hk:∀ l ls,k ≠ .tup l ls):lvals [k.leaf] [x]=k.vals x:=by
 cases k with
 | num=>simp [LK.leaf,lvals,LK.vals]
 | int k=>simp [LK.leaf,lvals,LK.vals]
 | tup l ls=>exact absurd rfl (hk l ls)
 | byt=>rfl
theorem LL.vals_one (l:LL) (x:Int):∀ u ∈ l.vals x,u.oneCell'=true:=by
 cases l with
 | num=>intro u hu; simp only [LL.vals,limbs,List.mem_map] at hu; obtain ⟨j,_,rfl⟩:=hu; rfl
 | int k=>intro u hu; simp only [LL.vals,List.mem_singleton] at hu; subst hu; rfl
 | bit=>intro u hu; simp only [LL.vals,List.mem_singleton] at hu; subst hu; rfl
theorem llVals_one:∀ (ls:List LL) (xs:List Int),∀ u ∈ llVals ls xs,u.oneCell'=true
 | [],_,u,hu=>by cases hu
 | l :: ls,xs,u,hu=>by
  rcases List.mem_append.1 hu with hu | hu
  ·exact LL.vals_one l _ u hu
  ·exact llVals_one ls _ u hu
theorem vals_one (k:LK) (x:Int):∀ u ∈ k.vals x,u.oneCell'=true:=by
 cases k with
 | num=>intro u hu; simp only [LK.vals,limbs,List.mem_map] at hu; obtain ⟨j,_,rfl⟩:=hu; rfl
 | int k=>intro u hu; simp only [LK.vals,List.mem_singleton] at hu; subst hu; rfl
 | tup l ls=>exact llVals_one (l :: ls) _
 | byt=>intro u hu; simp only [LK.vals,List.mem_singleton] at hu; subst hu; rfl
theorem flat_cons (k:LK) (x:Int) (l:List Int):flat k (x :: l)=k.vals x ++ flat k l:=rfl
theorem flat_set (k:LK):∀ (l:List Int) (i:Nat) (y:Int),i < l.length → flat k (l.set i y)=(flat k l).take (i * k.sz) ++ k.vals y ++ (flat k l).drop (i * k.sz + k.sz)
 | [],i,y,h=>by simp at h
 | x :: l,0,y,_=>by
  rw [List.set_cons_zero,flat_cons,flat_cons,Nat.zero_mul,Nat.zero_add,List.take_zero,List.nil_append,← vals_len k x,List.drop_left]
 | x :: l,i + 1,y,h=>by
  have hi:=flat_set k l i y (by simpa using h)
  rw [List.set_cons_succ,flat_cons,hi,flat_cons]
  have e1:(i + 1) * k.sz=(k.vals x).length + i * k.sz:=by rw [vals_len,Nat.add_mul]; omega
  rw [e1,Nat.add_assoc,List.take_length_add_append,List.drop_length_add_append]
  simp [List.append_assoc]
theorem take_mid {α:Type} {c vs:List α} {off n:Nat} (h:off + vs.length ≤ n):(c.take off ++ vs ++ c.drop (off + vs.length)).take n=(c.take n).take off ++ vs ++ (c.take n).drop (off + vs.length):=by
 by_cases hc:off ≤ c.length
 ·rw [List.append_assoc,List.take_append,List.take_append,List.take_of_length_le (l:=c.take off) (by rw [List.length_take]; omega),List.take_of_length_le (l:=vs) (by rw [List.length_take]; omega),
   List.take_take,Nat.min_eq_left (by omega),List.append_assoc,List.length_take,Nat.min_eq_left hc,List.drop_take,Nat.sub_sub]
 ·have hc':c.length ≤ off:=by omega
  rw [List.take_of_length_le hc',List.drop_of_length_le (by omega),List.append_nil,List.take_of_length_le (l:=c ++ vs) (by rw [List.length_append]; omega),List.take_of_length_le (l:=c.take n) (by rw [List.length_take]; omega),
   List.take_of_length_le (l:=c) (by omega),List.drop_of_length_le (by omega),List.append_nil]
section
variable {P:Program} {T:List K} {w0:World} {m:M} {σ:St} {a:Act} {w:World} {o:Oper} {nn nid:Nat} {p:Plan}
theorem flat_u8 (l:List Int):flat (.int .u8) l=l.map (Value.int .u8):=by
 induction l with
 | nil=>rfl
 | cons x l ih=>simp only [flat,List.flatMap_cons,List.map_cons] at *; rw [ih]; rfl
theorem takeLst_wf {k:LK} {v:V} {ds:Defs} {y:A} (ht:takeSh σ nn (.lst k) v=some (ds,[y])) (h:Rep w0 m σ a w) (hd:DefsOk T m.env σ.nv nn ds) {u:Value} (hu:v.rel m σ.nv σ.al u):y.wf σ.nv m.env:=by
 have hlt:=hd.1
 cases v with
 | agg cs=>cases ht
 | one c =>
  cases c with
  | sl id =>
   simp only [takeSh] at ht
   split at ht
   ·rename_i r hr
    split at ht
    ·cases ht; exact (h.row_ok hr).2.1
    ·cases ht
   ·cases ht
  | nilslice=>cases ht; exact ⟨trivial,trivial⟩
  | rol x =>
   simp only [takeSh] at ht
   split at ht
   ·cases ht; exact (show C.rel m σ.nv σ.al (.rol y) u from hu).1
   ·cases ht
  | slv id lo hi k' =>
   simp only [takeSh] at ht
   split at ht
   ·split at ht
    ·cases ht
     simp only [List.length_cons,List.length_nil] at hlt
     exact ⟨by show nn < σ.nv; omega,trivial⟩
    ·cases ht
   ·cases ht
  | slice id off n c =>
   simp only [takeSh] at ht
   split at ht
   ·cases ht
   ·split at ht
    ·split at ht
     ·cases ht
      simp only [List.length_append,List.length_cons,List.length_nil] at hlt
      exact ⟨by show nn + _ < σ.nv; omega,trivial⟩
     ·cases ht
    ·cases ht
  | slS id off hi n =>
   simp only [takeSh] at ht
   split at ht
   ·cases ht
   ·split at ht
    ·split at ht
     ·cases ht
      simp only [List.length_append,List.length_cons,List.length_nil] at hlt
      exact ⟨by show nn + _ < σ.nv; omega,trivial⟩
     ·cases ht
    ·cases ht
  | _=>cases ht
theorem pure_convert {s d:TypeId} {x:Operand} (h:Rep w0 m σ a w) (ho:o.op=.convert s d x) (hm:markP P σ s d x=none) (hp:plan P T σ nn nid o.op=.ok p) (hd:DefsOk T m.env σ.nv nn p.defs):PureOk P m σ a w o p.val:=by
 rw [ho] at hp
 simp only [plan,hm] at hp
 split at hp
 ·rename_i ds k k' y hs hu hx
  have h1:=h.cell hx
  have key:(execOp a.eval o).run P w=.ok (.value (.int k (wr k (y.ev m.env)))) w:=by
   simp only [execOp,ho,h1.2.2,convert]
   simp [run_underlying hs,run_underlying hu,Conv.intToInt,wr_eq]
  split at hp
  ·rename_i hk
   cases hp
   have h2:=subKind_has hk h1.2.1
   rw [wr_id h2] at key
   exact ⟨_,key,h1.1,h2,rfl⟩
  ·obtain ⟨z,hz,hk,he⟩:=mkP_ok hp hd
   rw [hz]
   refine ⟨_,key,hk,by rw [he]; exact wr_has _ _,?_⟩
   rw [he]; rfl
 ·rename_i e c hs hu hx
  have h1:=h.cell hx
  split at hp
  ·rename_i ds y he htk
   cases hp
   obtain ⟨_,g3,g4⟩:=takeSh_ok (T:=T) htk h (u:=a.eval x) h1
   obtain ⟨f1,f2⟩:=g4 m.env (fun _ _=>rfl) hd.2
   have f1:(LK.int .u8).hasL (dec (y.ev m.env)):=f1.1
   have f2:RoRow w w (.int .u8) (a.eval x) (dec (y.ev m.env)):=f2
   have wy:=takeLst_wf htk h hd (u:=a.eval x) h1
   refine ⟨.string (strOfNums (dec (y.ev m.env))),?_,wy,f1,rfl⟩
   generalize dec (y.ev m.env)=l at *
   rcases f2 with ⟨k1,k2⟩ | ⟨ad,cap,k1,_,k3,k4⟩
   ·simp only [execOp,ho,k1]
    rw [k2]
    simp [run_convert_bytes_nil w s e hs he 0 0 d hu,strOfNums]
    rfl
   ·have hl:(loadCells ad l.length).run P w=.ok (l.map (Value.int .u8)).toArray w:=by
     have:=run_loadCells_list (P:=P) w ad (l.map (Value.int .u8)) (fun j v hj=>k4 j v (by rw [flat_u8]; exact hj))
     rwa [List.length_map] at this
    simp only [execOp,ho,k1]
    simp [run_convert_bytes_string w s d e (some ad) l.length cap hs he hu,run_bytesToString w ad l.length cap l hl,foldl_push_bytes,strOfNums]
  ·cases hp
 ·cases hp
theorem List.set_map_int {k:IntKind} (l:List Int) (q:Nat) (x:Int):(l.map (Value.int k)).set q (.int k x)=(l.set q x).map (Value.int k):=by
 rw [List.map_set]
theorem markP_spec {s d:TypeId} {x:Operand} {p:Plan} (hm:markP P σ s d x=some p):∃ id n n' b e,d=s ∧ P.underlying s=some (.slice e) ∧ P.underlying e=some (.int .u8) ∧ σ.cell x=some (.slice id 0 n n') ∧ σ.box id=some b ∧ b.own=true ∧ b.fz=(0,0) ∧ b.cells.length=n ∧ p={val:=.vl (.one (.slice id 0 n n')),eff:=.wr id .mark }:=by
 unfold markP at hm
 split at hm
 ·rename_i hsd
  have hsd:s=d:=by simpa using hsd
  subst hsd
  split at hm
  ·rename_i e id n n' hu hx
   split at hm
   ·rename_i b he hb
    split at hm
    ·rename_i hc
     simp only [Bool.and_eq_true,beq_iff_eq] at hc
     obtain ⟨⟨⟨c1,c2⟩,c3⟩,c4⟩:=hc
     cases hm
     exact ⟨id,n,n',b,e,rfl,hu,he,hx,hb,c1,c2,c4,rfl⟩
    ·cases hm
   ·cases hm
  ·cases hm
 ·cases hm
theorem mark_ok {s d:TypeId} {x:Operand} {p:Plan} (h:Rep w0 m σ a w) (ho:o.op=.convert s d x) (hm:markP P σ s d x=some p) :
  ∃ (id:Nat) (b:Box) (w':World) (c:C) (v:Value),p.val=.vl (.one c) ∧ p.eff=.wr id .mark ∧ σ.boxes[id]?=some (some b) ∧ (execOp a.eval o).run P w=.ok (.value v) w' ∧ c.rel m σ.nv σ.al v ∧ Rep w0 m (σ.setBox id (b.upd .mark)) a w':=by
 obtain ⟨id,n,n',b,e,rfl,hu,he,hx,hb,c1,c2,c3,rfl⟩:=markP_spec hm
 have h1:=h.cell hx
 obtain ⟨hz,hge,us,hus,hrels⟩:=h.own id b (box_some hb) c1
 rw [c2] at hus
 have hl:=Rels.length hrels
 let f:Obj → Obj:=fun | .cells c elem (lo,hi)=>.cells c elem (if lo == hi then (us.length,us.length + 1) else (min lo us.length,max hi (us.length + 1))) | o=>o
 refine ⟨id,b,{w with heap:=w.heap.modify (m.rho id).1 f },_,_,rfl,rfl,box_some hb,?_,h1,h.mark (f:=f) (box_some hb) c1 hus hl.symm (by simp [f])⟩
 have had:m.at id 0=⟨(m.rho id).1,0,none⟩:=by simp [M.at,hz]
 have hsh:w.shape? (m.rho id).1=some (b.elem,us.length):=by
  unfold World.shape?
  rw [hus]; simp
 simp only [execOp,ho,h1.2,had]
 have hfr:w.freeze ⟨(m.rho id).1,us.length,none⟩ 1={w with heap:=w.heap.modify (m.rho id).1 f }:=by
  unfold World.freeze
  rw [if_neg (by decide)]
  rfl
 simp [convert,run_underlying hu,run_underlying he,markStringish,hsh]
 exact hfr
def Stored (P:Program) (w0:World) (m:M) (σ:St) (a:Act) (w:World) (o:Oper) (p:Plan):Prop :=
 ∃ (id:Nat) (u:Upd) (b:Box) (w':World),p.val=.tup [] ∧ p.eff=.wr id u ∧ σ.boxes[id]?=some (some b) ∧ (execOp a.eval o).run P w=.ok .skip w' ∧ Rep w0 m (σ.setBox id (b.upd u)) a w'
theorem run_store_ok {t:TypeId} {x y:Operand} (h:Rep w0 m σ a w) (ho:o.op=.store t x y) (hp:plan P T σ nn nid o.op=.ok p) (hD:DefsOk T m.env σ.nv nn p.defs) :
  Stored P w0 m σ a w o p:=by
 rw [ho] at hp
 simp only [plan] at hp
 split at hp
 ·rename_i id off v hx hy
  have h1:=h.cell hx
  split at hp
  ·rename_i b n hb hn
   split at hp
   ·rename_i hc
    simp only [Bool.and_eq_true,decide_eq_true_eq,beq_iff_eq] at hc
    obtain ⟨⟨⟨⟨hc1,hcf⟩,hc2⟩,hc3⟩,hc4⟩:=hc
    cases hp
    obtain ⟨vs,g1,g2,g3⟩:=V.rel_cells (h.v_ hy) hc3
    obtain ⟨hz,_,us,hus,hrels⟩:=h.own id b (box_some hb) hc1
    rw [hcf] at hus
    refine ⟨id,_,b,_,rfl,rfl,box_some hb,?_,h.wr (off:=off) (box_some hb) hc1 hus g2⟩
    have hl:=Rels.length g2
    have hlu:=Rels.length hrels
    have hst:=run_storeCells_at P (m.rho id).1 off b.elem vs 0 us.toArray w hus (by simp; omega) g3
    have had:(m.at id off)=⟨(m.rho id).1,off,none⟩:=by simp [M.at,hz]
    simp only [execOp,ho,h1.2,Instr.storeAt,Instr.sureAddr,had]
    have hsz:¬ (a.eval y).cells.size ≠ n:=by rw [g1]; simp; omega
    simp only [storeVar,Sem.run_bind,Sem.run_pure,Result.andThen_ok,run_sizeOf hn]
    rw [if_neg hsz,g1]
    simp only [Nat.add_zero] at hst
    simp [hst]
   ·cases hp
  ·cases hp
 ·rename_i id off i n k x' hx hy
  obtain ⟨h1a,h1b,h1c,h1d⟩:=h.cell hx
  have h2:C.rel m σ.nv σ.al (.int k x') (a.eval y):=h.v_ hy
  split at hp
  ·rename_i b hb hn
   split at hp
   ·rename_i r hr
    split at hp
    ·rename_i hc
     simp only [Bool.and_eq_true,beq_iff_eq] at hc
     obtain ⟨⟨⟨hc1,hcf⟩,hc2⟩,hc3⟩:=hc
     have hcs:=intsOf_ok hr
     obtain ⟨hz,_,us,hus,hrels⟩:=h.own id b (box_some hb) hc1
     rw [hcf] at hus
     have hlu:=Rels.length hrels
     have hen:off + n ≤ us.length ∨ n=0:=by
      have:=congrArg List.length hcs
      rw [List.length_map,hc2,List.length_take,List.length_drop] at this
      omega
     have hen:off + n ≤ us.length:=by omega
     have hsub:Rels m σ.nv σ.al (r.2.map (.int r.1)) ((us.drop off).take n):=by rw [← hcs]; exact (hrels.drop off).take n
     obtain ⟨q,hq⟩:=Int.eq_ofNat_of_zero_le h1c.1
     have hqn:q < n:=by omega
     have hkk:r.1=k:=hc3
     subst hkk
     have hv:(a.eval y).cells=#[.int r.1 (x'.ev m.env)]:=by rw [h2.2.2]; rfl
     split at hp
     ·cases hp
      refine ⟨id,_,b,_,rfl,rfl,box_some hb,?_,h.wr (off:=off) (vs:=((us.drop off).take n).set q (.int r.1 (x'.ev m.env))) (box_some hb) hc1 hus ?_⟩
      rotate_left
      ·refine Rels.of_get (by rw [putCs_len]; simp; omega) fun j c hj=>?_
       obtain ⟨hjn,rfl⟩:=putCs_get _ _ _ _ _ hj
       have hdj:(putDs r.1 i x' r.2 0)[j]?=some (.int r.1,.put i j x' (r.2[j]'(by omega))):=by
        rw [putDs_get,List.getElem?_eq_getElem (by omega)]; simp
       have he:=DefsOk.snd (i:=j) hD hdj
       simp only [D.ev,hq] at he
       obtain ⟨g1,g2⟩:=sel_ok hsub (i:=j) (by omega)
       have hgd:(r.2.map (·.ev m.env)).getD j 0=(r.2[j]'(by omega)).ev m.env:=by simp [List.getD_eq_getElem?_getD,hc2,hjn]
       rw [hgd] at g1 g2
       have hnv:nn + j < σ.nv:=by have:=hD.1; simp only [putDs_len,hc2] at this; omega
       by_cases hqj:q=j
       ·subst hqj
        simp only [if_true] at he
        refine ⟨_,List.getElem?_set_self (by simp; omega),⟨hnv,trivial⟩,?_,?_⟩
        ·simp only [A.ev,he]; exact h2.2.1
        ·simp only [A.ev,he]
       ·rw [if_neg (by omega)] at he
        refine ⟨_,by rw [List.getElem?_set_ne hqj]; exact g2,⟨hnv,trivial⟩,?_,?_⟩
        ·simp only [A.ev,he]; exact g1
        ·simp only [A.ev,he]
      ·have hst:=run_storeCells_at P (m.rho id).1 (off + q) b.elem [.int r.1 (x'.ev m.env)] 0 us.toArray w hus (by simp; omega) (by simp [Value.oneCell'])
       have had:(m.at id (off + (i.ev m.env).toNat))=⟨(m.rho id).1,off + q,none⟩:=by simp [M.at,hz,hq]
       simp only [execOp,ho,h1d,Instr.storeAt,Instr.sureAddr,had]
       have hsz:¬ (a.eval y).cells.size ≠ 1:=by rw [hv]; simp
       simp only [storeVar,Sem.run_bind,Sem.run_pure,Result.andThen_ok,run_sizeOf hn]
       rw [if_neg hsz,hv,← set_row hqn hen]
       simp only [Nat.add_zero] at hst
       simp [hst]
     ·split at hp
      ·cases hp
      ·rename_i h16 h1024
       cases hp
       refine ⟨id,_,b,_,rfl,rfl,box_some hb,?_,h.wr (off:=off) (vs:=((us.drop off).take n).set q (.int r.1 (x'.ev m.env))) (box_some hb) hc1 hus ?_⟩
       rotate_left
       ·obtain ⟨e1,e2⟩:=ints_all hsub
        obtain ⟨f1,f2,f3⟩:=arrA_ok (T:=T) (nn:=nn) hsub (by omega)
        obtain ⟨t1,t2⟩:=Told.append.1 hD.2
        have f4:=f3 m.env (fun _ _=>rfl) t1
        have f5:=(t2 0 _ _ rfl).1
        simp only [Nat.add_zero,D.ev,f4,hq,Int.toNat_natCast] at f5
        rw [e1,List.set_map_int]
        have hD1:=hD.1
        simp only [List.length_append,List.length_cons,List.length_nil] at hD1
        have:=elt_rels (m:=m) (nv:=σ.nv) (al:=σ.al) (k:=r.1) (n:=n) f5 (by
         rw [dec_enc]
         refine ⟨by rw [List.length_set,List.length_map,hc2]; omega,fun z hz=>?_⟩
         rcases List.mem_or_eq_of_mem_set hz with hz | rfl
         ·obtain ⟨x,hx,rfl⟩:=List.mem_map.1 hz
          exact (e2 x hx).2
         ·exact h2.2.1) (by rw [dec_enc,List.length_set,List.length_map,hc2]) (by omega)
        rw [dec_enc] at this
        exact this
       ·have hst:=run_storeCells_at P (m.rho id).1 (off + q) b.elem [.int r.1 (x'.ev m.env)] 0 us.toArray w hus (by simp; omega) (by simp [Value.oneCell'])
        have had:(m.at id (off + (i.ev m.env).toNat))=⟨(m.rho id).1,off + q,none⟩:=by simp [M.at,hz,hq]
        simp only [execOp,ho,h1d,Instr.storeAt,Instr.sureAddr,had]
        have hsz:¬ (a.eval y).cells.size ≠ 1:=by rw [hv]; simp
        simp only [storeVar,Sem.run_bind,Sem.run_pure,Result.andThen_ok,run_sizeOf hn]
        rw [if_neg hsz,hv,← set_row hqn hen]
        simp only [Nat.add_zero] at hst
        simp [hst]
    ·cases hp
   ·cases hp
  ·cases hp
 ·rename_i id i k v hx hy
  obtain ⟨h1a,h1c,h1d,h1e⟩:=h.cell hx
  split at hp
  ·rename_i r s hr hs
   split at hp
   ·rename_i hc
    simp only [Bool.and_eq_true,beq_iff_eq] at hc
    obtain ⟨⟨⟨hc1,hc2⟩,hc3⟩,hc4⟩:=hc
    have hk:=LKeq_ok hc2
    subst hk
    subst hc3
    split at hp
    ·rename_i ds yy htk
     cases hp
     obtain ⟨q1,q2,q5,q6,q3⟩:=h.row_ok hr
     obtain ⟨b,hb,hbr⟩:=row_box hr
     obtain ⟨vs,g1,g2,g3⟩:=V.rel_cells (h.v_ hy) hc4
     obtain ⟨k1,k3⟩:=takeK_ok (T:=T) htk m σ.nv vs g2
     obtain ⟨t1,t2⟩:=Told.append.1 hD.2
     have t3:=t2 0 _ _ rfl
     simp only [Nat.add_zero,D.ev] at t3
     obtain ⟨v1,v2⟩:=k3 m.env (fun _ _=>rfl) t1
     have hlt:nn + ds.length < σ.nv:=by have:=hD.1; simp only [List.length_append,List.length_cons,List.length_nil] at this; omega
     rw [q3.lenV] at h1d
     generalize hl:dec (r.x.ev m.env)=l at *
     generalize yy.ev m.env=z at *
     obtain ⟨q,hq⟩:=Int.eq_ofNat_of_zero_le h1d.1
     rw [hq] at h1d t3
     simp only [Int.toNat_natCast] at t3
     have hql:q < l.length:=by omega
     have q4:=q3.2.1
     rw [hc1] at q4
     simp only [if_true] at q4
     rcases q4.2 with ⟨hv,hn⟩ | ⟨g,cap,cur,hv,hbase,hg,hc1',hc2',hc3',hc4'⟩
     ·omega
     have hvl:vs.length=r.k.sz:=by rw [← v1,vals_len]
     have hmul:q * r.k.sz + r.k.sz ≤ l.length * r.k.sz:=by
      rw [← Nat.succ_mul]; exact Nat.mul_le_mul_right _ hql
     have hmul2:l.length * r.k.sz ≤ cap * r.k.sz:=Nat.mul_le_mul_right _ hc1'
     have hst:=run_storeCells_at P g (q * r.k.sz) r.elem vs 0 cur w hg (by omega) g3
     refine ⟨id,.row (.var (nn + ds.length)),b,w.setRow g (cur.toList.take (q * r.k.sz) ++ vs ++ cur.toList.drop (q * r.k.sz + vs.length)).toArray,rfl,rfl,hb,?_,?_⟩
     ·have had:(slAt (m.sv id)).add (q * r.k.sz)=⟨g,q * r.k.sz,none⟩:=by rw [hv]; exact addr0 _ _
      rw [hq] at h1e
      simp only [Int.toNat_natCast] at h1e
      simp only [execOp,ho,h1e,Instr.storeAt,Instr.sureAddr,had]
      have hsz:¬ (a.eval y).cells.size ≠ r.k.sz:=by rw [g1]; simp [hvl]
      simp only [storeVar,Sem.run_bind,Sem.run_pure,Result.andThen_ok,run_sizeOf hs]
      rw [if_neg hsz,g1]
      simp only [Nat.add_zero] at hst
      simp [hst]
     ·have hdec:dec (A.ev m.env (.var (nn + ds.length)))=l.set q z:=by simp only [A.ev,t3.1,dec_enc]
      refine h.wrRow hb hbr hc1 (g:=g) (by rw [hv]; rfl) ⟨hlt,trivial⟩ (by rw [hdec,hl,List.length_set]) ?_
      rw [hdec]
      refine ⟨⟨by rw [List.length_set]; exact q3.1.1,fun x hx=>?_⟩,?_,q3.2.2⟩
      ·rcases List.mem_or_eq_of_mem_set hx with h1 | h1
       ·exact q3.1.2 x h1
       ·rw [h1]; exact v2
      ·simp only [hc1,if_true]
       refine ⟨flat_len _ _,.inr ⟨g,cap,_,by rw [List.length_set]; exact hv,hbase,setRow_heap w _ _ _ _ _ hg,by rw [List.length_set]; exact hc1',hc2',?_,?_⟩⟩
       ·simp only [List.size_toArray,List.length_append,List.length_take,List.length_drop,Array.length_toList]; omega
       ·rw [List.length_set,List.toList_toArray,flat_set _ _ _ _ hql,v1,← hc4',← hvl]
        exact take_mid (by rw [hvl]; omega)
    ·cases hp
   ·cases hp
  ·cases hp
 ·cases hp
end
theorem cst_rel {m:M} {nv:Nat} {al:Nat → Bool} (c:C):C.rel m nv al (if cstB c then c else .top) (cstV c):=by
 split
 ·rename_i h
  unfold cstB at h
  split at h
  all_goals (first | rfl | skip)
  ·exact ⟨by simp,rfl⟩
  ·exact ⟨⟨trivial,trivial⟩,hasB_has h,rfl⟩
  ·rename_i n
   simp at h
   refine ⟨⟨trivial,trivial⟩,?_,rfl⟩
   simp only [A.ev]; omega
  ·cases h
 ·trivial
section
variable {T:List K} {g:Nat} {κ:K} {args:List A}
theorem putLs_length:∀ (ls:List L) (nn j:Nat),(putLs g args nn j ls).1.length=lcount ls:=by
 intro ls
 induction ls with
 | nil=>intro nn j; rfl
 | cons l ls ih=>intro nn j; cases l <;> simp [putLs,lcount,L.n,ih,Nat.add_comm]
theorem putLs_gen (hg:T[g]?=some κ):∀ (ls:List L) (nn j:Nat) (ys:List Int),(∀ a ∈ args,a.ok nn) → lhas ls ys →
  ∀ e:Nat → Int,(∀ (i:Nat) y,ys[i]?=some y → (κ.sem (args.map (·.ev e))).getD (j + i) 0=y) → GenOk T e nn (putLs g args nn j ls).1:=by
 intro ls
 induction ls with
 | nil=>intro nn j ys _ h e _; trivial
 | cons l ls ih =>
  intro nn j ys hok hh e hy
  have tail:∀ (x:Int) (ys:List Int),lhas ls ys → (∀ (i:Nat) y,(x :: ys)[i]?=some y → (κ.sem (args.map (·.ev e))).getD (j + i) 0=y) → ∀ v:Int,GenOk T (upd e nn v) (nn + 1) (putLs g args (nn + 1) (j + 1) ls).1:=by
   intro x ys hls hyy v
   have he:∀ i,i < nn → upd e nn v i=e i:=fun i hi=>by simp [upd]; omega
   exact ih (nn + 1) (j + 1) ys (fun a ha=>A.ok_mono (hok a ha) (by omega)) hls (upd e nn v) (fun i y hi=>by
    rw [map_ev_congr hok he]
    have:=hyy (i + 1) y (by simpa using hi)
    rwa [show j + (i + 1)=j + 1 + i by omega] at this)
  cases l with
  | cst c=>exact ih nn j ys hok hh e hy
  | int k=>cases ys with
   | nil=>cases hh
   | cons y ys =>
    have h0:=hy 0 y rfl
    simp only [Nat.add_zero] at h0
    have hev:(D.app g j args).ev T e=y:=by simp only [D.ev,hg]; exact h0
    exact ⟨hok,by rw [hev]; exact hh.1,by rw [hev]; exact tail y ys hh.2 hy y⟩
  | bool=>cases ys with
   | nil=>cases hh
   | cons y ys =>
    have h0:=hy 0 y rfl
    simp only [Nat.add_zero] at h0
    have hev:(D.app g j args).ev T e=y:=by simp only [D.ev,hg]; exact h0
    exact ⟨hok,by rw [hev]; exact hh.1,by rw [hev]; exact tail y ys hh.2 hy y⟩
  | num=>cases ys with
   | nil=>cases hh
   | cons y ys =>
    have h0:=hy 0 y rfl
    simp only [Nat.add_zero] at h0
    have hev:(D.app g j args).ev T e=y:=by simp only [D.ev,hg]; exact h0
    exact ⟨hok,by rw [hev]; exact hh.1,by rw [hev]; exact tail y ys hh.2 hy y⟩
  | lst k=>cases ys with
   | nil=>cases hh
   | cons y ys =>
    have h0:=hy 0 y rfl
    simp only [Nat.add_zero] at h0
    have hev:(D.app g j args).ev T e=y:=by simp only [D.ev,hg]; exact h0
    exact ⟨hok,by rw [hev]; exact hh.1,by rw [hev]; exact tail y ys hh.2 hy y⟩
  | arr k n=>cases ys with
   | nil=>cases hh
   | cons y ys =>
    have h0:=hy 0 y rfl
    simp only [Nat.add_zero] at h0
    have hev:(D.app g j args).ev T e=y:=by simp only [D.ev,hg]; exact h0
    exact ⟨hok,by rw [hev]; exact hh.1,by rw [hev]; exact tail y ys hh.2 hy y⟩
theorem putLs_val (hg:T[g]?=some κ) {m:M} {nv:Nat} {al:Nat → Bool}:∀ (ls:List L) (nn j:Nat) (ys:List Int),lhas ls ys → (∀ (i:Nat) y,ys[i]?=some y → (κ.sem (args.map (·.ev m.env))).getD (j + i) 0=y) →
  Told T m.env nn (putLs g args nn j ls).1 → nn + lcount ls ≤ nv → Rels m nv al (putLs g args nn j ls).2 (lvals ls ys):=by
 intro ls
 induction ls with
 | nil=>intro nn j ys _ _ _ _; trivial
 | cons l ls ih =>
  intro nn j ys hh hy ht hle
  have tail:∀ (kk:KK) (y:Int) (ys:List Int),lhas ls ys → (∀ (i:Nat) z,(y :: ys)[i]?=some z → (κ.sem (args.map (·.ev m.env))).getD (j + i) 0=z) → Told T m.env nn ((kk,D.app g j args) :: (putLs g args (nn + 1) (j + 1) ls).1) →
    nn + 1 + lcount ls ≤ nv → m.env nn=y ∧ Rels m nv al (putLs g args (nn + 1) (j + 1) ls).2 (lvals ls ys):=by
   intro kk y ys hls hyy ht hle
   have h1:=(ht 0 _ _ rfl).1
   have h0:=hyy 0 y rfl
   simp only [Nat.add_zero] at h1 h0
   refine ⟨by rw [h1]; simp only [D.ev,hg]; exact h0,ih (nn + 1) (j + 1) ys hls (fun i z hi=>?_) (fun i kk d hi=>?_) hle⟩
   ·have:=hyy (i + 1) z (by simpa using hi)
    rwa [show j + (i + 1)=j + 1 + i by omega] at this
   ·have:=ht (i + 1) kk d (by simpa using hi)
    rwa [show nn + (i + 1)=nn + 1 + i by omega] at this
  cases l with
  | cst c=>exact ⟨cst_rel c,ih nn j ys hh hy ht (by simpa [lcount,L.n] using hle)⟩
  | int k=>cases ys with
   | nil=>cases hh
   | cons y ys =>
    have hle':nn + 1 + lcount ls ≤ nv:=by simp [lcount,L.n] at hle; omega
    obtain ⟨h2,h3⟩:=tail (.int k) y ys hh.2 hy ht hle'
    exact ⟨⟨⟨show nn < nv by omega,trivial⟩,by simp only [A.ev,h2]; exact hh.1,by simp only [A.ev,h2]⟩,h3⟩
  | bool=>cases ys with
   | nil=>cases hh
   | cons y ys =>
    have hle':nn + 1 + lcount ls ≤ nv:=by simp [lcount,L.n] at hle; omega
    obtain ⟨h2,h3⟩:=tail .bit y ys hh.2 hy ht hle'
    exact ⟨⟨⟨show nn < nv by omega,trivial⟩,by simp only [A.ev,h2]; exact hh.1,by simp only [A.ev,h2]⟩,h3⟩
  | num=>cases ys with
   | nil=>cases hh
   | cons y ys =>
    have hle':nn + 1 + lcount ls ≤ nv:=by simp [lcount,L.n] at hle; omega
    obtain ⟨h2,h3⟩:=tail .num y ys hh.2 hy ht hle'
    have hl:∀ q:Nat,C.rel m nv al (.int .u64 (.limb nn q)) (.int .u64 (y / p64 q % 18446744073709551616)):=by
     intro q
     refine ⟨⟨show nn < nv by omega,by simp only [A.good,h2]; exact hh.1⟩,?_,by simp only [A.ev,h2]⟩
     simp only [A.ev,has,lo,hi]; omega
    exact Rels.append (vs:=limbs y) ⟨hl 0,hl 1,hl 2,hl 3,hl 4,hl 5,trivial⟩ h3
  | lst k=>cases ys with
   | nil=>cases hh
   | cons y ys =>
    have hle':nn + 1 + lcount ls ≤ nv:=by simp [lcount,L.n] at hle; omega
    exact (tail (.lst k) y ys hh.2 hy ht hle').2
  | arr k n=>cases ys with
   | nil=>cases hh
   | cons y ys =>
    have hle':nn + 1 + lcount ls ≤ nv:=by simp [lcount,L.n] at hle; omega
    obtain ⟨h2,h3⟩:=tail (.arr k n) y ys hh.2 hy ht hle'
    exact Rels.append (elt_rels h2 hh.1.1 hh.1.2 (by omega)) h3
end
section
variable {T:List K} {g:Nat} {κ:K} {args:List A} {nid n0:Nat} {w':World}
theorem take_get {ys:List Int} {n i:Nat} {y:Int} (h:(ys.take n)[i]?=some y):ys[i]?=some y:=by
 rw [List.getElem?_take] at h
 split at h
 ·exact h
 ·cases h
theorem putOuts_gen (hg:T[g]?=some κ):∀ (os:List Oh) (nn j:Nat) (ds:Defs) (vs:List V) (nb:Option Box),putOuts g args nn j nid os=some (ds,vs,nb) →
  ∀ (ys:List Int) (us:List Value),(∀ a ∈ args,a.ok nn) → outsRel n0 w' os ys us → ∀ e:Nat → Int,(∀ (i:Nat) y,ys[i]?=some y → (κ.sem (args.map (·.ev e))).getD (j + i) 0=y) → GenOk T e nn ds:=by
 intro os
 induction os with
 | nil=>intro nn j ds vs nb h ys us _ hr e _; simp [putOuts] at h; obtain ⟨rfl,rfl,rfl⟩:=h; trivial
 | cons o os ih =>
  intro nn j ds vs nb h ys us hok hr e hy
  cases us with
  | nil=>cases hr
  | cons u us =>
   obtain ⟨hr1,hr2,hr3⟩:=hr
   have head:=putLs_gen (g:=g) hg o.leaves nn j (ys.take (lcount o.leaves)) hok hr1 e (fun i y hi=>hy i y (take_get hi))
   have tail:∀ {q1:Defs} {q2:List V} {q3:Option Box},putOuts g args (nn + lcount o.leaves) (j + lcount o.leaves) nid os=some (q1,q2,q3) →
     ∀ e1:Nat → Int,(∀ i,i < nn → e1 i=e i) → GenOk T e1 (nn + lcount o.leaves) q1:=by
    intro q1 q2 q3 hq e1 he1
    refine ih _ _ _ _ _ hq _ _ (fun a ha=>A.ok_mono (hok a ha) (by omega)) hr3 e1 fun i y hi=>?_
    rw [map_ev_congr hok he1]
    have:=hy (lcount o.leaves + i) y (by rw [List.getElem?_drop] at hi; exact hi)
    rwa [← Nat.add_assoc] at this
   cases o with
   | one l =>
    simp only [putOuts] at h
    split at h
    ·cases h
    ·rename_i q hq
     obtain ⟨q1,q2,q3⟩:=q
     split at h
     ·simp at h
      obtain ⟨rfl,rfl,rfl⟩:=h
      refine gen_append _ _ _ _ head fun e1 he1 _=>?_
      rw [show (putLs g args nn j [l]).1.length=lcount [l] from putLs_length ..]; exact tail hq e1 he1
     ·cases h
   | agg ls =>
    simp only [putOuts] at h
    split at h
    ·cases h
    ·rename_i q hq
     obtain ⟨q1,q2,q3⟩:=q
     simp at h
     obtain ⟨rfl,rfl,rfl⟩:=h
     refine gen_append _ _ _ _ head fun e1 he1 _=>?_
     rw [show (putLs g args nn j ls).1.length=lcount ls from putLs_length ..]; exact tail hq e1 he1
   | box e0 ls =>
    simp only [putOuts] at h
    split at h
    ·cases h
    ·rename_i q hq
     obtain ⟨q1,q2,q3⟩:=q
     simp only at h
     cases q3 with
     | none =>
      simp at h
      obtain ⟨rfl,rfl,rfl⟩:=h
      refine gen_append _ _ _ _ head fun e1 he1 _=>?_
      rw [show (putLs g args nn j ls).1.length=lcount ls from putLs_length ..]; exact tail hq e1 he1
     | some z=>cases h
   | frz e0 ls =>
    simp only [putOuts] at h
    split at h
    ·cases h
    ·rename_i q hq
     obtain ⟨q1,q2,q3⟩:=q
     simp only at h
     cases q3 with
     | none =>
      simp at h
      obtain ⟨rfl,rfl,rfl⟩:=h
      refine gen_append _ _ _ _ head fun e1 he1 _=>?_
      rw [show (putLs g args nn j ls).1.length=lcount ls from putLs_length ..]; exact tail hq e1 he1
     | some z=>cases h
   | lst e0 k =>
    simp only [putOuts] at h
    split at h
    ·cases h
    ·rename_i q hq
     obtain ⟨q1,q2,q3⟩:=q
     simp only at h
     cases q3 with
     | none =>
      simp at h
      obtain ⟨rfl,rfl,rfl⟩:=h
      refine gen_append _ _ _ _ head fun e1 he1 _=>?_
      rw [show (putLs g args nn j [.lst k]).1.length=lcount [.lst k] from putLs_length ..]; exact tail hq e1 he1
     | some z=>cases h
   | lent e0 k =>
    simp only [putOuts] at h
    split at h
    ·cases h
    ·rename_i q hq
     obtain ⟨q1,q2,q3⟩:=q
     simp only at h
     cases q3 with
     | none =>
      simp at h
      obtain ⟨rfl,rfl,rfl⟩:=h
      refine gen_append _ _ _ _ head fun e1 he1 _=>?_
      rw [show (putLs g args nn j [.lst k,.int .i64]).1.length=lcount [.lst k,.int .i64] from putLs_length ..]; exact tail hq e1 he1
     | some z=>cases h
def NewBox (n0:Nat) (w':World) (m:M) (nv:Nat) (al:Nat → Bool) (b:Nat) (vb:Value) (bx:Box):Prop :=
 (bx.own=true ∧ bx.row=none ∧ n0 ≤ b ∧ ∃ zs:List Value,w'.heap[b]?=some (.cells zs.toArray bx.elem bx.fz) ∧ Rels m nv al bx.cells zs) ∨
 ∃ r:Row,bx=rowBox r ∧ r.own=true ∧ r.x.wf nv m.env ∧ r.x0=r.x ∧ r.k.hasL (dec (r.x.ev m.env)) ∧ w'.ownsRow n0 r.elem r.k.sz vb (dec (r.x.ev m.env)).length (flat r.k (dec (r.x.ev m.env))) ∧ (r.full=true → fullV vb)
theorem owns_form {w:World} {n0:Nat} {e:TypeId} {s:Nat} {v:Value} {n:Nat} {xs:List Value} (h:w.ownsRow n0 e s v n xs):∃ b cap,v=.slice b n cap:=by
 rcases h.2 with ⟨hv,hn⟩ | ⟨g,cap,cur,hv,_⟩
 ·exact ⟨none,0,by rw [hv,hn]⟩
 ·exact ⟨_,cap,hv⟩
theorem putOuts_val (hg:T[g]?=some κ) {m:M} {nv:Nat} {al:Nat → Bool}:∀ (os:List Oh) (nn j:Nat) (ds:Defs) (vs:List V) (nb:Option Box),putOuts g args nn j nid os=some (ds,vs,nb) →
  ∀ (ys:List Int) (us:List Value),outsRel n0 w' os ys us → (∀ (i:Nat) y,ys[i]?=some y → (κ.sem (args.map (·.ev m.env))).getD (j + i) 0=y) →
  Told T m.env nn ds → nn + ds.length ≤ nv →
   ∃ b vb,(∀ bx,nb=some bx → NewBox n0 w' m nv al b vb bx) ∧
    ∀ (m'':M) (al'':Nat → Bool),MExt m nv al m'' nv al'' → (∀ bx,nb=some bx → al'' nid=true ∧ (bx.own=true → m''.rho nid=(b,0)) ∧ (bx.own=false → m''.sv nid=vb)) → VRels m'' nv al'' vs us:=by
 intro os
 induction os with
 | nil =>
  intro nn j ds vs nb h ys us hr _ _ _
  simp [putOuts] at h
  obtain ⟨rfl,rfl,rfl⟩:=h
  obtain ⟨_,rfl⟩:=hr
  exact ⟨0,.nilFunc,(fun bx h=>by cases h),fun m'' al'' _ _=>trivial⟩
 | cons o os ih =>
  intro nn j ds vs nb h ys us hr hy ht hle
  cases us with
  | nil=>cases hr
  | cons u us =>
   obtain ⟨hr1,hr2,hr3⟩:=hr
   have head:=putLs_val (g:=g) hg (m:=m) (nv:=nv) (al:=al) o.leaves nn j (ys.take (lcount o.leaves)) hr1 (fun i y hi=>hy i y (take_get hi))
   have tail:∀ {q1:Defs} {q2:List V} {q3:Option Box},putOuts g args (nn + lcount o.leaves) (j + lcount o.leaves) nid os=some (q1,q2,q3) →
     Told T m.env (nn + lcount o.leaves) q1 → nn + lcount o.leaves + q1.length ≤ nv →
     ∃ b vb,(∀ bx,q3=some bx → NewBox n0 w' m nv al b vb bx) ∧
    ∀ (m'':M) (al'':Nat → Bool),MExt m nv al m'' nv al'' → (∀ bx,q3=some bx → al'' nid=true ∧ (bx.own=true → m''.rho nid=(b,0)) ∧ (bx.own=false → m''.sv nid=vb)) → VRels m'' nv al'' q2 us:=by
    intro q1 q2 q3 hq ht1 hl1
    refine ih _ _ _ _ _ hq _ _ hr3 (fun i y hi=>?_) ht1 hl1
    have:=hy (lcount o.leaves + i) y (by rw [List.getElem?_drop] at hi; exact hi)
    rwa [← Nat.add_assoc] at this
   cases o with
   | one l =>
    simp only [putOuts] at h
    split at h
    ·cases h
    ·rename_i q hq
     obtain ⟨q1,q2,q3⟩:=q
     split at h
     ·rename_i c hc
      simp at h
      obtain ⟨rfl,rfl,rfl⟩:=h
      have hlen:(putLs g args nn j [l]).1.length=lcount [l]:=putLs_length ..
      rw [Told.append,hlen] at ht
      rw [List.length_append,hlen] at hle
      obtain ⟨b,vb,hb1,hb2⟩:=tail hq ht.2 (by simp only [Oh.leaves]; omega)
      refine ⟨b,vb,hb1,fun m'' al'' hx hn=>⟨?_,hb2 m'' al'' hx hn⟩⟩
      have h1:=head ht.1 (by simp only [Oh.leaves]; omega)
      simp only [Oh.leaves] at h1
      rw [hc] at h1
      simp only [Oh.rel] at hr2
      simp only [Oh.leaves] at hr2
      rw [← hr2] at h1
      exact C.rel_mono hx h1.1
     ·cases h
   | agg ls =>
    simp only [putOuts] at h
    split at h
    ·cases h
    ·rename_i q hq
     obtain ⟨q1,q2,q3⟩:=q
     simp at h
     obtain ⟨rfl,rfl,rfl⟩:=h
     have hlen:(putLs g args nn j ls).1.length=lcount ls:=putLs_length ..
     rw [Told.append,hlen] at ht
     rw [List.length_append,hlen] at hle
     obtain ⟨b,vb,hb1,hb2⟩:=tail hq ht.2 (by simp only [Oh.leaves]; omega)
     refine ⟨b,vb,hb1,fun m'' al'' hx hn=>⟨?_,hb2 m'' al'' hx hn⟩⟩
     have h1:=head ht.1 (by simp only [Oh.leaves]; omega)
     exact ⟨_,hr2,h1.mono hx⟩
   | box e0 ls =>
    simp only [putOuts] at h
    split at h
    ·cases h
    ·rename_i q hq
     obtain ⟨q1,q2,q3⟩:=q
     simp only at h
     cases q3 with
     | none =>
      simp at h
      obtain ⟨rfl,rfl,rfl⟩:=h
      have hlen:(putLs g args nn j ls).1.length=lcount ls:=putLs_length ..
      rw [Told.append,hlen] at ht
      rw [List.length_append,hlen] at hle
      obtain ⟨_,_,_,hb2⟩:=tail hq ht.2 (by simp only [Oh.leaves]; omega)
      obtain ⟨b,hb0,hu,hh⟩:=hr2
      have h1:=head ht.1 (by simp only [Oh.leaves]; omega)
      refine ⟨b,.nilFunc,fun bx hec=>?_,fun m'' al'' hx hn=>⟨?_,hb2 m'' al'' hx (fun _ h=>by cases h)⟩⟩
      ·simp at hec
       subst hec
       exact .inl ⟨rfl,rfl,hb0,_,hh,h1⟩
      ·obtain ⟨g1,g2,_⟩:=hn _ rfl
       exact ⟨g1,by rw [hu]; simp [M.at,g2 rfl]⟩
     | some z=>cases h
   | frz e0 ls =>
    simp only [putOuts] at h
    split at h
    ·cases h
    ·rename_i q hq
     obtain ⟨q1,q2,q3⟩:=q
     simp only at h
     cases q3 with
     | none =>
      simp at h
      obtain ⟨rfl,rfl,rfl⟩:=h
      have hlen:(putLs g args nn j ls).1.length=lcount ls:=putLs_length ..
      rw [Told.append,hlen] at ht
      rw [List.length_append,hlen] at hle
      obtain ⟨_,_,_,hb2⟩:=tail hq ht.2 (by simp only [Oh.leaves]; omega)
      obtain ⟨b,hb0,hu,hh⟩:=hr2
      have h1:=head ht.1 (by simp only [Oh.leaves]; omega)
      have h2:(putLs g args nn j ls).2.length=(lvals ls (ys.take (lcount ls))).length:=h1.length
      have hh:w'.heap[b]?=some (.cells (lvals ls (ys.take (lcount ls))).toArray e0 ((lvals ls (ys.take (lcount ls))).length,(lvals ls (ys.take (lcount ls))).length + 1)):=hh
      have hu:u=.slice (some ⟨b,0,none⟩) (lvals ls (ys.take (lcount ls))).length (lvals ls (ys.take (lcount ls))).length:=hu
      refine ⟨b,.nilFunc,fun bx hec=>?_,fun m'' al'' hx hn=>⟨?_,hb2 m'' al'' hx (fun _ h=>by cases h)⟩⟩
      ·simp at hec
       subst hec
       exact .inl ⟨rfl,rfl,hb0,_,by rw [hh,← h2]; rfl,h1⟩
      ·obtain ⟨g1,g2,_⟩:=hn _ rfl
       exact ⟨g1,by rw [hu,← h2]; simp [M.at,g2 rfl]⟩
     | some z=>cases h
   | lst e0 k =>
    simp only [putOuts] at h
    split at h
    ·cases h
    ·rename_i q hq
     obtain ⟨q1,q2,q3⟩:=q
     simp only at h
     cases q3 with
     | none =>
      simp at h
      obtain ⟨rfl,rfl,rfl⟩:=h
      have hlen:(putLs g args nn j [.lst k]).1.length=lcount [.lst k]:=putLs_length ..
      rw [Told.append,hlen] at ht
      rw [List.length_append,hlen] at hle
      obtain ⟨_,_,_,hb2⟩:=tail hq ht.2 (by simp only [Oh.leaves]; omega)
      simp only [Oh.leaves] at hr1 hr2
      have hone:lcount [L.lst k]=1:=rfl
      rw [hone] at hr1 hle
      simp only [Oh.rel,hone] at hr2
      cases ys with
      | nil=>cases hr1
      | cons y ys =>
       simp only [List.take_succ_cons,List.take_zero,List.headD_cons] at hr1 hr2
       have h0:m.env nn=y:=by
        have h1:=(ht.1 0 _ _ rfl).1
        simp only [Nat.add_zero] at h1
        rw [h1]; simp only [D.ev,hg]; exact hy 0 y rfl
       obtain ⟨bb,cap,hform⟩:=owns_form hr2
       refine ⟨0,u,fun bx hec=>?_,fun m'' al'' hx hn=>⟨?_,hb2 m'' al'' hx (fun _ h=>by cases h)⟩⟩
       ·simp at hec
        subst hec
        refine .inr ⟨_,rfl,rfl,⟨show nn < nv by omega,trivial⟩,rfl,?_,?_,fun h=>by cases h⟩
        ·simp only [A.ev,h0]; exact hr1.1
        ·simp only [A.ev,h0]; exact hr2
       ·obtain ⟨g1,_,g3⟩:=hn _ rfl
        exact ⟨g1,(g3 rfl).symm,by rw [hform]; rfl⟩
     | some z=>cases h
   | lent e0 k =>
    simp only [putOuts] at h
    split at h
    ·cases h
    ·rename_i q hq
     obtain ⟨q1,q2,q3⟩:=q
     simp only at h
     cases q3 with
     | none =>
      simp at h
      obtain ⟨rfl,rfl,rfl⟩:=h
      have hlen:(putLs g args nn j [.lst k,.int .i64]).1.length=lcount [.lst k,.int .i64]:=putLs_length ..
      rw [Told.append,hlen] at ht
      rw [List.length_append,hlen] at hle
      obtain ⟨_,_,_,hb2⟩:=tail hq ht.2 (by simp only [Oh.leaves]; omega)
      simp only [Oh.leaves] at hr1 hr2
      have hone:lcount [L.lst k,.int .i64]=2:=rfl
      rw [hone] at hr1 hle
      simp only [Oh.rel,hone] at hr2
      match ys,hr1,hr2,hy with
      | [],hr1,_,_=>cases hr1
      | [y],hr1,_,_=>exact hr1.2.elim
      | y :: y1 :: ys,hr1,hr2,hy =>
       simp only [List.take_succ_cons,List.take_zero,List.headD_cons,List.getD_cons_succ,List.getD_cons_zero] at hr1 hr2
       have h0:m.env nn=y:=by
        have h1:=(ht.1 0 _ _ rfl).1
        simp only [Nat.add_zero] at h1
        rw [h1]; simp only [D.ev,hg]; exact hy 0 y rfl
       have h1:m.env (nn + 1)=y1:=by
        have h1:=(ht.1 1 _ _ rfl).1
        rw [h1]; simp only [D.ev,hg]; exact hy 1 y1 rfl
       obtain ⟨v',o1,o2,o3,o4⟩:=hr2
       obtain ⟨bb,cap,hform⟩:=owns_form o1
       have hbig:=hr1.2.1
       simp only [has,lo,hi] at hbig
       refine ⟨0,v',fun bx hec=>?_,fun m'' al'' hx hn=>⟨?_,hb2 m'' al'' hx (fun _ h=>by cases h)⟩⟩
       ·simp at hec
        subst hec
        refine .inr ⟨_,rfl,rfl,⟨show nn < nv by omega,trivial⟩,rfl,?_,?_,fun _=>o2⟩
        ·simp only [A.ev,h0]; exact hr1.1
        ·simp only [A.ev,h0]; exact o1
       ·obtain ⟨g1,_,g3⟩:=hn _ rfl
        have g3:=g3 rfl
        have he:m''.env (nn + 1)=y1:=by rw [hx.env _ (by omega)]; exact h1
        refine ⟨g1,⟨trivial,trivial⟩,⟨show nn + 1 < nv by omega,trivial⟩,?_,?_,?_⟩
        ·simp only [A.ev,he,g3]
         rw [hform]
         exact ⟨Int.le_refl _,o3.1,o3.2,hbig.2⟩
        ·simp only [A.ev,he,g3]; exact .inl o4
        ·rw [o4]; exact sub_one (by rw [hform]; rfl)
     | some z=>cases h
theorem putK_cases {κ:K} {g:Nat} {args:List A} {nn nid:Nat} {q:Defs × List V × Option Box} (h:putK κ g args nn nid=some q) :
  putOuts g args nn 0 nid κ.outs=some q ∨ ∃ k xs,κ.outs=[.one (.int k)] ∧ mapO A.lit? args=some xs ∧ hasB k ((κ.sem xs).getD 0 0)=true ∧ q=([],[V.one (.int k (.lit ((κ.sem xs).getD 0 0)))],none):=by
 unfold putK at h
 split at h
 ·rename_i k xs _ ho hx
  split at h
  ·rename_i hb
   cases h
   exact .inr ⟨k,xs,ho,hx,hb,rfl⟩
  ·exact .inl h
 ·exact .inl h
theorem putK_gen (hg:T[g]?=some κ) {nn:Nat} {ds:Defs} {vs:List V} {nb:Option Box} (h:putK κ g args nn nid=some (ds,vs,nb))
  (ys:List Int) (us:List Value) (ha:∀ a ∈ args,a.ok nn) (ho:outsRel n0 w' κ.outs ys us) (e:Nat → Int) (hy:∀ (i:Nat) y,ys[i]?=some y → (κ.sem (args.map (·.ev e))).getD (0 + i) 0=y):GenOk T e nn ds:=by
 rcases putK_cases h with h | ⟨k,xs,_,_,_,hq⟩
 ·exact putOuts_gen (T:=T) hg _ _ _ _ _ _ h ys us ha ho e hy
 ·cases hq; trivial
theorem putK_val (hg:T[g]?=some κ) {m:M} {nv:Nat} {al:Nat → Bool} {nn:Nat} {ds:Defs} {vs:List V} {nb:Option Box} (h:putK κ g args nn nid=some (ds,vs,nb))
  (ys:List Int) (us:List Value) (hr:outsRel n0 w' κ.outs ys us) (hy:∀ (i:Nat) y,ys[i]?=some y → (κ.sem (args.map (·.ev m.env))).getD (0 + i) 0=y)
  (ht:Told T m.env nn ds) (hle:nn + ds.length ≤ nv) :
   ∃ b vb,(∀ bx,nb=some bx → NewBox n0 w' m nv al b vb bx) ∧
    ∀ (m'':M) (al'':Nat → Bool),MExt m nv al m'' nv al'' → (∀ bx,nb=some bx → al'' nid=true ∧ (bx.own=true → m''.rho nid=(b,0)) ∧ (bx.own=false → m''.sv nid=vb)) → VRels m'' nv al'' vs us:=by
 rcases putK_cases h with h | ⟨k,xs,ho,hx,hb,hq⟩
 ·exact putOuts_val (T:=T) hg _ _ _ _ _ _ h ys us hr hy ht hle
 ·cases hq
  refine ⟨0,.nilFunc,(fun bx h=>by cases h),fun m'' al'' _ _=>?_⟩
  rw [ho] at hr
  cases us with
  | nil=>exact hr.elim
  | cons u us =>
   obtain ⟨h1,h2,h3⟩:=hr
   obtain ⟨h4,rfl⟩:=h3
   cases ys with
   | nil=>exact h1.elim
   | cons y ys =>
    have hy0:(κ.sem (args.map (·.ev m.env))).getD 0 0=y:=hy 0 y rfl
    rw [lits_ok m.env _ _ hx] at hy0
    have h5:[u]=[Value.int k y]:=h2
    refine ⟨⟨⟨trivial,trivial⟩,?_,?_⟩,trivial⟩
    ·exact hasB_has hb
    ·show u=.int k _
     rw [show (A.lit ((κ.sem xs).getD 0 0)).ev m''.env=(κ.sem xs).getD 0 0 from rfl,hy0]
     exact List.head_eq_of_cons_eq h5
end
section
variable {P:Program} {T:List K} {w0:World} {m:M} {σ:St} {a:Act} {w:World} {o:Oper} {nn nid:Nat}
theorem grow_rep (h:Rep w0 m σ a w) {nid:Nat} (hn:σ.boxes[nid]?=some none) {old:Option Nat} {v0 v:Value} {w':World} {r:Row}
  (hgrow:w.grownBy w' v0.ownBlock) (hr:RowAt w0 w' r v (dec (r.x.ev m.env))) (hx:r.x.wf σ.nv m.env) (hx0:r.x0=r.x)
  (hold:match old with | none=>v0.ownBlock=none | some id=>∃ b q,σ.boxes[id]?=some (some b) ∧ b.row=some q ∧ q.own=true ∧ m.sv id=v0)
  (hat:∀ g,v.ownBlock=some g → v0.ownBlock=some g ∨ g=w.heap.size) :
  Rep w0 (m.row nid v) (({σ with boxes:=Sx.noRows σ.boxes old.toList }:St).setBox nid (rowBox r)) a w' ∧
  MExt m σ.nv σ.al (m.row nid v) σ.nv (({σ with boxes:=Sx.noRows σ.boxes old.toList }:St).setBox nid (rowBox r)).al:=by
 have hal:=noRows_al old.toList σ
 have key:=(h.noRows old.toList).rowIn (nid:=nid) (noRows_none _ hn) (row:=v0.ownBlock) hgrow (r:=r) (v:=v) (fun k hk=>?_) hx (by rw [hx0]; exact hx) (by rw [hx0]) hr (fun g _ hg=>?_)
 ·rw [hal] at key; exact key
 ·cases old with
  | none=>simp only at hold; rw [hold] at hk; cases hk
  | some id =>
   obtain ⟨b,q,hb,hq,hqo,hsv⟩:=hold
   obtain ⟨_,_,_,r4⟩:=h.rows id b q hb hq
   have hk':(m.sv id).ownBlock=some k:=by rw [hsv]; exact hk
   refine ⟨(r4.lt hqo hk').1,fun id' b' hb' hbo e=>?_,fun id' b' r' hb' hr' ho' e=>?_⟩
   ·obtain ⟨b0,h1,_,_,h4,_⟩:=noRows_get _ hb'
    exact h.rbox id b q hb hq hqo id' b0 h1 (h4.trans hbo) (by rw [hk',e])
   ·obtain ⟨b0,h1,_,_,_,h5⟩:=noRows_get _ hb'
    rcases h5 with h5 | ⟨h5,h6⟩
    ·rw [hr'] at h5; cases h5
    ·rcases h.rsep id b q id' b0 r' hb hq h1 (h5.trans hr') hqo ho' (fun e=>h6 (by simp [e])) with h7 | h7
     ·rw [hk'] at h7; cases h7
     ·rw [hk',e] at h7; exact h7 rfl
 ·rcases hat g hg with h1 | h1
  ·exact .inl h1
  ·exact .inr (by omega)
theorem flat_append (k:LK) (l l':List Int):flat k (l ++ l')=flat k l ++ flat k l':=by simp [flat]
theorem flat_one (k:LK) (l:List Int):∀ u ∈ flat k l,u.oneCell'=true:=by
 intro u hu
 obtain ⟨x,_,hx⟩:=List.mem_flatMap.1 hu
 exact vals_one k x u hx
structure CatSpec (P:Program) (σ:St) (nn:Nat) (o:Oper) (g:Grow) (s x:Operand) (t:TypeId) (i:TypeInfo) (z:Value) (v:V):Prop where
 op:o.op=.call {callee:=.builtin .append,args:=#[s,x],argTypes:=#[t,t] }
 und:P.underlying t=some (.slice g.elem)
 info:P.info? g.elem=some i
 zero:i.zero=some z
 zs:z.cells.size=i.size
 size:i.size=g.k.sz
 bytes:i.bytes ≤ 16384
 src:σ.v x=some v
 take:takeSh σ nn (.lst g.k) v=some (g.defs,[g.a])
 old:(g.old=none ∧ g.x0=.lit 0 ∧ σ.cell s=some .nilslice) ∨ ∃ id' r,g.old=some id' ∧ g.x0=r.x ∧ σ.cell s=some (.sl id') ∧ σ.row id'=some r ∧ r.own=true ∧ r.elem=g.elem ∧ r.k=g.k
theorem srcK_ok {nn:Nat} {k:LK} {s:Operand} {ds:Defs} {y:A} (h:srcK σ nn k s=some (ds,y)):∃ v,σ.v s=some v ∧ takeSh σ nn (.lst k) v=some (ds,[y]):=by
 unfold srcK at h
 split at h
 ·rename_i v hv
  split at h
  ·rename_i ds' y' htk
   cases h
   exact ⟨v,hv,htk⟩
  ·cases h
 ·cases h
theorem cat_spec {nn:Nat} {g:Grow} (h:catP P σ nn o.op=some g):∃ s x t i z v,CatSpec P σ nn o g s x t i z v:=by
 unfold catP at h
 split at h
 ·rename_i c hop
  split at h
  ·rename_i t t' s x hc ht hx
   split at h
   ·rename_i htt
    split at h
    ·rename_i e hu
     split at h
     ·rename_i i k hi hk
      split at h
      ·rename_i z hz
       split at h
       ·rename_i hcond
        simp only [Bool.and_eq_true,beq_iff_eq,decide_eq_true_eq] at hcond
        split at h
        ·rename_i ds y hsrc
         obtain ⟨v,hv,htk⟩:=srcK_ok hsrc
         have hop':o.op=.call {callee:=.builtin .append,args:=#[s,x],argTypes:=#[t,t] }:=by
          have htt':t=t':=by simpa using htt
          subst htt'
          rw [hop]
          obtain ⟨callee,args,tys⟩:=c
          simp only at hc ht hx
          subst hc
          have ea:args=#[s,x]:=Array.ext' (by simpa using hx)
          have et:tys=#[t,t]:=Array.ext' (by simpa using ht)
          rw [ea,et]
         split at h
         ·rename_i hs
          cases h
          exact ⟨s,x,t,i,z,v,⟨hop',hu,hi,hz,hcond.1.1,hcond.1.2,hcond.2,hv,htk,.inl ⟨rfl,rfl,hs⟩⟩⟩
         ·rename_i id' hs
          split at h
          ·rename_i r hr
           split at h
           ·rename_i hrc
            simp only [Bool.and_eq_true,beq_iff_eq] at hrc
            cases h
            exact ⟨s,x,t,i,z,v,⟨hop',hu,hi,hz,hcond.1.1,hcond.1.2,hcond.2,hv,htk,.inr ⟨id',r,rfl,rfl,hs,hr,hrc.1.1,hrc.1.2,LKeq_ok hrc.2⟩⟩⟩
           ·cases h
          ·cases h
         ·cases h
        ·cases h
       ·cases h
      ·cases h
     ·cases h
    ·cases h
   ·cases h
  ·cases h
 ·cases h
theorem ownsRow_one {w:World} {base:Nat} {e:TypeId} {size:Nat} {v:Value} {n:Nat} {xs:List Value} (h:w.ownsRow base e size v n xs):v.oneCell'=true:=by
 rcases h.2 with ⟨h,_⟩ | ⟨g,cap,cur,h,_⟩ <;> rw [h] <;> rfl
theorem cat_old (hR:Rep w0 m σ a w) {g:Grow} {s x:Operand} {t:TypeId} {i:TypeInfo} {z:Value} {v:V} (G:CatSpec P σ nn o g s x t i z v) :
  g.x0.wf σ.nv m.env ∧ g.k.hasL (dec (g.x0.ev m.env)) ∧ w.ownsRow w0.heap.size g.elem g.k.sz (a.eval s) (dec (g.x0.ev m.env)).length (flat g.k (dec (g.x0.ev m.env))) ∧
   (match g.old with | none=>(a.eval s).ownBlock=none | some id=>∃ b q,σ.boxes[id]?=some (some b) ∧ b.row=some q ∧ q.own=true ∧ m.sv id=a.eval s):=by
 rcases G.old with ⟨h1,h2,h3⟩ | ⟨id',r,h1,h2,h3,h4,h5,h6,h7⟩
 ·have hs:a.eval s=.slice none 0 0:=hR.cell h3
  rw [h1,h2,hs]
  simp only [A.ev,dec_zero]
  exact ⟨⟨trivial,trivial⟩,⟨by simp,by simp⟩,World.ownsRow_nil ..,rfl⟩
 ·have hs:σ.al id'=true ∧ a.eval s=m.sv id' ∧ (a.eval s).oneCell'=true:=hR.cell h3
  obtain ⟨q1,q2,_,_,q3⟩:=hR.row_ok h4
  obtain ⟨bx,hbx,hbr⟩:=row_box h4
  have q4:=q3.2.1
  rw [h5] at q4
  simp only [if_true] at q4
  rw [h1,h2,← h6,← h7,hs.2.1]
  exact ⟨q2,q3.1,q4,bx,r,hbx,hbr,h5,rfl⟩
theorem cat_gen (hR:Rep w0 m σ a w) {g:Grow} (hg:catP P σ nn o.op=some g) (hnn:σ.nv ≤ nn):GenOk T m.env nn (catD nn g):=by
 obtain ⟨s,x,ty,i,z,v,G⟩:=cat_spec hg
 obtain ⟨k1,k2,k3⟩:=takeSh_ok (T:=T) G.take hR (hR.v_ G.src)
 obtain ⟨k1,k4⟩:=k1 hnn
 obtain ⟨x1,x2,x3,x4⟩:=cat_old hR G
 generalize hl:dec (g.x0.ev m.env)=l at x2 x3
 have ha:g.a.ok (nn + g.defs.length):=k4 _ (List.mem_singleton_self _)
 refine gen_append _ _ _ _ k1 fun e' he ht=>⟨A.ok_mono x1.1 (by omega),?_,⟨Nat.lt_succ_self _,trivial⟩,b2i_bit _,A.ok_mono ha (by omega),?_,⟨Nat.lt_succ_self _,trivial⟩,b2i_bit _,trivial⟩
 ·simp only [KK.has,D.ev]
  rw [A.ev_congr x1.1 (fun j hj=>he j (by omega)),hl]
  have:=x2.1
  simp only [has,lo,hi]; omega
 ·have hyl:=(k3 e' (fun j hj=>he j (by omega)) ht).1
  simp only [List.map_cons,List.map_nil,Sh.leaves,lhas] at hyl
  simp only [KK.has,D.ev]
  rw [A.ev_congr ha (fun j hj=>by simp only [upd]; rw [if_neg (by omega),if_neg (by omega)])]
  have:=hyl.1.1
  simp only [has,lo,hi]; omega
structure CatFacts (P:Program) (T:List K) (w0:World) (σ:St) (a:Act) (w:World) (g:Grow) (s x:Operand) (e1:Nat → Int) (l y:List Int):Prop where
 ex:dec (g.x0.ev e1)=l
 ey:dec (g.a.ev e1)=y
 lx:(l.length:Int) < 2147483648
 ly:(y.length:Int) < 2147483648
 hx:g.k.hasL l
 hy:g.k.hasL y
 own:w.ownsRow w0.heap.size g.elem g.k.sz (a.eval s) l.length (flat g.k l)
 rel:RoRow w w g.k (a.eval x) y
theorem cat_facts (hR:Rep w0 m σ a w) {g:Grow} {s x:Operand} {t:TypeId} {i:TypeInfo} {z:Value} {v:V} (G:CatSpec P σ nn o g s x t i z v) {e1:Nat → Int}
  (he:∀ j,j < σ.nv → e1 j=m.env j) (ht:Told T e1 nn (catD nn g)) (hz1:e1 (nn + (g.defs.length + 1)) ≠ 0) (hz2:e1 (nn + (g.defs.length + 3)) ≠ 0):∃ l y,CatFacts P T w0 σ a w g s x e1 l y:=by
 obtain ⟨k1,k2,k3⟩:=takeSh_ok (T:=T) G.take hR (hR.v_ G.src)
 obtain ⟨x1,x2,x3,x4⟩:=cat_old hR G
 obtain ⟨c1,c2⟩:=(Told.append).1 ht
 have hx0e:g.x0.ev e1=g.x0.ev m.env:=A.ev_congr x1.1 he
 obtain ⟨y1,y2⟩:=k3 e1 he c1
 simp only [List.map_cons,List.map_nil,Sh.leaves,lhas,Sh.rel,List.headD_cons] at y1 y2
 generalize hl:dec (g.x0.ev m.env)=l at x2 x3
 generalize hye:dec (g.a.ev e1)=y at y1 y2
 have d0:e1 (nn + g.defs.length)=(l.length:Int):=by
  have:=(c2 0 _ _ rfl).1
  simpa [D.ev,hx0e,hl] using this
 have d1:e1 (nn + g.defs.length + 1)=b2i (decide (e1 (nn + g.defs.length) < 2147483648)):=(c2 1 _ _ rfl).1
 have d2:e1 (nn + g.defs.length + 2)=(y.length:Int):=by
  have:=(c2 2 _ _ rfl).1
  simpa [D.ev,hye] using this
 have d3:e1 (nn + g.defs.length + 3)=b2i (decide (e1 (nn + (g.defs.length + 2)) < 2147483648)):=(c2 3 _ _ rfl).1
 refine ⟨l,y,⟨by rw [hx0e]; exact hl,hye,?_,?_,x2,y1.1,x3,y2⟩⟩
 ·have h0:e1 (nn + g.defs.length + 1) ≠ 0:=hz1
  have:=bit_yes (b:=e1 (nn + g.defs.length) < 2147483648) (by rw [← d1]; exact h0)
  rw [d0] at this; exact this
 ·have h0:e1 (nn + g.defs.length + 3) ≠ 0:=hz2
  have:=bit_yes (b:=e1 (nn + (g.defs.length + 2)) < 2147483648) (by rw [← d3]; exact h0)
  rw [show nn + (g.defs.length + 2)=nn + g.defs.length + 2 by omega,d2] at this; exact this
theorem CatFacts.has {g:Grow} {s x:Operand} {e1:Nat → Int} {l y:List Int} (F:CatFacts P T w0 σ a w g s x e1 l y):g.k.hasL (l ++ y):=by
 have h1:=F.lx
 have h2:=F.ly
 exact ⟨by simp; omega,fun q hq=>by
  rcases List.mem_append.1 hq with hq | hq
  ·exact F.hx.2 q hq
  ·exact F.hy.2 q hq⟩
theorem cat_post (hR:Rep w0 m σ a w) {g:Grow} (hg:catP P σ nn o.op=some g) (hnn:σ.nv ≤ nn) {e1:Nat → Int}
  (he:∀ j,j < nn → e1 j=m.env j) (ht:Told T e1 nn (catD nn g)) (hz1:e1 (nn + (g.defs.length + 1)) ≠ 0) (hz2:e1 (nn + (g.defs.length + 3)) ≠ 0):GenOk T e1 (nn + (catD nn g).length) [(.lst g.k,.lcat g.x0 g.a)]:=by
 obtain ⟨s,x,ty,i,z,v,G⟩:=cat_spec hg
 obtain ⟨l,y,F⟩:=cat_facts (T:=T) hR G (fun j hj=>he j (by omega)) ht hz1 hz2
 obtain ⟨k1,k2,k3⟩:=takeSh_ok (T:=T) G.take hR (hR.v_ G.src)
 have ha:g.a.ok (nn + g.defs.length):=(k1 hnn).2 _ (List.mem_singleton_self _)
 refine ⟨⟨A.ok_mono (cat_old hR G).1.1 (by omega),A.ok_mono ha (by simp [catD])⟩,?_,trivial⟩
 simp only [KK.has,D.ev,F.ex,F.ey,dec_enc]
 exact F.has
theorem cat_exec (hR:Rep w0 m σ a w) (hn:σ.boxes[nid]?=some none) {g:Grow} (hg:catP P σ nn o.op=some g)
  (ht:Told T m.env nn (catD nn g)) (hz1:m.env (nn + (g.defs.length + 1)) ≠ 0) (hz2:m.env (nn + (g.defs.length + 3)) ≠ 0) (ht2:Told T m.env (nn + (catD nn g).length) [(.lst g.k,.lcat g.x0 g.a)]) (hle:nn + (g.defs.length + 5) ≤ σ.nv)
  {K:Act → World → Prop} {Q:Exit → Act → World → Prop}
  (hK:∀ m' a' w',m'.env=m.env → MExt m σ.nv σ.al m' σ.nv (({σ with boxes:=(Sx.noRows σ.boxes g.old.toList).set nid (some (rowBox {x:=.var (nn + (g.defs.length + 4)),x0:=.var (nn + (g.defs.length + 4)),k:=g.k,elem:=g.elem,own:=true,full:=false })) }:St).put o.dst (.vl (.one (.sl nid)))).al →
   Rep w0 m' (({σ with boxes:=(Sx.noRows σ.boxes g.old.toList).set nid (some (rowBox {x:=.var (nn + (g.defs.length + 4)),x0:=.var (nn + (g.defs.length + 4)),k:=g.k,elem:=g.elem,own:=true,full:=false })) }:St).put o.dst (.vl (.one (.sl nid)))) a' w' → K a' w'):o.wp P a w K Q:=by
 obtain ⟨s,x,ty,i,z,v,G⟩:=cat_spec hg
 obtain ⟨l,y,F⟩:=cat_facts (T:=T) hR G (fun j hj=>rfl) ht hz1 hz2
 obtain ⟨x1,x2,x3,x4⟩:=cat_old hR G
 have hlx:=F.lx
 have hly:=F.ly
 have hbytes:(l.length + y.length) * i.bytes ≤ 140737488355328:=by
  have:=G.bytes
  have h1:(l.length + y.length) * i.bytes ≤ 4294967296 * 16384:=Nat.mul_le_mul (by omega) this
  omega
 have run:∃ v' w',(Builtin.append_ #[ty,ty] o.type #[a.eval s,a.eval x]).run P w=.ok v' w' ∧ w'.ownsRow w0.heap.size g.elem g.k.sz v' (l.length + y.length) (flat g.k l ++ flat g.k y) ∧ w.grownBy w' (a.eval s).ownBlock ∧
   (∀ q,v'.ownBlock=some q → (a.eval s).ownBlock=some q ∨ q=w.heap.size):=by
  rcases F.rel with ⟨hs,hy0⟩ | ⟨ad,scap,hs,hb,hsc,hcell⟩
  ·have h0:=run_append_owned_none (P:=P) (w:=w) w0.heap.size ty o.type g.elem i g.k.sz G.und G.info (a.eval s) l.length (flat g.k l) F.own
   refine ⟨a.eval s,w,by rw [hs]; exact h0,?_,⟨rfl,rfl,rfl,Nat.le_refl _,fun _ _ _=>rfl⟩,fun q hq=>.inl hq⟩
   rw [hy0]
   simpa [flat] using F.own
  ·obtain ⟨v',w',h1,h2,h3,_,h5⟩:=run_append_own_at (P:=P) w w0.heap.size ty o.type g.elem i z g.k.sz i.bytes G.und G.info G.zero G.size rfl (G.zs.trans G.size) (sz_pos _) (a.eval s) l.length (flat g.k l) F.own ad y.length scap (flat g.k y) (flat_len _ _) hcell (flat_one _ _)
    (by simp only [maxLen]; omega) hbytes hR.below.size
   refine ⟨v',w',by rw [hs]; exact h1,h2,h3,fun q hq=>?_⟩
   rcases h5 with h5 | h5
   ·exact .inl (by rw [← h5]; exact hq)
   ·rw [h5] at hq; cases hq; exact .inr rfl
 obtain ⟨v',w',hrun,hown',hgrow,hat⟩:=run
 have hlen:(catD nn g).length=g.defs.length + 4:=by simp [catD]
 have hv0:m.env (nn + (g.defs.length + 4))=enc (l ++ y):=by
  have:=(ht2 0 _ _ rfl).1
  rw [hlen] at this
  simpa [D.ev,F.ex,F.ey] using this
 have hev:dec (A.ev m.env (.var (nn + (g.defs.length + 4))))=l ++ y:=by simp only [A.ev,hv0,dec_enc]
 obtain ⟨r1,r2⟩:=grow_rep hR hn (old:=g.old) (v0:=a.eval s) (v:=v') (w':=w') (r:={x:=.var (nn + (g.defs.length + 4)),x0:=.var (nn + (g.defs.length + 4)),k:=g.k,elem:=g.elem,own:=true,full:=false }) hgrow
  (by rw [hev]; exact ⟨F.has,by simp only [if_true]; rw [flat_append,List.length_append]; exact hown',fun h=>by cases h⟩) ⟨by show nn + (g.defs.length + 4) < σ.nv; omega,trivial⟩ rfl x4 hat
 have hnl:nid < (Sx.noRows σ.boxes g.old.toList).length:=by rw [noRows_len]; exact (List.getElem?_eq_some_iff.1 hn).1
 have fin:=r1.put (s:=.vl (.one (.sl nid))) (v:=v') ⟨by
  rw [al_setBox]; simp [hnl],by simp [M.row],ownsRow_one hown'⟩ o.dst
 have hal:∀ (τ:St) (d:Option Nat) (q:SV),(τ.put d q).al=τ.al ∧ (τ.put d q).nv=τ.nv:=fun τ d q=>by cases d <;> exact ⟨rfl,rfl⟩
 have hex:(execOp a.eval o).run P w=.ok (.value v') w':=by
  simp only [execOp,G.op,resolve]
  simp only [invoke,builtin,Sem.run_bind,Sem.run_pure,Result.andThen_ok,List.map_toArray,List.map_cons,List.map_nil,hrun]
 unfold Oper.wp
 rw [hex]
 refine hK (m.row nid v') _ _ rfl ?_ fin
 rw [(hal _ _ _).1]
 exact r2
theorem empty_spec {t:TypeId} {len:Nat} {ps:Array (Nat × Operand)} {p:Plan} (h:emptyP P nid t len ps=some p):len=0 ∧ ps.toList=[] ∧ ∃ e i k,P.underlying t=some (.slice e) ∧ P.info? e=some i ∧ i.size=k.sz ∧
  p={val:=.vl (.one (.sl nid)),eff:=.new (rowBox {x:=.lit 0,x0:=.lit 0,k:=k,elem:=e,own:=true,full:=true }) }:=by
 unfold emptyP at h
 split at h
 ·rename_i hc
  simp only [Bool.and_eq_true,beq_iff_eq,List.isEmpty_iff] at hc
  split at h
  ·rename_i e hu
   split at h
   ·rename_i i k hi hk
    split at h
    ·rename_i hs
     simp only [beq_iff_eq] at hs
     cases h
     exact ⟨hc.1,hc.2,e,i,k,hu,hi,hs,rfl⟩
    ·cases h
   ·cases h
  ·cases h
 ·cases h
theorem empty_exec (hR:Rep w0 m σ a w) {t:TypeId} {len:Nat} {ps:Array (Nat × Operand)} {p:Plan} (ho:o.op=.buildSlice t len ps) (hp:emptyP P nid t len ps=some p) (hn:σ.boxes[nid]?=some none)
  {K:Act → World → Prop} {Q:Exit → Act → World → Prop}
  (hK:∀ m' a' w',m'.env=m.env → MExt m σ.nv σ.al m' σ.nv (applyP σ p nid o.dst).al → Rep w0 m' (applyP σ p nid o.dst) a' w' → K a' w'):o.wp P a w K Q:=by
 obtain ⟨h1,h2,e,i,k,hu,hi,hs,rfl⟩:=empty_spec hp
 subst h1
 have hps:ps=#[]:=Array.ext' h2
 subst hps
 have hown:(w.alloc (.cells #[] e)).ownsRow w0.heap.size e k.sz (.slice (some ⟨w.heap.size,0,none⟩) 0 0) 0 []:=World.ownsRow_made w #[] 0 hR.below.size (Nat.zero_le _) (by simp)
 have hgrow:w.grownBy (w.alloc (.cells #[] e)) none:=World.grownBy_alloc _ _ _
 obtain ⟨r1,r2⟩:=grow_rep hR hn (old:=none) (v0:=.slice none 0 0) (v:=.slice (some ⟨w.heap.size,0,none⟩) 0 0) (w':=w.alloc (.cells #[] e)) (r:={x:=.lit 0,x0:=.lit 0,k:=k,elem:=e,own:=true,full:=true }) hgrow
  (by simp only [A.ev,dec_zero]; exact ⟨⟨by simp,by simp⟩,by simp only [if_true]; exact hown,fun _=>rfl⟩) ⟨trivial,trivial⟩ rfl rfl (fun q hq=>.inr (by simpa [Value.ownBlock] using hq.symm))
 ·have hnl:nid < σ.boxes.length:=(List.getElem?_eq_some_iff.1 hn).1
  have fin:=r1.put (s:=.vl (.one (.sl nid))) (v:=.slice (some ⟨w.heap.size,0,none⟩) 0 0) ⟨by
   rw [al_setBox]; simp [noRows,hnl],by simp [M.row],rfl⟩ o.dst
  have eq:applyP σ {val:=.vl (.one (.sl nid)),eff:=.new (rowBox {x:=.lit 0,x0:=.lit 0,k:=k,elem:=e,own:=true,full:=true }) } nid o.dst=(σ.setBox nid (rowBox {x:=.lit 0,x0:=.lit 0,k:=k,elem:=e,own:=true,full:=true })).put o.dst (.vl (.one (.sl nid))):=by rw [applyP_def]; rfl
  have hal:∀ (τ:St) (d:Option Nat) (q:SV),(τ.put d q).al=τ.al:=fun τ d q=>by cases d <;> rfl
  have hex:(execOp a.eval o).run P w=.ok (.value (.slice (some ⟨w.heap.size,0,none⟩) 0 0)) (w.alloc (.cells #[] e)):=by
   have hsz:szOf P e=some i.size:=by simp [szOf,hi]
   have he:Array.map (fun (_:Nat)=>(default:Value)) (Array.range 0)=#[]:=Array.ext' (by simp)
   simp only [execOp,ho,Instr.buildSlice]
   simp only [Sem.run_bind,run_underlying hu,Result.andThen_ok,run_sizeOf hsz]
   simp [he,newRow,Instr.fill]
  unfold Oper.wp
  rw [hex]
  refine hK (m.row nid _) _ _ rfl ?_ (by rw [eq]; exact fin)
  rw [eq,hal]
  exact r2
end
end Go.Sx
