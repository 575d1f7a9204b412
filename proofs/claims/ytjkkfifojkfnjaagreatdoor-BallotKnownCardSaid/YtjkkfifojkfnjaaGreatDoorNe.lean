/- Part Ne of the proof. -/
import Derived.Test.YtjkkfifojkfnjaaGreatDoorNd
import Derived.Laws.OwnMore
import Derived.Maps.AppendAt
set_option linter.unusedVariables false
set_option linter.unusedSimpArgs false
namespace Go.Sx
open Go Go.RowKit
theorem cst_rel {m:M} {nv:Nat} {al:Nat->Bool} (c:C):C.rel m nv al (if cstB c then c else .top) (cstV c):=by
 split
 ·rename_i h
  unfold cstB at h
  split at h
  all_goals (first | rfl | skip)
  ·exact ⟨by simp,rfl⟩
  ·exact ⟨⟨trivial,trivial⟩,hasB_has h,rfl⟩
  ·rename_i n
   simp at h
   refine ⟨⟨trivial,trivial⟩,?_,rfl⟩
   simp only [A.ev];omega
  ·cases h
 ·trivial
section
variable {T:List K} {g:Nat} {X:K} {args:List A}
theorem putLs_length:∀ (ls:List L) (nn j:Nat),(putLs g args nn j ls).1.length=lcount ls:=by
 intro ls
 induction ls with
 | nil=>intro nn j;rfl
 | cons l ls ih=>intro nn j;cases l <;> simp [putLs,lcount,L.n,ih,Nat.add_comm]
theorem putLs_gen (hg:T[g]?=some X):∀ (ls:List L) (nn j:Nat) (ys:List Int),(∀ a∈args,a.ok nn)->lhas ls ys ->
  ∀ e:Nat->Int,(∀ (i:Nat) y,ys[i]?=some y->(X.sem (args.map (·.ev e))).getD (j+i) 0=y)->GenOk T e nn (putLs g args nn j ls).1:=by
 intro ls
 induction ls with
 | nil=>intro nn j ys _ h e _;trivial
 | cons l ls ih =>
  intro nn j ys hok hh e hy
  have tail:∀ (x:Int) (ys:List Int),lhas ls ys->(∀ (i:Nat) y,(x::ys)[i]?=some y->(X.sem (args.map (·.ev e))).getD (j+i) 0=y)->∀ v:Int,GenOk T (upd e nn v) (nn+1) (putLs g args (nn+1) (j+1) ls).1:=by
   intro x ys hls hyy v
   have he:∀ i,i<nn->upd e nn v i=e i:=fun i hi=>by simp [upd];omega
   exact ih (nn+1) (j+1) ys (fun a ha=>A.ok_mono (hok a ha) (by omega)) hls (upd e nn v) (fun i y hi=>by
    rw [map_ev_congr hok he]
    have:=hyy (i+1) y (by simpa using hi)
    rwa [show j+(i+1)=j+1+i by omega] at this)
  cases l with
  | cst c=>exact ih nn j ys hok hh e hy
  | int k=>cases ys with
   | nil=>cases hh
   | cons y ys =>
    have h0:=hy 0 y rfl
    simp only [Nat.add_zero] at h0
    have hev:(D.app g j args).ev T e=y:=by simp only [D.ev,hg];exact h0
    exact ⟨hok,by rw [hev];exact hh.1,by rw [hev];exact tail y ys hh.2 hy y⟩
  | bool=>cases ys with
   | nil=>cases hh
   | cons y ys =>
    have h0:=hy 0 y rfl
    simp only [Nat.add_zero] at h0
    have hev:(D.app g j args).ev T e=y:=by simp only [D.ev,hg];exact h0
    exact ⟨hok,by rw [hev];exact hh.1,by rw [hev];exact tail y ys hh.2 hy y⟩
  | num=>cases ys with
   | nil=>cases hh
   | cons y ys =>
    have h0:=hy 0 y rfl
    simp only [Nat.add_zero] at h0
    have hev:(D.app g j args).ev T e=y:=by simp only [D.ev,hg];exact h0
    exact ⟨hok,by rw [hev];exact hh.1,by rw [hev];exact tail y ys hh.2 hy y⟩
  | lst k=>cases ys with
   | nil=>cases hh
   | cons y ys =>
    have h0:=hy 0 y rfl
    simp only [Nat.add_zero] at h0
    have hev:(D.app g j args).ev T e=y:=by simp only [D.ev,hg];exact h0
    exact ⟨hok,by rw [hev];exact hh.1,by rw [hev];exact tail y ys hh.2 hy y⟩
  | arr k n=>cases ys with
   | nil=>cases hh
   | cons y ys =>
    have h0:=hy 0 y rfl
    simp only [Nat.add_zero] at h0
    have hev:(D.app g j args).ev T e=y:=by simp only [D.ev,hg];exact h0
    exact ⟨hok,by rw [hev];exact hh.1,by rw [hev];exact tail y ys hh.2 hy y⟩
theorem putLs_val (hg:T[g]?=some X) {m:M} {nv:Nat} {al:Nat->Bool}:∀ (ls:List L) (nn j:Nat) (ys:List Int),lhas ls ys->(∀ (i:Nat) y,ys[i]?=some y->(X.sem (args.map (·.ev m.env))).getD (j+i) 0=y) ->
  Told T m.env nn (putLs g args nn j ls).1->nn+lcount ls<=nv->Rels m nv al (putLs g args nn j ls).2 (lvals ls ys):=by
 intro ls
 induction ls with
 | nil=>intro nn j ys _ _ _ _;trivial
 | cons l ls ih =>
  intro nn j ys hh hy ht hle
  have tail:∀ (kk:KK) (y:Int) (ys:List Int),lhas ls ys->(∀ (i:Nat) z,(y::ys)[i]?=some z->(X.sem (args.map (·.ev m.env))).getD (j+i) 0=z)->Told T m.env nn ((kk,D.app g j args)::(putLs g args (nn+1) (j+1) ls).1) ->
    nn+1+lcount ls<=nv->m.env nn=y/\Rels m nv al (putLs g args (nn+1) (j+1) ls).2 (lvals ls ys):=by
   intro kk y ys hls hyy ht hle
   have h1:=(ht 0 _ _ rfl).1
   have h0:=hyy 0 y rfl
   simp only [Nat.add_zero] at h1 h0
   refine ⟨by rw [h1];simp only [D.ev,hg];exact h0,ih (nn+1) (j+1) ys hls (fun i z hi=>?_) (fun i kk d hi=>?_) hle⟩
   ·have:=hyy (i+1) z (by simpa using hi)
    rwa [show j+(i+1)=j+1+i by omega] at this
   ·have:=ht (i+1) kk d (by simpa using hi)
    rwa [show nn+(i+1)=nn+1+i by omega] at this
  cases l with
  | cst c=>exact ⟨cst_rel c,ih nn j ys hh hy ht (by simpa [lcount,L.n] using hle)⟩
  | int k=>cases ys with
   | nil=>cases hh
   | cons y ys =>
    have hle':nn+1+lcount ls<=nv:=by simp [lcount,L.n] at hle;omega
    obtain ⟨h2,h3⟩:=tail (.int k) y ys hh.2 hy ht hle'
    exact ⟨⟨⟨show nn<nv by omega,trivial⟩,by simp only [A.ev,h2];exact hh.1,by simp only [A.ev,h2]⟩,h3⟩
  | bool=>cases ys with
   | nil=>cases hh
   | cons y ys =>
    have hle':nn+1+lcount ls<=nv:=by simp [lcount,L.n] at hle;omega
    obtain ⟨h2,h3⟩:=tail .bit y ys hh.2 hy ht hle'
    exact ⟨⟨⟨show nn<nv by omega,trivial⟩,by simp only [A.ev,h2];exact hh.1,by simp only [A.ev,h2]⟩,h3⟩
  | num=>cases ys with
   | nil=>cases hh
   | cons y ys =>
    have hle':nn+1+lcount ls<=nv:=by simp [lcount,L.n] at hle;omega
    obtain ⟨h2,h3⟩:=tail .num y ys hh.2 hy ht hle'
    have hl:∀ q:Nat,C.rel m nv al (.int .u64 (.limb nn q)) (.int .u64 (y/p64 q%18446744073709551616)):=by
     intro q
     refine ⟨⟨show nn<nv by omega,by simp only [A.good,h2];exact hh.1⟩,?_,by simp only [A.ev,h2]⟩
     simp only [A.ev,has,lo,hi];omega
    exact Rels.append (vs:=limbs y) ⟨hl 0,hl 1,hl 2,hl 3,hl 4,hl 5,trivial⟩ h3
  | lst k=>cases ys with
   | nil=>cases hh
   | cons y ys =>
    have hle':nn+1+lcount ls<=nv:=by simp [lcount,L.n] at hle;omega
    exact (tail (.lst k) y ys hh.2 hy ht hle').2
  | arr k n=>cases ys with
   | nil=>cases hh
   | cons y ys =>
    have hle':nn+1+lcount ls<=nv:=by simp [lcount,L.n] at hle;omega
    obtain ⟨h2,h3⟩:=tail (.arr k n) y ys hh.2 hy ht hle'
    exact Rels.append (elt_rels h2 hh.1.1 hh.1.2 (by omega)) h3
end
section
variable {T:List K} {g:Nat} {X:K} {args:List A} {nid n0:Nat} {w':World}
theorem take_get {ys:List Int} {n i:Nat} {y:Int} (h:(ys.take n)[i]?=some y):ys[i]?=some y:=by
 rw [List.getElem?_take] at h
 split at h
 ·exact h
 ·cases h
theorem putOuts_gen (hg:T[g]?=some X):∀ (os:List Oh) (nn j:Nat) (ds:Defs) (vs:List V) (nb:Option Box),putOuts g args nn j nid os=some (ds,vs,nb) ->
  ∀ (ys:List Int) (us:List Value),(∀ a∈args,a.ok nn)->outsRel n0 w' os ys us->∀ e:Nat->Int,(∀ (i:Nat) y,ys[i]?=some y->(X.sem (args.map (·.ev e))).getD (j+i) 0=y)->GenOk T e nn ds:=by
 intro os
 induction os with
 | nil=>intro nn j ds vs nb h ys us _ hr e _;simp [putOuts] at h;obtain ⟨rfl,rfl,rfl⟩:=h;trivial
 | cons o os ih =>
  intro nn j ds vs nb h ys us hok hr e hy
  cases us with
  | nil=>cases hr
  | cons u us =>
   obtain ⟨hr1,hr2,hr3⟩:=hr
   have head:=putLs_gen (g:=g) hg o.leaves nn j (ys.take (lcount o.leaves)) hok hr1 e (fun i y hi=>hy i y (take_get hi))
   have tail:∀ {q1:Defs} {q2:List V} {q3:Option Box},putOuts g args (nn+lcount o.leaves) (j+lcount o.leaves) nid os=some (q1,q2,q3) ->
     ∀ e1:Nat->Int,(∀ i,i<nn->e1 i=e i)->GenOk T e1 (nn+lcount o.leaves) q1:=by
    intro q1 q2 q3 hq e1 he1
    refine ih _ _ _ _ _ hq _ _ (fun a ha=>A.ok_mono (hok a ha) (by omega)) hr3 e1 fun i y hi=>?_
    rw [map_ev_congr hok he1]
    have:=hy (lcount o.leaves+i) y (by rw [List.getElem?_drop] at hi;exact hi)
    rwa [<- Nat.add_assoc] at this
   cases o with
   | one l =>
    simp only [putOuts] at h
    split at h
    ·cases h
    ·rename_i q hq
     obtain ⟨q1,q2,q3⟩:=q
     split at h
     ·simp at h
      obtain ⟨rfl,rfl,rfl⟩:=h
      refine gen_append _ _ _ _ head fun e1 he1 _=>?_
      rw [show (putLs g args nn j [l]).1.length=lcount [l] from putLs_length ..];exact tail hq e1 he1
     ·cases h
   | agg ls =>
    simp only [putOuts] at h
    split at h
    ·cases h
    ·rename_i q hq
     obtain ⟨q1,q2,q3⟩:=q
     simp at h
     obtain ⟨rfl,rfl,rfl⟩:=h
     refine gen_append _ _ _ _ head fun e1 he1 _=>?_
     rw [show (putLs g args nn j ls).1.length=lcount ls from putLs_length ..];exact tail hq e1 he1
   | box e0 ls =>
    simp only [putOuts] at h
    split at h
    ·cases h
    ·rename_i q hq
     obtain ⟨q1,q2,q3⟩:=q
     simp only at h
     cases q3 with
     | none =>
      simp at h
      obtain ⟨rfl,rfl,rfl⟩:=h
      refine gen_append _ _ _ _ head fun e1 he1 _=>?_
      rw [show (putLs g args nn j ls).1.length=lcount ls from putLs_length ..];exact tail hq e1 he1
     | some z=>cases h
   | frz e0 ls =>
    simp only [putOuts] at h
    split at h
    ·cases h
    ·rename_i q hq
     obtain ⟨q1,q2,q3⟩:=q
     simp only at h
     cases q3 with
     | none =>
      simp at h
      obtain ⟨rfl,rfl,rfl⟩:=h
      refine gen_append _ _ _ _ head fun e1 he1 _=>?_
      rw [show (putLs g args nn j ls).1.length=lcount ls from putLs_length ..];exact tail hq e1 he1
     | some z=>cases h
   | lst e0 k =>
    simp only [putOuts] at h
    split at h
    ·cases h
    ·rename_i q hq
     obtain ⟨q1,q2,q3⟩:=q
     simp only at h
     cases q3 with
     | none =>
      simp at h
      obtain ⟨rfl,rfl,rfl⟩:=h
      refine gen_append _ _ _ _ head fun e1 he1 _=>?_
      rw [show (putLs g args nn j [.lst k]).1.length=lcount [.lst k] from putLs_length ..];exact tail hq e1 he1
     | some z=>cases h
   | lent e0 k =>
    simp only [putOuts] at h
    split at h
    ·cases h
    ·rename_i q hq
     obtain ⟨q1,q2,q3⟩:=q
     simp only at h
     cases q3 with
     | none =>
      simp at h
      obtain ⟨rfl,rfl,rfl⟩:=h
      refine gen_append _ _ _ _ head fun e1 he1 _=>?_
      rw [show (putLs g args nn j [.lst k,.int .i64]).1.length=lcount [.lst k,.int .i64] from putLs_length ..];exact tail hq e1 he1
     | some z=>cases h
def NewBox (n0:Nat) (w':World) (m:M) (nv:Nat) (al:Nat->Bool) (b:Nat) (vb:Value) (bx:Box):Prop :=
 (bx.own=true/\bx.row=none/\n0<=b/\∃ zs:List Value,w'.heap[b]?=some (.cells zs.toArray bx.elem bx.fz)/\Rels m nv al bx.cells zs) ∨
 ∃ r:Row,bx=rowBox r/\r.own=true/\r.x.wf nv m.env/\r.x0=r.x/\r.k.hasL (dec (r.x.ev m.env))/\w'.ownsRow n0 r.elem r.k.sz vb (dec (r.x.ev m.env)).length (flat r.k (dec (r.x.ev m.env)))/\(r.full=true->fullV vb)
theorem owns_form {w:World} {n0:Nat} {e:TypeId} {s:Nat} {v:Value} {n:Nat} {xs:List Value} (h:w.ownsRow n0 e s v n xs):∃ b cap,v=.slice b n cap:=by
 rcases h.2 with ⟨hv,hn⟩ | ⟨g,cap,cur,hv,_⟩
 ·exact ⟨none,0,by rw [hv,hn]⟩
 ·exact ⟨_,cap,hv⟩
theorem putOuts_val (hg:T[g]?=some X) {m:M} {nv:Nat} {al:Nat->Bool}:∀ (os:List Oh) (nn j:Nat) (ds:Defs) (vs:List V) (nb:Option Box),putOuts g args nn j nid os=some (ds,vs,nb) ->
  ∀ (ys:List Int) (us:List Value),outsRel n0 w' os ys us->(∀ (i:Nat) y,ys[i]?=some y->(X.sem (args.map (·.ev m.env))).getD (j+i) 0=y) ->
  Told T m.env nn ds->nn+ds.length<=nv ->
   ∃ b vb,(∀ bx,nb=some bx->NewBox n0 w' m nv al b vb bx) /\
    ∀ (m'':M) (al'':Nat->Bool),MExt m nv al m'' nv al''->(∀ bx,nb=some bx->al'' nid=true/\(bx.own=true->m''.rho nid=(b,0))/\(bx.own=false->m''.sv nid=vb))->VRels m'' nv al'' vs us:=by
 intro os
 induction os with
 | nil =>
  intro nn j ds vs nb h ys us hr _ _ _
  simp [putOuts] at h
  obtain ⟨rfl,rfl,rfl⟩:=h
  obtain ⟨_,rfl⟩:=hr
  exact ⟨0,.nilFunc,(fun bx h=>by cases h),fun m'' al'' _ _=>trivial⟩
 | cons o os ih =>
  intro nn j ds vs nb h ys us hr hy ht hle
  cases us with
  | nil=>cases hr
  | cons u us =>
   obtain ⟨hr1,hr2,hr3⟩:=hr
   have head:=putLs_val (g:=g) hg (m:=m) (nv:=nv) (al:=al) o.leaves nn j (ys.take (lcount o.leaves)) hr1 (fun i y hi=>hy i y (take_get hi))
   have tail:∀ {q1:Defs} {q2:List V} {q3:Option Box},putOuts g args (nn+lcount o.leaves) (j+lcount o.leaves) nid os=some (q1,q2,q3) ->
     Told T m.env (nn+lcount o.leaves) q1->nn+lcount o.leaves+q1.length<=nv ->
     ∃ b vb,(∀ bx,q3=some bx->NewBox n0 w' m nv al b vb bx) /\
    ∀ (m'':M) (al'':Nat->Bool),MExt m nv al m'' nv al''->(∀ bx,q3=some bx->al'' nid=true/\(bx.own=true->m''.rho nid=(b,0))/\(bx.own=false->m''.sv nid=vb))->VRels m'' nv al'' q2 us:=by
    intro q1 q2 q3 hq ht1 hl1
    refine ih _ _ _ _ _ hq _ _ hr3 (fun i y hi=>?_) ht1 hl1
    have:=hy (lcount o.leaves+i) y (by rw [List.getElem?_drop] at hi;exact hi)
    rwa [<- Nat.add_assoc] at this
   cases o with
   | one l =>
    simp only [putOuts] at h
    split at h
    ·cases h
    ·rename_i q hq
     obtain ⟨q1,q2,q3⟩:=q
     split at h
     ·rename_i c hc
      simp at h
      obtain ⟨rfl,rfl,rfl⟩:=h
      have hlen:(putLs g args nn j [l]).1.length=lcount [l]:=putLs_length ..
      rw [Told.append,hlen] at ht
      rw [List.length_append,hlen] at hle
      obtain ⟨b,vb,hb1,hb2⟩:=tail hq ht.2 (by simp only [Oh.leaves];omega)
      refine ⟨b,vb,hb1,fun m'' al'' hx hn=>⟨?_,hb2 m'' al'' hx hn⟩⟩
      have h1:=head ht.1 (by simp only [Oh.leaves];omega)
      simp only [Oh.leaves] at h1
      rw [hc] at h1
      simp only [Oh.rel] at hr2
      simp only [Oh.leaves] at hr2
      rw [<- hr2] at h1
      exact C.rel_mono hx h1.1
     ·cases h
   | agg ls =>
    simp only [putOuts] at h
    split at h
    ·cases h
    ·rename_i q hq
     obtain ⟨q1,q2,q3⟩:=q
     simp at h
     obtain ⟨rfl,rfl,rfl⟩:=h
     have hlen:(putLs g args nn j ls).1.length=lcount ls:=putLs_length ..
     rw [Told.append,hlen] at ht
     rw [List.length_append,hlen] at hle
     obtain ⟨b,vb,hb1,hb2⟩:=tail hq ht.2 (by simp only [Oh.leaves];omega)
     refine ⟨b,vb,hb1,fun m'' al'' hx hn=>⟨?_,hb2 m'' al'' hx hn⟩⟩
     have h1:=head ht.1 (by simp only [Oh.leaves];omega)
     exact ⟨_,hr2,h1.mono hx⟩
   | box e0 ls =>
    simp only [putOuts] at h
    split at h
    ·cases h
    ·rename_i q hq
     obtain ⟨q1,q2,q3⟩:=q
     simp only at h
     cases q3 with
     | none =>
      simp at h
      obtain ⟨rfl,rfl,rfl⟩:=h
      have hlen:(putLs g args nn j ls).1.length=lcount ls:=putLs_length ..
      rw [Told.append,hlen] at ht
      rw [List.length_append,hlen] at hle
      obtain ⟨_,_,_,hb2⟩:=tail hq ht.2 (by simp only [Oh.leaves];omega)
      obtain ⟨b,hb0,hu,hh⟩:=hr2
      have h1:=head ht.1 (by simp only [Oh.leaves];omega)
      refine ⟨b,.nilFunc,fun bx hec=>?_,fun m'' al'' hx hn=>⟨?_,hb2 m'' al'' hx (fun _ h=>by cases h)⟩⟩
      ·simp at hec
       subst hec
       exact .inl ⟨rfl,rfl,hb0,_,hh,h1⟩
      ·obtain ⟨g1,g2,_⟩:=hn _ rfl
       exact ⟨g1,by rw [hu];simp [M.at,g2 rfl]⟩
     | some z=>cases h
   | frz e0 ls =>
    simp only [putOuts] at h
    split at h
    ·cases h
    ·rename_i q hq
     obtain ⟨q1,q2,q3⟩:=q
     simp only at h
     cases q3 with
     | none =>
      simp at h
      obtain ⟨rfl,rfl,rfl⟩:=h
      have hlen:(putLs g args nn j ls).1.length=lcount ls:=putLs_length ..
      rw [Told.append,hlen] at ht
      rw [List.length_append,hlen] at hle
      obtain ⟨_,_,_,hb2⟩:=tail hq ht.2 (by simp only [Oh.leaves];omega)
      obtain ⟨b,hb0,hu,hh⟩:=hr2
      have h1:=head ht.1 (by simp only [Oh.leaves];omega)
      have h2:(putLs g args nn j ls).2.length=(lvals ls (ys.take (lcount ls))).length:=h1.length
      have hh:w'.heap[b]?=some (.cells (lvals ls (ys.take (lcount ls))).toArray e0 ((lvals ls (ys.take (lcount ls))).length,(lvals ls (ys.take (lcount ls))).length+1)):=hh
      have hu:u=.slice (some ⟨b,0,none⟩) (lvals ls (ys.take (lcount ls))).length (lvals ls (ys.take (lcount ls))).length:=hu
      refine ⟨b,.nilFunc,fun bx hec=>?_,fun m'' al'' hx hn=>⟨?_,hb2 m'' al'' hx (fun _ h=>by cases h)⟩⟩
      ·simp at hec
       subst hec
       exact .inl ⟨rfl,rfl,hb0,_,by rw [hh,<- h2];rfl,h1⟩
      ·obtain ⟨g1,g2,_⟩:=hn _ rfl
       exact ⟨g1,by rw [hu,<- h2];simp [M.at,g2 rfl]⟩
     | some z=>cases h
   | lst e0 k =>
    simp only [putOuts] at h
    split at h
    ·cases h
    ·rename_i q hq
     obtain ⟨q1,q2,q3⟩:=q
     simp only at h
     cases q3 with
     | none =>
      simp at h
      obtain ⟨rfl,rfl,rfl⟩:=h
      have hlen:(putLs g args nn j [.lst k]).1.length=lcount [.lst k]:=putLs_length ..
      rw [Told.append,hlen] at ht
      rw [List.length_append,hlen] at hle
      obtain ⟨_,_,_,hb2⟩:=tail hq ht.2 (by simp only [Oh.leaves];omega)
      simp only [Oh.leaves] at hr1 hr2
      have hone:lcount [L.lst k]=1:=rfl
      rw [hone] at hr1 hle
      simp only [Oh.rel,hone] at hr2
      cases ys with
      | nil=>cases hr1
      | cons y ys =>
       simp only [List.take_succ_cons,List.take_zero,List.headD_cons] at hr1 hr2
       have h0:m.env nn=y:=by
        have h1:=(ht.1 0 _ _ rfl).1
        simp only [Nat.add_zero] at h1
        rw [h1];simp only [D.ev,hg];exact hy 0 y rfl
       obtain ⟨bb,cap,hform⟩:=owns_form hr2
       refine ⟨0,u,fun bx hec=>?_,fun m'' al'' hx hn=>⟨?_,hb2 m'' al'' hx (fun _ h=>by cases h)⟩⟩
       ·simp at hec
        subst hec
        refine .inr ⟨_,rfl,rfl,⟨show nn<nv by omega,trivial⟩,rfl,?_,?_,fun h=>by cases h⟩
        ·simp only [A.ev,h0];exact hr1.1
        ·simp only [A.ev,h0];exact hr2
       ·obtain ⟨g1,_,g3⟩:=hn _ rfl
        exact ⟨g1,(g3 rfl).symm,by rw [hform];rfl⟩
     | some z=>cases h
   | lent e0 k =>
    simp only [putOuts] at h
    split at h
    ·cases h
    ·rename_i q hq
     obtain ⟨q1,q2,q3⟩:=q
     simp only at h
     cases q3 with
     | none =>
      simp at h
      obtain ⟨rfl,rfl,rfl⟩:=h
      have hlen:(putLs g args nn j [.lst k,.int .i64]).1.length=lcount [.lst k,.int .i64]:=putLs_length ..
      rw [Told.append,hlen] at ht
      rw [List.length_append,hlen] at hle
      obtain ⟨_,_,_,hb2⟩:=tail hq ht.2 (by simp only [Oh.leaves];omega)
      simp only [Oh.leaves] at hr1 hr2
      have hone:lcount [L.lst k,.int .i64]=2:=rfl
      rw [hone] at hr1 hle
      simp only [Oh.rel,hone] at hr2
      match ys,hr1,hr2,hy with
      | [],hr1,_,_=>cases hr1
      | [y],hr1,_,_=>exact hr1.2.elim
      | y::y1::ys,hr1,hr2,hy =>
       simp only [List.take_succ_cons,List.take_zero,List.headD_cons,List.getD_cons_succ,List.getD_cons_zero] at hr1 hr2
       have h0:m.env nn=y:=by
        have h1:=(ht.1 0 _ _ rfl).1
        simp only [Nat.add_zero] at h1
        rw [h1];simp only [D.ev,hg];exact hy 0 y rfl
       have h1:m.env (nn+1)=y1:=by
        have h1:=(ht.1 1 _ _ rfl).1
        rw [h1];simp only [D.ev,hg];exact hy 1 y1 rfl
       obtain ⟨v',o1,o2,o3,o4⟩:=hr2
       obtain ⟨bb,cap,hform⟩:=owns_form o1
       have hbig:=hr1.2.1
       simp only [has,lo,hi] at hbig
       refine ⟨0,v',fun bx hec=>?_,fun m'' al'' hx hn=>⟨?_,hb2 m'' al'' hx (fun _ h=>by cases h)⟩⟩
       ·simp at hec
        subst hec
        refine .inr ⟨_,rfl,rfl,⟨show nn<nv by omega,trivial⟩,rfl,?_,?_,fun _=>o2⟩
        ·simp only [A.ev,h0];exact hr1.1
        ·simp only [A.ev,h0];exact o1
       ·obtain ⟨g1,_,g3⟩:=hn _ rfl
        have g3:=g3 rfl
        have he:m''.env (nn+1)=y1:=by rw [hx.env _ (by omega)];exact h1
        refine ⟨g1,⟨trivial,trivial⟩,⟨show nn+1<nv by omega,trivial⟩,?_,?_,?_⟩
        ·simp only [A.ev,he,g3]
         rw [hform]
         exact ⟨Int.le_refl _,o3.1,o3.2,hbig.2⟩
        ·simp only [A.ev,he,g3];exact .inl o4
        ·rw [o4];exact sub_one (by rw [hform];rfl)
     | some z=>cases h
theorem putK_cases {X:K} {g:Nat} {args:List A} {nn nid:Nat} {q:Defs×List V×Option Box} (h:putK X g args nn nid=some q) :
  putOuts g args nn 0 nid X.outs=some q∨∃ k xs,X.outs=[.one (.int k)]/\mapO A.lit? args=some xs/\hasB k ((X.sem xs).getD 0 0)=true/\q=([],[V.one (.int k (.lit ((X.sem xs).getD 0 0)))],none):=by
 unfold putK at h
 split at h
 ·rename_i k xs _ ho hx
  split at h
  ·rename_i hb
   cases h
   exact .inr ⟨k,xs,ho,hx,hb,rfl⟩
  ·exact .inl h
 ·exact .inl h
theorem putK_gen (hg:T[g]?=some X) {nn:Nat} {ds:Defs} {vs:List V} {nb:Option Box} (h:putK X g args nn nid=some (ds,vs,nb))
  (ys:List Int) (us:List Value) (ha:∀ a∈args,a.ok nn) (ho:outsRel n0 w' X.outs ys us) (e:Nat->Int) (hy:∀ (i:Nat) y,ys[i]?=some y->(X.sem (args.map (·.ev e))).getD (0+i) 0=y):GenOk T e nn ds:=by
 rcases putK_cases h with h | ⟨k,xs,_,_,_,hq⟩
 ·exact putOuts_gen (T:=T) hg _ _ _ _ _ _ h ys us ha ho e hy
 ·cases hq;trivial
theorem putK_val (hg:T[g]?=some X) {m:M} {nv:Nat} {al:Nat->Bool} {nn:Nat} {ds:Defs} {vs:List V} {nb:Option Box} (h:putK X g args nn nid=some (ds,vs,nb))
  (ys:List Int) (us:List Value) (hr:outsRel n0 w' X.outs ys us) (hy:∀ (i:Nat) y,ys[i]?=some y->(X.sem (args.map (·.ev m.env))).getD (0+i) 0=y)
  (ht:Told T m.env nn ds) (hle:nn+ds.length<=nv) :
   ∃ b vb,(∀ bx,nb=some bx->NewBox n0 w' m nv al b vb bx) /\
    ∀ (m'':M) (al'':Nat->Bool),MExt m nv al m'' nv al''->(∀ bx,nb=some bx->al'' nid=true/\(bx.own=true->m''.rho nid=(b,0))/\(bx.own=false->m''.sv nid=vb))->VRels m'' nv al'' vs us:=by
 rcases putK_cases h with h | ⟨k,xs,ho,hx,hb,hq⟩
 ·exact putOuts_val (T:=T) hg _ _ _ _ _ _ h ys us hr hy ht hle
 ·cases hq
  refine ⟨0,.nilFunc,(fun bx h=>by cases h),fun m'' al'' _ _=>?_⟩
  rw [ho] at hr
  cases us with
  | nil=>exact hr.elim
  | cons u us =>
   obtain ⟨h1,h2,h3⟩:=hr
   obtain ⟨h4,rfl⟩:=h3
   cases ys with
   | nil=>exact h1.elim
   | cons y ys =>
    have hy0:(X.sem (args.map (·.ev m.env))).getD 0 0=y:=hy 0 y rfl
    rw [lits_ok m.env _ _ hx] at hy0
    have h5:[u]=[Value.int k y]:=h2
    refine ⟨⟨⟨trivial,trivial⟩,?_,?_⟩,trivial⟩
    ·exact hasB_has hb
    ·show u=.int k _
     rw [show (A.lit ((X.sem xs).getD 0 0)).ev m''.env=(X.sem xs).getD 0 0 from rfl,hy0]
     exact List.head_eq_of_cons_eq h5
end
section
variable {P:Program} {T:List K} {w0:World} {m:M} {Y:St} {a:Act} {w:World} {o:Oper} {nn nid:Nat}
theorem grow_rep (h:Rep w0 m Y a w) {nid:Nat} (hn:Y.boxes[nid]?=some none) {old:Option Nat} {v0 v:Value} {w':World} {r:Row}
  (hgrow:w.grownBy w' v0.ownBlock) (hr:RowAt w0 w' r v (dec (r.x.ev m.env))) (hx:r.x.wf Y.nv m.env) (hx0:r.x0=r.x)
  (hold:match old with | none=>v0.ownBlock=none | some id=>∃ b q,Y.boxes[id]?=some (some b)/\b.row=some q/\q.own=true/\m.sv id=v0)
  (hat:∀ g,v.ownBlock=some g->v0.ownBlock=some g∨g=w.heap.size) :
  Rep w0 (m.row nid v) (({Y with boxes:=Sx.noRows Y.boxes old.toList }:St).setBox nid (rowBox r)) a w' /\
  MExt m Y.nv Y.al (m.row nid v) Y.nv (({Y with boxes:=Sx.noRows Y.boxes old.toList }:St).setBox nid (rowBox r)).al:=by
 have hal:=noRows_al old.toList Y
 have key:=(h.noRows old.toList).rowIn (nid:=nid) (noRows_none _ hn) (row:=v0.ownBlock) hgrow (r:=r) (v:=v) (fun k hk=>?_) hx (by rw [hx0];exact hx) (by rw [hx0]) hr (fun g _ hg=>?_)
 ·rw [hal] at key;exact key
 ·cases old with
  | none=>simp only at hold;rw [hold] at hk;cases hk
  | some id =>
   obtain ⟨b,q,hb,hq,hqo,hsv⟩:=hold
   obtain ⟨_,_,_,r4⟩:=h.rows id b q hb hq
   have hk':(m.sv id).ownBlock=some k:=by rw [hsv];exact hk
   refine ⟨(r4.lt hqo hk').1,fun id' b' hb' hbo e=>?_,fun id' b' r' hb' hr' ho' e=>?_⟩
   ·obtain ⟨b0,h1,_,_,h4,_⟩:=noRows_get _ hb'
    exact h.rbox id b q hb hq hqo id' b0 h1 (h4.trans hbo) (by rw [hk',e])
   ·obtain ⟨b0,h1,_,_,_,h5⟩:=noRows_get _ hb'
    rcases h5 with h5 | ⟨h5,h6⟩
    ·rw [hr'] at h5;cases h5
    ·rcases h.rsep id b q id' b0 r' hb hq h1 (h5.trans hr') hqo ho' (fun e=>h6 (by simp [e])) with h7 | h7
     ·rw [hk'] at h7;cases h7
     ·rw [hk',e] at h7;exact h7 rfl
 ·rcases hat g hg with h1 | h1
  ·exact .inl h1
  ·exact .inr (by omega)
theorem flat_append (k:LK) (l l':List Int):flat k (l++l')=flat k l++flat k l':=by simp [flat]
theorem flat_one (k:LK) (l:List Int):∀ u∈flat k l,u.oneCell'=true:=by
 intro u hu
 obtain ⟨x,_,hx⟩:=List.mem_flatMap.1 hu
 exact vals_one k x u hx
structure CatSpec (P:Program) (Y:St) (nn:Nat) (o:Oper) (g:Grow) (s x:Operand) (t:TypeId) (i:TypeInfo) (z:Value) (v:V):Prop where
 op:o.op=.call {callee:=.builtin .append,args:=#[s,x],argTypes:=#[t,t] }
 und:P.underlying t=some (.slice g.elem)
 info:P.info? g.elem=some i
 zero:i.zero=some z
 zs:z.cells.size=i.size
 size:i.size=g.k.sz
 bytes:i.bytes<=16384
 src:Y.v x=some v
 take:takeSh Y nn (.lst g.k) v=some (g.defs,[g.a])
 old:(g.old=none/\g.x0=.lit 0/\Y.cell s=some .nilslice)∨∃ id' r,g.old=some id'/\g.x0=r.x/\Y.cell s=some (.sl id')/\Y.row id'=some r/\r.own=true/\r.elem=g.elem/\r.k=g.k
theorem srcK_ok {nn:Nat} {k:LK} {s:Operand} {ds:Defs} {y:A} (h:srcK Y nn k s=some (ds,y)):∃ v,Y.v s=some v/\takeSh Y nn (.lst k) v=some (ds,[y]):=by
 unfold srcK at h
 split at h
 ·rename_i v hv
  split at h
  ·rename_i ds' y' htk
   cases h
   exact ⟨v,hv,htk⟩
  ·cases h
 ·cases h
theorem cat_spec {nn:Nat} {g:Grow} (h:catP P Y nn o.op=some g):∃ s x t i z v,CatSpec P Y nn o g s x t i z v:=by
 unfold catP at h
 split at h
 ·rename_i c hop
  split at h
  ·rename_i t t' s x hc ht hx
   split at h
   ·rename_i htt
    split at h
    ·rename_i e hu
     split at h
     ·rename_i i k hi hk
      split at h
      ·rename_i z hz
       split at h
       ·rename_i hcond
        simp only [Bool.and_eq_true,beq_iff_eq,decide_eq_true_eq] at hcond
        split at h
        ·rename_i ds y hsrc
         obtain ⟨v,hv,htk⟩:=srcK_ok hsrc
         have hop':o.op=.call {callee:=.builtin .append,args:=#[s,x],argTypes:=#[t,t] }:=by
          have htt':t=t':=by simpa using htt
          subst htt'
          rw [hop]
          obtain ⟨callee,args,tys⟩:=c
          simp only at hc ht hx
          subst hc
          have ea:args=#[s,x]:=Array.ext' (by simpa using hx)
          have et:tys=#[t,t]:=Array.ext' (by simpa using ht)
          rw [ea,et]
         split at h
         ·rename_i hs
          cases h
          exact ⟨s,x,t,i,z,v,⟨hop',hu,hi,hz,hcond.1.1,hcond.1.2,hcond.2,hv,htk,.inl ⟨rfl,rfl,hs⟩⟩⟩
         ·rename_i id' hs
          split at h
          ·rename_i r hr
           split at h
           ·rename_i hrc
            simp only [Bool.and_eq_true,beq_iff_eq] at hrc
            cases h
            exact ⟨s,x,t,i,z,v,⟨hop',hu,hi,hz,hcond.1.1,hcond.1.2,hcond.2,hv,htk,.inr ⟨id',r,rfl,rfl,hs,hr,hrc.1.1,hrc.1.2,LKeq_ok hrc.2⟩⟩⟩
           ·cases h
          ·cases h
         ·cases h
        ·cases h
       ·cases h
      ·cases h
     ·cases h
    ·cases h
   ·cases h
  ·cases h
 ·cases h
theorem ownsRow_one {w:World} {base:Nat} {e:TypeId} {size:Nat} {v:Value} {n:Nat} {xs:List Value} (h:w.ownsRow base e size v n xs):v.oneCell'=true:=by
 rcases h.2 with ⟨h,_⟩ | ⟨g,cap,cur,h,_⟩ <;> rw [h] <;> rfl
theorem cat_old (hR:Rep w0 m Y a w) {g:Grow} {s x:Operand} {t:TypeId} {i:TypeInfo} {z:Value} {v:V} (G:CatSpec P Y nn o g s x t i z v) :
  g.x0.wf Y.nv m.env/\g.k.hasL (dec (g.x0.ev m.env))/\w.ownsRow w0.heap.size g.elem g.k.sz (a.eval s) (dec (g.x0.ev m.env)).length (flat g.k (dec (g.x0.ev m.env))) /\
   (match g.old with | none=>(a.eval s).ownBlock=none | some id=>∃ b q,Y.boxes[id]?=some (some b)/\b.row=some q/\q.own=true/\m.sv id=a.eval s):=by
 rcases G.old with ⟨h1,h2,h3⟩ | ⟨id',r,h1,h2,h3,h4,h5,h6,h7⟩
 ·have hs:a.eval s=.slice none 0 0:=hR.cell h3
  rw [h1,h2,hs]
  simp only [A.ev,dec_zero]
  exact ⟨⟨trivial,trivial⟩,⟨by simp,by simp⟩,World.ownsRow_nil ..,rfl⟩
 ·have hs:Y.al id'=true/\a.eval s=m.sv id'/\(a.eval s).oneCell'=true:=hR.cell h3
  obtain ⟨q1,q2,_,_,q3⟩:=hR.row_ok h4
  obtain ⟨bx,hbx,hbr⟩:=row_box h4
  have q4:=q3.2.1
  rw [h5] at q4
  simp only [if_true] at q4
  rw [h1,h2,<- h6,<- h7,hs.2.1]
  exact ⟨q2,q3.1,q4,bx,r,hbx,hbr,h5,rfl⟩
theorem cat_gen (hR:Rep w0 m Y a w) {g:Grow} (hg:catP P Y nn o.op=some g) (hnn:Y.nv<=nn):GenOk T m.env nn (catD nn g):=by
 obtain ⟨s,x,ty,i,z,v,G⟩:=cat_spec hg
 obtain ⟨k1,k2,k3⟩:=takeSh_ok (T:=T) G.take hR (hR.v_ G.src)
 obtain ⟨k1,k4⟩:=k1 hnn
 obtain ⟨x1,x2,x3,x4⟩:=cat_old hR G
 generalize hl:dec (g.x0.ev m.env)=l at x2 x3
 have ha:g.a.ok (nn+g.defs.length):=k4 _ (List.mem_singleton_self _)
 refine gen_append _ _ _ _ k1 fun e' he ht=>⟨A.ok_mono x1.1 (by omega),?_,⟨Nat.lt_succ_self _,trivial⟩,b2i_bit _,A.ok_mono ha (by omega),?_,⟨Nat.lt_succ_self _,trivial⟩,b2i_bit _,trivial⟩
 ·simp only [KK.has,D.ev]
  rw [A.ev_congr x1.1 (fun j hj=>he j (by omega)),hl]
  have:=x2.1
  simp only [has,lo,hi];omega
 ·have hyl:=(k3 e' (fun j hj=>he j (by omega)) ht).1
  simp only [List.map_cons,List.map_nil,Sh.leaves,lhas] at hyl
  simp only [KK.has,D.ev]
  rw [A.ev_congr ha (fun j hj=>by simp only [upd];rw [if_neg (by omega),if_neg (by omega)])]
  have:=hyl.1.1
  simp only [has,lo,hi];omega
structure CatFacts (P:Program) (T:List K) (w0:World) (Y:St) (a:Act) (w:World) (g:Grow) (s x:Operand) (e1:Nat->Int) (l y:List Int):Prop where
 ex:dec (g.x0.ev e1)=l
 ey:dec (g.a.ev e1)=y
 lx:(l.length:Int)<2147483648
 ly:(y.length:Int)<2147483648
 hx:g.k.hasL l
 hy:g.k.hasL y
 own:w.ownsRow w0.heap.size g.elem g.k.sz (a.eval s) l.length (flat g.k l)
 rel:RoRow w w g.k (a.eval x) y
theorem cat_facts (hR:Rep w0 m Y a w) {g:Grow} {s x:Operand} {t:TypeId} {i:TypeInfo} {z:Value} {v:V} (G:CatSpec P Y nn o g s x t i z v) {e1:Nat->Int}
  (he:∀ j,j<Y.nv->e1 j=m.env j) (ht:Told T e1 nn (catD nn g)) (hz1:e1 (nn+(g.defs.length+1))≠0) (hz2:e1 (nn+(g.defs.length+3))≠0):∃ l y,CatFacts P T w0 Y a w g s x e1 l y:=by
 obtain ⟨k1,k2,k3⟩:=takeSh_ok (T:=T) G.take hR (hR.v_ G.src)
 obtain ⟨x1,x2,x3,x4⟩:=cat_old hR G
 obtain ⟨c1,c2⟩:=(Told.append).1 ht
 have hx0e:g.x0.ev e1=g.x0.ev m.env:=A.ev_congr x1.1 he
 obtain ⟨y1,y2⟩:=k3 e1 he c1
 simp only [List.map_cons,List.map_nil,Sh.leaves,lhas,Sh.rel,List.headD_cons] at y1 y2
 generalize hl:dec (g.x0.ev m.env)=l at x2 x3
 generalize hye:dec (g.a.ev e1)=y at y1 y2
 have d0:e1 (nn+g.defs.length)=(l.length:Int):=by
  have:=(c2 0 _ _ rfl).1
  simpa [D.ev,hx0e,hl] using this
 have d1:e1 (nn+g.defs.length+1)=b2i (decide (e1 (nn+g.defs.length)<2147483648)):=(c2 1 _ _ rfl).1
 have d2:e1 (nn+g.defs.length+2)=(y.length:Int):=by
  have:=(c2 2 _ _ rfl).1
  simpa [D.ev,hye] using this
 have d3:e1 (nn+g.defs.length+3)=b2i (decide (e1 (nn+(g.defs.length+2))<2147483648)):=(c2 3 _ _ rfl).1
 refine ⟨l,y,⟨by rw [hx0e];exact hl,hye,?_,?_,x2,y1.1,x3,y2⟩⟩
 ·have h0:e1 (nn+g.defs.length+1)≠0:=hz1
  have:=bit_yes (b:=e1 (nn+g.defs.length)<2147483648) (by rw [<- d1];exact h0)
  rw [d0] at this;exact this
 ·have h0:e1 (nn+g.defs.length+3)≠0:=hz2
  have:=bit_yes (b:=e1 (nn+(g.defs.length+2))<2147483648) (by rw [<- d3];exact h0)
  rw [show nn+(g.defs.length+2)=nn+g.defs.length+2 by omega,d2] at this;exact this
theorem CatFacts.has {g:Grow} {s x:Operand} {e1:Nat->Int} {l y:List Int} (F:CatFacts P T w0 Y a w g s x e1 l y):g.k.hasL (l++y):=by
 have h1:=F.lx
 have h2:=F.ly
 exact ⟨by simp;omega,fun q hq=>by
  rcases List.mem_append.1 hq with hq | hq
  ·exact F.hx.2 q hq
  ·exact F.hy.2 q hq⟩
theorem cat_post (hR:Rep w0 m Y a w) {g:Grow} (hg:catP P Y nn o.op=some g) (hnn:Y.nv<=nn) {e1:Nat->Int}
  (he:∀ j,j<nn->e1 j=m.env j) (ht:Told T e1 nn (catD nn g)) (hz1:e1 (nn+(g.defs.length+1))≠0) (hz2:e1 (nn+(g.defs.length+3))≠0):GenOk T e1 (nn+(catD nn g).length) [(.lst g.k,.lcat g.x0 g.a)]:=by
 obtain ⟨s,x,ty,i,z,v,G⟩:=cat_spec hg
 obtain ⟨l,y,F⟩:=cat_facts (T:=T) hR G (fun j hj=>he j (by omega)) ht hz1 hz2
 obtain ⟨k1,k2,k3⟩:=takeSh_ok (T:=T) G.take hR (hR.v_ G.src)
 have ha:g.a.ok (nn+g.defs.length):=(k1 hnn).2 _ (List.mem_singleton_self _)
 refine ⟨⟨A.ok_mono (cat_old hR G).1.1 (by omega),A.ok_mono ha (by simp [catD])⟩,?_,trivial⟩
 simp only [KK.has,D.ev,F.ex,F.ey,dec_enc]
 exact F.has
theorem cat_exec (hR:Rep w0 m Y a w) (hn:Y.boxes[nid]?=some none) {g:Grow} (hg:catP P Y nn o.op=some g)
  (ht:Told T m.env nn (catD nn g)) (hz1:m.env (nn+(g.defs.length+1))≠0) (hz2:m.env (nn+(g.defs.length+3))≠0) (ht2:Told T m.env (nn+(catD nn g).length) [(.lst g.k,.lcat g.x0 g.a)]) (hle:nn+(g.defs.length+5)<=Y.nv)
  {K:Act->World->Prop} {Q:Exit->Act->World->Prop}
  (hK:∀ m' a' w',m'.env=m.env->MExt m Y.nv Y.al m' Y.nv (({Y with boxes:=(Sx.noRows Y.boxes g.old.toList).set nid (some (rowBox {x:=.var (nn+(g.defs.length+4)),x0:=.var (nn+(g.defs.length+4)),k:=g.k,elem:=g.elem,own:=true,full:=false })) }:St).put o.dst (.vl (.one (.sl nid)))).al ->
   Rep w0 m' (({Y with boxes:=(Sx.noRows Y.boxes g.old.toList).set nid (some (rowBox {x:=.var (nn+(g.defs.length+4)),x0:=.var (nn+(g.defs.length+4)),k:=g.k,elem:=g.elem,own:=true,full:=false })) }:St).put o.dst (.vl (.one (.sl nid)))) a' w'->K a' w'):o.wp P a w K Q:=by
 obtain ⟨s,x,ty,i,z,v,G⟩:=cat_spec hg
 obtain ⟨l,y,F⟩:=cat_facts (T:=T) hR G (fun j hj=>rfl) ht hz1 hz2
 obtain ⟨x1,x2,x3,x4⟩:=cat_old hR G
 have hlx:=F.lx
 have hly:=F.ly
 have hbytes:(l.length+y.length)*i.bytes<=140737488355328:=by
  have:=G.bytes
  have h1:(l.length+y.length)*i.bytes<=4294967296*16384:=Nat.mul_le_mul (by omega) this
  omega
 have run:∃ v' w',(Builtin.append_ #[ty,ty] o.type #[a.eval s,a.eval x]).run P w=.ok v' w'/\w'.ownsRow w0.heap.size g.elem g.k.sz v' (l.length+y.length) (flat g.k l++flat g.k y)/\w.grownBy w' (a.eval s).ownBlock /\
   (∀ q,v'.ownBlock=some q->(a.eval s).ownBlock=some q∨q=w.heap.size):=by
  rcases F.rel with ⟨hs,hy0⟩ | ⟨ad,scap,hs,hb,hsc,hcell⟩
  ·have h0:=run_append_owned_none (P:=P) (w:=w) w0.heap.size ty o.type g.elem i g.k.sz G.und G.info (a.eval s) l.length (flat g.k l) F.own
   refine ⟨a.eval s,w,by rw [hs];exact h0,?_,⟨rfl,rfl,rfl,Nat.le_refl _,fun _ _ _=>rfl⟩,fun q hq=>.inl hq⟩
   rw [hy0]
   simpa [flat] using F.own
  ·obtain ⟨v',w',h1,h2,h3,_,h5⟩:=run_append_own_at (P:=P) w w0.heap.size ty o.type g.elem i z g.k.sz i.bytes G.und G.info G.zero G.size rfl (G.zs.trans G.size) (sz_pos _) (a.eval s) l.length (flat g.k l) F.own ad y.length scap (flat g.k y) (flat_len _ _) hcell (flat_one _ _)
    (by simp only [maxLen];omega) hbytes hR.below.size
   refine ⟨v',w',by rw [hs];exact h1,h2,h3,fun q hq=>?_⟩
   rcases h5 with h5 | h5
   ·exact .inl (by rw [<- h5];exact hq)
   ·rw [h5] at hq;cases hq;exact .inr rfl
 obtain ⟨v',w',hrun,hown',hgrow,hat⟩:=run
 have hlen:(catD nn g).length=g.defs.length+4:=by simp [catD]
 have hv0:m.env (nn+(g.defs.length+4))=enc (l++y):=by
  have:=(ht2 0 _ _ rfl).1
  rw [hlen] at this
  simpa [D.ev,F.ex,F.ey] using this
 have hev:dec (A.ev m.env (.var (nn+(g.defs.length+4))))=l++y:=by simp only [A.ev,hv0,dec_enc]
 obtain ⟨r1,r2⟩:=grow_rep hR hn (old:=g.old) (v0:=a.eval s) (v:=v') (w':=w') (r:={x:=.var (nn+(g.defs.length+4)),x0:=.var (nn+(g.defs.length+4)),k:=g.k,elem:=g.elem,own:=true,full:=false }) hgrow
  (by rw [hev];exact ⟨F.has,by simp only [if_true];rw [flat_append,List.length_append];exact hown',fun h=>by cases h⟩) ⟨by show nn+(g.defs.length+4)<Y.nv;omega,trivial⟩ rfl x4 hat
 have hnl:nid<(Sx.noRows Y.boxes g.old.toList).length:=by rw [noRows_len];exact (List.getElem?_eq_some_iff.1 hn).1
 have fin:=r1.put (s:=.vl (.one (.sl nid))) (v:=v') ⟨by
  rw [al_setBox];simp [hnl],by simp [M.row],ownsRow_one hown'⟩ o.dst
 have hal:∀ (τ:St) (d:Option Nat) (q:SV),(τ.put d q).al=τ.al/\(τ.put d q).nv=τ.nv:=fun τ d q=>by cases d <;> exact ⟨rfl,rfl⟩
 have hex:(execOp a.eval o).run P w=.ok (.value v') w':=by
  simp only [execOp,G.op,resolve]
  simp only [invoke,builtin,Sem.run_bind,Sem.run_pure,Result.andThen_ok,List.map_toArray,List.map_cons,List.map_nil,hrun]
 unfold Oper.wp
 rw [hex]
 refine hK (m.row nid v') _ _ rfl ?_ fin
 rw [(hal _ _ _).1]
 exact r2
theorem empty_spec {t:TypeId} {len:Nat} {ps:Array (Nat×Operand)} {p:Plan} (h:emptyP P nid t len ps=some p):len=0/\ps.toList=[]/\∃ e i k,P.underlying t=some (.slice e)/\P.info? e=some i/\i.size=k.sz /\
  p={val:=.vl (.one (.sl nid)),eff:=.new (rowBox {x:=.lit 0,x0:=.lit 0,k:=k,elem:=e,own:=true,full:=true }) }:=by
 unfold emptyP at h
 split at h
 ·rename_i hc
  simp only [Bool.and_eq_true,beq_iff_eq,List.isEmpty_iff] at hc
  split at h
  ·rename_i e hu
   split at h
   ·rename_i i k hi hk
    split at h
    ·rename_i hs
     simp only [beq_iff_eq] at hs
     cases h
     exact ⟨hc.1,hc.2,e,i,k,hu,hi,hs,rfl⟩
    ·cases h
   ·cases h
  ·cases h
 ·cases h
theorem empty_exec (hR:Rep w0 m Y a w) {t:TypeId} {len:Nat} {ps:Array (Nat×Operand)} {p:Plan} (ho:o.op=.buildSlice t len ps) (hp:emptyP P nid t len ps=some p) (hn:Y.boxes[nid]?=some none)
  {K:Act->World->Prop} {Q:Exit->Act->World->Prop}
  (hK:∀ m' a' w',m'.env=m.env->MExt m Y.nv Y.al m' Y.nv (applyP Y p nid o.dst).al->Rep w0 m' (applyP Y p nid o.dst) a' w'->K a' w'):o.wp P a w K Q:=by
 obtain ⟨h1,h2,e,i,k,hu,hi,hs,rfl⟩:=empty_spec hp
 subst h1
 have hps:ps=#[]:=Array.ext' h2
 subst hps
 have hown:(w.alloc (.cells #[] e)).ownsRow w0.heap.size e k.sz (.slice (some ⟨w.heap.size,0,none⟩) 0 0) 0 []:=World.ownsRow_made w #[] 0 hR.below.size (Nat.zero_le _) (by simp)
 have hgrow:w.grownBy (w.alloc (.cells #[] e)) none:=World.grownBy_alloc _ _ _
 obtain ⟨r1,r2⟩:=grow_rep hR hn (old:=none) (v0:=.slice none 0 0) (v:=.slice (some ⟨w.heap.size,0,none⟩) 0 0) (w':=w.alloc (.cells #[] e)) (r:={x:=.lit 0,x0:=.lit 0,k:=k,elem:=e,own:=true,full:=true }) hgrow
  (by simp only [A.ev,dec_zero];exact ⟨⟨by simp,by simp⟩,by simp only [if_true];exact hown,fun _=>rfl⟩) ⟨trivial,trivial⟩ rfl rfl (fun q hq=>.inr (by simpa [Value.ownBlock] using hq.symm))
 ·have hnl:nid<Y.boxes.length:=(List.getElem?_eq_some_iff.1 hn).1
  have fin:=r1.put (s:=.vl (.one (.sl nid))) (v:=.slice (some ⟨w.heap.size,0,none⟩) 0 0) ⟨by
   rw [al_setBox];simp [noRows,hnl],by simp [M.row],rfl⟩ o.dst
  have eq:applyP Y {val:=.vl (.one (.sl nid)),eff:=.new (rowBox {x:=.lit 0,x0:=.lit 0,k:=k,elem:=e,own:=true,full:=true }) } nid o.dst=(Y.setBox nid (rowBox {x:=.lit 0,x0:=.lit 0,k:=k,elem:=e,own:=true,full:=true })).put o.dst (.vl (.one (.sl nid))):=by rw [applyP_def];rfl
  have hal:∀ (τ:St) (d:Option Nat) (q:SV),(τ.put d q).al=τ.al:=fun τ d q=>by cases d <;> rfl
  have hex:(execOp a.eval o).run P w=.ok (.value (.slice (some ⟨w.heap.size,0,none⟩) 0 0)) (w.alloc (.cells #[] e)):=by
   have hsz:szOf P e=some i.size:=by simp [szOf,hi]
   have he:Array.map (fun (_:Nat)=>(default:Value)) (Array.range 0)=#[]:=Array.ext' (by simp)
   simp only [execOp,ho,Instr.buildSlice]
   simp only [Sem.run_bind,run_underlying hu,Result.andThen_ok,run_sizeOf hsz]
   simp [he,newRow,Instr.fill]
  unfold Oper.wp
  rw [hex]
  refine hK (m.row nid _) _ _ rfl ?_ (by rw [eq];exact fin)
  rw [eq,hal]
  exact r2
end
section
variable {P:Program} {T:List K} {w0:World} {m:M} {Y:St} {a:Act} {w:World} {o:Oper} {nn nid:Nat} {p:Plan} {K:Act->World->Prop} {Q:Exit->Act->World->Prop}
theorem caps_rel {m:M} {nv:Nat} {al:Nat->Bool}:∀ {caps:List (Nat×Nat)},(∀ p∈caps,al p.1=true)->VRels m nv al (caps.map fun p=>V.one (.ptr p.1 p.2)) (caps.map fun p=>Value.pointer (some (m.at p.1 p.2)))
 | [],_=>trivial
 | q::caps,hc=>⟨⟨hc q (List.mem_cons_self ..),rfl⟩,caps_rel fun z hz=>hc z (List.mem_cons_of_mem _ hz)⟩
theorem findK_ok {f:FuncId}:∀ (T T':List Sx.K) (n g:Nat) (X:Sx.K),(∀ i,T'[n+i]?=T[i]?)->findK T f n=some (g,X)->T'[g]?=some X/\X.fn=f:=by
 intro T
 induction T with
 | nil=>intro T' n g X _ h;simp [findK] at h
 | cons k T ih =>
  intro T' n g X hi h
  unfold findK at h
  simp only at h
  split at h
  ·rename_i hk
   simp at h hk
   obtain ⟨rfl,rfl⟩:=h
   exact ⟨by simpa using hi 0,hk⟩
  ·exact ih T' (n+1) g X (fun i=>by have:=hi (i+1);rwa [show n+(i+1)=n+1+i by omega] at this) h
theorem pickK_ok {f:FuncId} {vs:List V}:∀ (T T':List Sx.K) (n g:Nat) (X:Sx.K),(∀ i,T'[n+i]?=T[i]?)->pickK T f vs n=some (g,X)->T'[g]?=some X/\X.fn=f:=by
 intro T
 induction T with
 | nil=>intro T' n g X _ h;simp [pickK] at h
 | cons k r ih =>
  intro T' n g X hi h
  unfold pickK at h
  simp only at h
  split at h
  ·rename_i hf
   cases h
   exact ⟨by simpa using hi 0,by simp only [Bool.and_eq_true,beq_iff_eq] at hf;exact hf.1⟩
  ·exact ih T' (n+1) g X (fun i=>by rw [Nat.add_assoc,Nat.add_comm 1 i];simpa using hi (i+1)) h
theorem findC_ok {f:FuncId} {vs:List V} {T:List Sx.K} {g:Nat} {X:Sx.K} (h:findC T f vs=some (g,X)):T[g]?=some X/\X.fn=f:=by
 unfold findC at h
 split at h
 ·rename_i r hr
  cases h
  exact pickK_ok T T 0 g X (fun i=>by rw [Nat.zero_add]) hr
 ·exact findK_ok T T 0 g X (fun i=>by rw [Nat.zero_add]) h
theorem ret_rel {nv:Nat} {al:Nat->Bool} {vs:List V} {us:List Value} (h:VRels m nv al vs us):(retS vs).rel m nv al (retV us):=by
 have hl:=h.length
 match vs,us,h with
 | [],[],_=>exact ⟨[],rfl,trivial⟩
 | [v],[u],h=>exact h.1
 | v::v'::vs,u::u'::us,h=>exact ⟨_,rfl,h⟩
 | [v],u::u'::us,h=>simp at hl
 | v::v'::vs,[u],h=>simp at hl
theorem run_callValue {c:Call} {x:Operand} {f:FuncId} {caps:Array Value} (ho:o.op=.call c) (hc:c.callee=.value x) (hx:a.eval x=.func (.func f) #[] caps) :
  (execOp a.eval o).run P w=(callFunc f (c.args.map a.eval++caps)).run P w:=by
 simp only [execOp,ho,resolve,hc,hx,Deferred.ofValue]
 simp [invoke]
theorem exec_pure (h:Rep w0 m Y a w) (hp:PureOk P m Y a w o p.val) (he:p.eff=.none)
  (hK:∀ m' a' w',m'.env=m.env->MExt m Y.nv Y.al m' Y.nv (applyP Y p nid o.dst).al->Rep w0 m' (applyP Y p nid o.dst) a' w'->K a' w'):o.wp P a w K Q:=by
 obtain ⟨v,h1,h2⟩:=hp
 unfold Oper.wp
 rw [h1]
 have e:applyP Y p nid o.dst=Y.put o.dst p.val:=by simp [applyP_def,he]
 have hal:(Y.put o.dst p.val).al=Y.al:=by cases o.dst <;> rfl
 refine hK m _ _ rfl ?_ ?_
 ·rw [e,hal];exact MExt.refl _ _ _
 ·rw [e];exact h.put h2 _
theorem exec_new (h:Rep w0 m Y a w) (hn:Y.boxes[nid]?=some none) {e:TypeId} {cs:List C} {f:Addr->Value} {s:SV} (hpe:p={val:=s,eff:=.new {cells:=cs,elem:=e,own:=true } }) (hp:NewOk P m Y a w o e cs f)
  (hs:∀ m' nv al,al nid=true->m'.rho nid=(w.heap.size,0)->s.rel m' nv al (f ⟨w.heap.size,0,none⟩))
  (hK:∀ m' a' w',m'.env=m.env->MExt m Y.nv Y.al m' Y.nv (applyP Y p nid o.dst).al->Rep w0 m' (applyP Y p nid o.dst) a' w'->K a' w'):o.wp P a w K Q:=by
 obtain ⟨vs,h1,h2⟩:=hp
 unfold Oper.wp
 rw [h1]
 subst hpe
 have hb:Below w.heap.size w (w.alloc (.cells vs.toArray e)):=(Below.refl _ _).alloc (Nat.le_refl _) _
 obtain ⟨g1,g2⟩:=h.new hn hb (Nat.le_refl _) (e:=e) (vs:=vs) (z:=(0,0)) (by show (w.heap.push _)[w.heap.size]?=_;simp) h2
 have eq:applyP Y {val:=s,eff:=.new {cells:=cs,elem:=e,own:=true } } nid o.dst=(Y.setBox nid {cells:=cs,elem:=e,own:=true }).put o.dst s:=by rw [applyP_def];rfl
 have hnl:nid<Y.boxes.length:=(List.getElem?_eq_some_iff.1 hn).1
 have hal:((Y.setBox nid {cells:=cs,elem:=e,own:=true }).put o.dst s).al=(Y.setBox nid {cells:=cs,elem:=e,own:=true }).al:=by cases o.dst <;> rfl
 refine hK (m.bind nid w.heap.size) _ _ rfl ?_ ?_
 ·rw [eq,hal];exact g2
 ·rw [eq]
  exact g1.put (hs _ _ _ (by rw [al_setBox];simp [hnl]) (by simp [M.bind])) _
theorem op_exec (hT:∀ (g:Nat) X,T[g]?=some X->X.okAt P w0) (h:Rep w0 m Y a w) (hp:plan P T Y nn nid o.op=.ok p) (hn:isNew p.eff=true->Y.boxes[nid]?=some none)
  (ht:Told T m.env nn p.defs) (ht2:Told T m.env (nn+p.defs.length) p.post) (hle:nn+p.defs.length+p.post.length<=Y.nv) (hz:∀ x∈p.nz,x.ev m.env≠0)
  (hr:∀ q∈p.reqs,match T[q.1]? with | some X=>X.pre (q.2.map (·.ev m.env)) | none=>False)
  (hK:∀ m' a' w',m'.env=m.env->MExt m Y.nv Y.al m' Y.nv (applyP Y p nid o.dst).al->Rep w0 m' (applyP Y p nid o.dst) a' w'->K a' w'):o.wp P a w K Q:=by
 have hd:DefsOk T m.env Y.nv nn p.defs:=⟨by omega,ht⟩
 cases ho:o.op with
 | move x=>exact exec_pure h (pure_move h (.inl ho) hp) (by rw [ho] at hp;simp only [plan] at hp;split at hp <;> cases hp;rfl) hK
 | assign x=>exact exec_pure h (pure_move h (.inr ho) hp) (by rw [ho] at hp;simp only [plan] at hp;split at hp <;> cases hp;rfl) hK
 | pick c x y =>
  refine exec_pure h (pure_pick h ho hp) ?_ hK
  rw [ho] at hp;simp only [plan] at hp
  repeat' split at hp
  all_goals (first | (cases hp;done) | (cases hp;rfl))
 | alloc e =>
  obtain ⟨cs,h1,h2⟩:=new_alloc (m:=m) (Y:=Y) (a:=a) (w:=w) ho hp
  exact exec_new h (hn (by rw [h1];rfl)) h1 h2 (fun m' nv al h3 h4=>⟨h3,by simp [M.at,h4]⟩) hK
 | box e x =>
  obtain ⟨cs,h1,h2⟩:=new_box h ho hp
  exact exec_new h (hn (by rw [h1];rfl)) h1 h2 (fun m' nv al h3 h4=>⟨h3,by simp [M.at,h4]⟩) hK
 | buildSlice t len ps =>
  cases he:emptyP P nid t len ps with
  | some q =>
   rw [ho] at hp
   simp only [plan,he] at hp
   cases hp
   obtain ⟨_,_,_,_,_,_,_,_,hq⟩:=empty_spec he
   exact empty_exec h ho he (hn (by rw [hq];rfl)) hK
  | none =>
  obtain ⟨cs,e,h1,h2⟩:=new_buildSlice h ho he hp
  exact exec_new h (hn (by rw [h1];rfl)) h1 h2 (fun m' nv al h3 h4=>⟨h3,by simp [M.at,h4]⟩) hK
 | build t ps =>
  refine exec_pure h (pure_build h ho hp) ?_ hK
  rw [ho] at hp;simp only [plan] at hp
  repeat' split at hp
  all_goals (first | (cases hp;done) | (cases hp;rfl))
 | load t x =>
  refine exec_pure h (pure_load h ho hp hd) ?_ hK
  rw [ho] at hp;simp only [plan,loadRow] at hp
  repeat' split at hp
  all_goals (first | (cases hp;done) | (cases hp;rfl))
 | nilCheck x =>
  refine exec_pure h (pure_nilCheck h ho hp) ?_ hK
  rw [ho] at hp;simp only [plan] at hp
  repeat' split at hp
  all_goals (first | (cases hp;done) | (cases hp;rfl))
 | binOp op t x y yt =>
  refine exec_pure h (pure_binOp h ho hp hd hz) ?_ hK
  rw [ho] at hp;simp only [plan] at hp
  split at hp
  ·split at hp
   ·rename_i q hq
    cases hp
    obtain ⟨_,_,_,_,_,_,_,_,_,rfl⟩:=rowNil_spec hq
    rfl
   ·simp only [planBin,binInt,mkP,okP] at hp
    repeat' split at hp
    all_goals (first | (cases hp;done) | (cases hp;rfl))
  ·cases hp
 | unOp op t x =>
  refine exec_pure h (pure_unOp h ho hp hd) ?_ hK
  rw [ho] at hp;simp only [plan,mkP] at hp
  repeat' split at hp
  all_goals (first | (cases hp;done) | (cases hp;rfl))
 | convert s d x =>
  cases hm:markP P Y s d x with
  | some q =>
   rw [ho] at hp
   simp only [plan,hm] at hp
   cases hp
   obtain ⟨id,b,w',c,v,e1,e2,e3,e4,e5,e6⟩:=mark_ok h ho hm
   have eq:applyP Y p nid o.dst=(Y.setBox id (b.upd .mark)).put o.dst (.vl (.one c)):=by rw [applyP_def,e2,e1];simp only [e3];rfl
   have hals:(Y.setBox id (b.upd .mark)).al=Y.al:=by
    funext i
    rw [al_setBox]
    split
    ·rename_i hi;rw [hi.1];exact (al_iff.2 ⟨b,e3⟩).symm
    ·rfl
   have hal:((Y.setBox id (b.upd .mark)).put o.dst (.vl (.one c))).al=Y.al:=by
    rw [<- hals];cases o.dst <;> rfl
   unfold Oper.wp
   rw [e4]
   refine hK m _ _ rfl ?_ ?_
   ·rw [eq,hal];exact MExt.refl _ _ _
   ·rw [eq]
    exact e6.put (show SV.rel m Y.nv (Y.setBox id (b.upd .mark)).al (.vl (.one c)) v by rw [hals];exact e5) _
  | none =>
  refine exec_pure h (pure_convert h ho hm hp hd) ?_ hK
  rw [ho] at hp;simp only [plan,hm,mkP,okP] at hp
  repeat' split at hp
  all_goals (first | (cases hp;done) | (cases hp;rfl))
 | sliceToArrayPointer t x =>
  refine exec_pure h (pure_sl2arr h ho hp) ?_ hK
  rw [ho] at hp;simp only [plan,okP] at hp
  repeat' split at hp
  all_goals (first | (cases hp;done) | (cases hp;rfl))
 | makeFunc fn first caps =>
  refine exec_pure h (pure_makeFunc h ho hp) ?_ hK
  rw [ho] at hp;simp only [plan,okP] at hp
  repeat' split at hp
  all_goals (first | (cases hp;done) | (cases hp;rfl))
 | slice t x lo hi mx =>
  refine exec_pure h (pure_slice h ho hp hd hz) ?_ hK
  rw [ho] at hp;simp only [plan,okP,partP,partV] at hp
  repeat' split at hp
  all_goals (first | (cases hp;done) | (cases hp;rfl))
 | fieldAddr s x f =>
  refine exec_pure h (pure_fieldAddr h ho hp) ?_ hK
  rw [ho] at hp;simp only [plan,okP] at hp
  repeat' split at hp
  all_goals (first | (cases hp;done) | (cases hp;rfl))
 | field t x f =>
  refine exec_pure h (pure_field h ho hp) ?_ hK
  rw [ho] at hp;simp only [plan,partC,okP] at hp
  repeat' split at hp
  all_goals (first | (cases hp;done) | (cases hp;rfl))
 | indexAddr t x i =>
  refine exec_pure h (pure_indexAddr h ho hp hd hz) ?_ hK
  rw [ho] at hp;simp only [plan,okP] at hp
  repeat' split at hp
  all_goals (first | (cases hp;done) | (cases hp;rfl))
 | index t x i =>
  refine exec_pure h (pure_index h ho hp hd hz) ?_ hK
  rw [ho] at hp;simp only [plan,partC,okP] at hp
  repeat' split at hp
  all_goals (first | (cases hp;done) | (cases hp;rfl))
 | extract x i =>
  refine exec_pure h (pure_extract h ho hp) ?_ hK
  rw [ho] at hp;simp only [plan] at hp
  repeat' split at hp
  all_goals (first | (cases hp;done) | (cases hp;rfl))
 | store t x y =>
  obtain ⟨id,u,b,w',h0,h1,h2,h3,h4⟩:=run_store_ok h ho hp hd
  unfold Oper.wp
  rw [h3]
  have eq:applyP Y p nid o.dst=(Y.setBox id (b.upd u)).put o.dst (.tup []):=by
   simp only [applyP_def,h0,h1,h2];rfl
  have hal0:(Y.setBox id (b.upd u)).al=Y.al:=by
   funext i
   rw [al_setBox]
   split
   ·rename_i hi;rw [hi.1];exact (al_iff.2 ⟨b,h2⟩).symm
   ·rfl
  have hal:((Y.setBox id (b.upd u)).put o.dst (.tup [])).al=Y.al:=by
   rw [<- hal0];cases o.dst <;> rfl
  refine hK m _ _ rfl ?_ ?_
  ·rw [eq,hal];exact MExt.refl _ _ _
  ·rw [eq];exact h4.put (s:=.tup []) (v:=undef) ⟨[],rfl,trivial⟩ _
 | call c =>
  rw [ho] at hp
  simp only [plan] at hp
  split at hp
  ·cases hp
  ·rename_i args hargs
   have hvr:=args_ok h _ _ hargs
   split at hp
   ·
    rename_i hcal
    have key:∀ n:Nat,(Builtin.len_ c.argTypes o.type (c.args.map a.eval)).run P w=.ok (goInt n) w->p={val:=.vl (.one (.int .i64 (.lit n))) }->(n:Int)<=9223372036854775807->o.wp P a w K Q:=by
     intro n hlen hpn hb
     refine exec_pure h ⟨.int .i64 n,?_,?_⟩ (by rw [hpn]) hK
     ·simp only [execOp,ho,resolve,hcal]
      simp [invoke,builtin,hlen,goInt]
     ·rw [hpn];exact ⟨⟨trivial,trivial⟩,by simp only [A.ev,has,lo,hi];omega,rfl⟩
    split at hp
    ·cases hp
    ·rename_i t hct
     split at hp
     ·rename_i e id off n cap hu
      split at hp
      ·rename_i hb
       cases hp
       match hcl:c.args.toList.map a.eval,hvr with
       | [v],hvr =>
        have hca:c.args.map a.eval=#[v]:=Array.ext' (by simpa using hcl)
        refine key n ?_ rfl (by omega)
        have hv:=hvr.1.2
        rw [hca,hv]
        simp [Builtin.len_,hct,run_underlying hu]
      ·cases hp
     ·rename_i e hu
      cases hp
      match hcl:c.args.toList.map a.eval,hvr with
      | [v],hvr =>
       have hca:c.args.map a.eval=#[v]:=Array.ext' (by simpa using hcl)
       refine key 0 ?_ rfl (by omega)
       have hv:v=.slice none 0 0:=hvr.1
       rw [hca,hv]
       simp [Builtin.len_,hct,run_underlying hu]
     ·rename_i e z hu
      cases hp
      match hcl:c.args.toList.map a.eval,hvr with
      | [v],hvr =>
       have hca:c.args.map a.eval=#[v]:=Array.ext' (by simpa using hcl)
       obtain ⟨_,⟨hL,hcase⟩,_⟩:=(show C.rel m Y.nv Y.al (.ll z) v from hvr.1)
       have q4:=hL.1
       obtain ⟨bb,cap,hform⟩:∃ bb cap,v=.slice bb (dec (A.ev m.env z)).length cap:=by
        rcases hcase with ⟨k1,k2⟩ | ⟨ad,cap,k1,_⟩
        ·exact ⟨none,0,by rw [k1,k2];rfl⟩
        ·exact ⟨_,cap,k1⟩
       have d0:m.env nn=((dec (A.ev m.env z)).length:Int):=by
        have:=DefsOk.snd (i:=0) hd rfl
        simpa [D.ev] using this
       have hpo:PureOk P m Y a w o (.vl (.one (.int .i64 (.var nn)))):=by
        refine ⟨.int .i64 (dec (A.ev m.env z)).length,?_,⟨?_,trivial⟩,?_,?_⟩
        ·simp only [execOp,ho,resolve,hcal]
         simp [invoke,builtin,Builtin.len_,hct,run_underlying hu,hca,hform,goInt]
        ·have:=hd.1;simp only [A.ok,List.length_cons,List.length_nil] at *;omega
        ·show has .i64 (m.env nn)
         rw [d0];simp only [has,lo,hi];omega
        ·show _=Value.int .i64 (m.env nn)
         rw [d0]
       exact exec_pure h hpo rfl hK
     ·rename_i e z hu
      cases hp
      match hcl:c.args.toList.map a.eval,hvr with
      | [v],hvr =>
       have hca:c.args.map a.eval=#[v]:=Array.ext' (by simpa using hcl)
       obtain ⟨_,hL,hcase,_⟩:=(show C.rel m Y.nv Y.al (.rol z) v from hvr.1)
       have q4:=hL.1
       obtain ⟨bb,cap,hform⟩:∃ bb cap,v=.slice bb (dec (A.ev m.env z)).length cap:=by
        rcases hcase with ⟨k1,k2⟩ | ⟨ad,cap,k1,_⟩
        ·exact ⟨none,0,by rw [k1,k2];rfl⟩
        ·exact ⟨_,cap,k1⟩
       have d0:m.env nn=((dec (A.ev m.env z)).length:Int):=by
        have:=DefsOk.snd (i:=0) hd rfl
        simpa [D.ev] using this
       have hpo:PureOk P m Y a w o (.vl (.one (.int .i64 (.var nn)))):=by
        refine ⟨.int .i64 (dec (A.ev m.env z)).length,?_,⟨?_,trivial⟩,?_,?_⟩
        ·simp only [execOp,ho,resolve,hcal]
         simp [invoke,builtin,Builtin.len_,hct,run_underlying hu,hca,hform,goInt]
        ·have:=hd.1;simp only [A.ok,List.length_cons,List.length_nil] at *;omega
        ·show has .i64 (m.env nn)
         rw [d0];simp only [has,lo,hi];omega
        ·show _=Value.int .i64 (m.env nn)
         rw [d0]
       exact exec_pure h hpo rfl hK
     ·rename_i e id hu
      split at hp
      ·rename_i r hrow
       cases hp
       match hcl:c.args.toList.map a.eval,hvr with
       | [v],hvr =>
        have hca:c.args.map a.eval=#[v]:=Array.ext' (by simpa using hcl)
        have hv:Y.al id=true/\v=m.sv id/\v.oneCell'=true:=hvr.1
        obtain ⟨q1,q2,q5,q6,q3⟩:=h.row_ok hrow
        have q4:=q3.1.1
        obtain ⟨bb,cap,hlen⟩:=q3.len
        have d0:m.env nn=((dec (A.ev m.env r.x)).length:Int):=by
         have:=DefsOk.snd (i:=0) hd rfl
         simpa [D.ev,q6] using this
        have hpo:PureOk P m Y a w o (.vl (.one (.int .i64 (.var nn)))):=by
         refine ⟨.int .i64 (dec (A.ev m.env r.x)).length,?_,⟨?_,trivial⟩,?_,?_⟩
         ·simp only [execOp,ho,resolve,hcal]
          simp [invoke,builtin,Builtin.len_,hct,run_underlying hu,hca,hv.2.1,hlen,goInt]
         ·have:=hd.1;simp only [A.ok,List.length_cons,List.length_nil] at *;omega
         ·show has .i64 (m.env nn)
          rw [d0];simp only [has,lo,hi];omega
         ·show _=Value.int .i64 (m.env nn)
          rw [d0]
        exact exec_pure h hpo rfl hK
      ·cases hp
     ·rename_i e id lo' hi' k' hu
      split at hp
      ·rename_i r hrow
       split at hp
       ·rename_i hzl
        have hz0:=isZ_ok hzl
        subst hz0
        cases hp
        match hcl:c.args.toList.map a.eval,hvr with
        | [v],hvr =>
         have hca:c.args.map a.eval=#[v]:=Array.ext' (by simpa using hcl)
         obtain ⟨b1,b2,b3,b4,b5,b6⟩:=(show C.rel m Y.nv Y.al (.slv id (.lit 0) hi' k') v from hvr.1)
         obtain ⟨q1,q2,q5,q6,q3⟩:=h.row_ok hrow
         obtain ⟨bb,cap,hlen⟩:=q3.len
         have hv:v=.slice bb (hi'.ev m.env).toNat cap:=by rw [isView.zero b5,hlen];exact subV_zero ..
         have c1:0<=hi'.ev m.env:=b4.2.1
         have c3:=b4.2.2.2
         have hpo:PureOk P m Y a w o (.vl (.one (.int .i64 hi'))):=by
          refine ⟨.int .i64 (hi'.ev m.env),?_,b3,?_,rfl⟩
          ·simp only [execOp,ho,resolve,hcal]
           have:((hi'.ev m.env).toNat:Int)=hi'.ev m.env:=by omega
           simp [invoke,builtin,Builtin.len_,hct,run_underlying hu,hca,hv,goInt,this]
          ·simp only [has,lo,Sx.hi];omega
         exact exec_pure h hpo rfl hK
       ·cases hp
        match hcl:c.args.toList.map a.eval,hvr with
        | [v],hvr =>
         have hca:c.args.map a.eval=#[v]:=Array.ext' (by simpa using hcl)
         obtain ⟨b1,b2,b3,b4,b5,b6⟩:=(show C.rel m Y.nv Y.al (.slv id lo' hi' k') v from hvr.1)
         obtain ⟨q1,q2,q5,q6,q3⟩:=h.row_ok hrow
         obtain ⟨bb,cap,hlen⟩:=q3.len
         have hv:∃ b' c',v=.slice b' ((hi'.ev m.env).toNat-(lo'.ev m.env).toNat) c':=by
          rcases b5 with b5 | ⟨_,b7,ad,n,d,_,b8⟩
          ·rw [b5,hlen];exact ⟨_,_,rfl⟩
          ·exact ⟨_,_,by rw [b8,b7,Nat.sub_self]⟩
         obtain ⟨b',c',hv⟩:=hv
         have c0:0<=lo'.ev m.env:=b4.1
         have c1:lo'.ev m.env<=hi'.ev m.env:=b4.2.1
         have c3:=b4.2.2.2
         have d0:m.env nn=hi'.ev m.env-lo'.ev m.env:=by
          have:=DefsOk.snd (i:=0) hd rfl
          rw [Nat.add_zero] at this
          rw [this];simp only [D.ev,binE]
          exact wr_id (by simp only [has,lo,Sx.hi];omega)
         have hpo:PureOk P m Y a w o (.vl (.one (.int .i64 (.var nn)))):=by
          refine ⟨.int .i64 (m.env nn),?_,⟨?_,trivial⟩,?_,rfl⟩
          ·simp only [execOp,ho,resolve,hcal]
           have:(((hi'.ev m.env).toNat-(lo'.ev m.env).toNat:Nat):Int)=m.env nn:=by omega
           simp [invoke,builtin,Builtin.len_,hct,run_underlying hu,hca,hv,goInt,this]
          ·have:=hd.1;simp only [A.ok,List.length_cons,List.length_nil] at *;omega
          ·show has .i64 (m.env nn)
           rw [d0];simp only [has,lo,Sx.hi];omega
         exact exec_pure h hpo rfl hK
      ·cases hp
     ·rename_i n e v0 hu
      split at hp
      ·rename_i hb
       cases hp
       match hcl:c.args.toList.map a.eval,hvr with
       | [v],hvr =>
        have hca:c.args.map a.eval=#[v]:=Array.ext' (by simpa using hcl)
        refine key n ?_ rfl (by omega)
        rw [hca]
        simp [Builtin.len_,hct,run_underlying hu]
      ·cases hp
     ·rename_i s hu
      split at hp
      ·rename_i hb
       cases hp
       match hcl:c.args.toList.map a.eval,hvr with
       | [v],hvr =>
        have hca:c.args.map a.eval=#[v]:=Array.ext' (by simpa using hcl)
        refine key s.size ?_ rfl (by omega)
        have hv:v=.string s:=hvr.1
        rw [hca,hv]
        simp [Builtin.len_,hct,run_underlying hu]
      ·cases hp
     ·cases hp
   ·
    rename_i hcal
    have key:∀ (id:Nat) (r:Row) (bb:Option Addr) (n cap:Nat) (v:Value),Y.row id=some r->r.full=true->(Builtin.cap_ c.argTypes o.type (c.args.map a.eval)).run P w=.ok (goInt cap) w->m.sv id=.slice bb n cap->p={val:=.vl (.one (.int .i64 (.var nn))),defs:=[(.int .i64,.llen r.x0)] }->o.wp P a w K Q:=by
     intro id r bb n cap v hrow hfull hrun hsv hpe
     obtain ⟨q1,q2,q5,q6,q3⟩:=h.row_ok hrow
     have q4:=q3.1.1
     have hfl:=q3.2.2 hfull
     have hlv:=q3.lenV
     rw [hsv] at hfl hlv
     have hfl:n=cap:=hfl
     have hlv:n=(dec (A.ev m.env r.x)).length:=hlv
     subst hpe
     have d0:m.env nn=(cap:Int):=by
      have:=DefsOk.snd (i:=0) hd rfl
      rw [Nat.add_zero] at this
      rw [this];simp only [D.ev];omega
     have hpo:PureOk P m Y a w o (.vl (.one (.int .i64 (.var nn)))):=by
      refine ⟨.int .i64 cap,?_,⟨?_,trivial⟩,?_,?_⟩
      ·simp only [execOp,ho,resolve,hcal]
       simp [invoke,builtin,hrun,goInt]
      ·have:=hd.1;simp only [A.ok,List.length_cons,List.length_nil] at *;omega
      ·show has .i64 (m.env nn)
       rw [d0];simp only [has,lo,hi];omega
      ·show _=Value.int .i64 (m.env nn)
       rw [d0]
     exact exec_pure h hpo rfl hK
    split at hp
    ·cases hp
    ·rename_i t hct
     split at hp
     ·rename_i e id hu
      split at hp
      ·rename_i r hrow
       split at hp
       ·rename_i hfull
        cases hp
        match hcl:c.args.toList.map a.eval,hvr with
        | [v],hvr =>
         have hca:c.args.map a.eval=#[v]:=Array.ext' (by simpa using hcl)
         have hv:Y.al id=true/\v=m.sv id/\v.oneCell'=true:=hvr.1
         obtain ⟨q1,q2,q5,q6,q3⟩:=h.row_ok hrow
         obtain ⟨bb,cap,hlen⟩:=q3.len
         refine key id r bb _ cap v hrow hfull ?_ hlen rfl
         simp [Builtin.cap_,hct,run_underlying hu,hca,hv.2.1,hlen]
       ·cases hp
      ·cases hp
     ·rename_i e id lo' hi' k' hu
      split at hp
      ·rename_i r hrow
       split at hp
       ·rename_i hfull
        simp only [Bool.and_eq_true] at hfull
        have hz0:=isZ_ok hfull.2
        subst hz0
        cases hp
        match hcl:c.args.toList.map a.eval,hvr with
        | [v],hvr =>
         have hca:c.args.map a.eval=#[v]:=Array.ext' (by simpa using hcl)
         obtain ⟨b1,b2,b3,b4,b5,b6⟩:=(show C.rel m Y.nv Y.al (.slv id (.lit 0) hi' k') v from hvr.1)
         obtain ⟨q1,q2,q5,q6,q3⟩:=h.row_ok hrow
         obtain ⟨bb,cap,hlen⟩:=q3.len
         have hv:v=.slice bb (hi'.ev m.env).toNat cap:=by rw [isView.zero b5,hlen];exact subV_zero ..
         refine key id r bb _ cap v hrow hfull.1 ?_ hlen rfl
         simp [Builtin.cap_,hct,run_underlying hu,hca,hv]
       ·cases hp
      ·cases hp
     ·cases hp
   ·
    rename_i hcal
    split at hp
    ·rename_i k x k' y
     split at hp
     ·rename_i hk
      have hk:=kind_ok hk
      subst hk
      cases hp
      match hcl:c.args.toList.map a.eval,hvr with
      | [u,v],hvr =>
       have hca:c.args.map a.eval=#[u,v]:=Array.ext' (by simpa using hcl)
       have hx:C.rel m Y.nv Y.al (.int k x) u:=hvr.1
       have hy:C.rel m Y.nv Y.al (.int k y) v:=hvr.2.1
       have e0:m.env nn=b2i (decide (x.ev m.env<y.ev m.env)):=(hd.2 0 _ _ rfl).1
       have e1:m.env (nn+1)=(if m.env nn=((1:Nat):Int) then y.ev m.env else x.ev m.env):=(hd.2 1 _ _ rfl).1
       have e2:m.env (nn+1)=(if x.ev m.env<y.ev m.env then y.ev m.env else x.ev m.env):=by
        rw [e1,e0]
        by_cases hc:x.ev m.env<y.ev m.env <;> simp [hc,b2i]
       have hpo:PureOk P m Y a w o (.vl (.one (.int k (.var (nn+1))))):=by
        refine ⟨.int k (if x.ev m.env<y.ev m.env then y.ev m.env else x.ev m.env),?_,⟨?_,trivial⟩,?_,?_⟩
        ·simp only [execOp,ho,resolve,hcal]
         simp [invoke,builtin,Builtin.max_,Builtin.max2,hca,hx.2.2,hy.2.2]
        ·have:=hd.1;simp only [A.ok,List.length_cons,List.length_nil] at *;omega
        ·show has k (m.env (nn+1))
         rw [e2];split
         ·exact hy.2.1
         ·exact hx.2.1
        ·show _=Value.int k (m.env (nn+1))
         rw [e2]
       exact exec_pure h hpo rfl hK
     ·cases hp
    ·cases hp
   ·
    rename_i hcal
    split at hp
    ·rename_i k x k' y
     split at hp
     ·rename_i hk
      have hk:=kind_ok hk
      subst hk
      cases hp
      match hcl:c.args.toList.map a.eval,hvr with
      | [u,v],hvr =>
       have hca:c.args.map a.eval=#[u,v]:=Array.ext' (by simpa using hcl)
       have hx:C.rel m Y.nv Y.al (.int k x) u:=hvr.1
       have hy:C.rel m Y.nv Y.al (.int k y) v:=hvr.2.1
       have e0:m.env nn=b2i (decide (y.ev m.env<x.ev m.env)):=(hd.2 0 _ _ rfl).1
       have e1:m.env (nn+1)=(if m.env nn=((1:Nat):Int) then y.ev m.env else x.ev m.env):=(hd.2 1 _ _ rfl).1
       have e2:m.env (nn+1)=(if y.ev m.env<x.ev m.env then y.ev m.env else x.ev m.env):=by
        rw [e1,e0]
        by_cases hc:y.ev m.env<x.ev m.env <;> simp [hc,b2i]
       have hpo:PureOk P m Y a w o (.vl (.one (.int k (.var (nn+1))))):=by
        refine ⟨.int k (if y.ev m.env<x.ev m.env then y.ev m.env else x.ev m.env),?_,⟨?_,trivial⟩,?_,?_⟩
        ·simp only [execOp,ho,resolve,hcal]
         simp [invoke,builtin,Builtin.min_,Builtin.min2,hca,hx.2.2,hy.2.2]
        ·have:=hd.1;simp only [A.ok,List.length_cons,List.length_nil] at *;omega
        ·show has k (m.env (nn+1))
         rw [e2];split
         ·exact hy.2.1
         ·exact hx.2.1
        ·show _=Value.int k (m.env (nn+1))
         rw [e2]
       exact exec_pure h hpo rfl hK
     ·cases hp
    ·cases hp
   ·
    split at hp
    ·rename_i g hg
     cases hp
     simp only [applyP_def] at hK
     exact cat_exec (T:=T) h (hn rfl) (by rw [ho];exact hg) ht (hz (.var (nn+(g.defs.length+1))) (by simp [catPl])) (hz (.var (nn+(g.defs.length+3))) (by simp [catPl])) ht2 (by simp only [catPl,catD,List.length_append,List.length_cons,List.length_nil] at hle;omega) hK
    ·cases hp
   ·cases hp
   ·cases hp
   ·rename_i x hcal
    split at hp
    ·rename_i f caps hx
     have hfx:=h.cell hx
     split at hp
     ·rename_i g X hfk
      obtain ⟨hg,hfn⟩:=findC_ok hfk
      split at hp
      ·cases hp
      split at hp
      ·cases hp
      ·rename_i d hdi
       obtain ⟨d1,d2⟩:=d
       split at hp
       ·cases hp
       ·rename_i q hqo
        obtain ⟨q1,q2,q3⟩:=q
        cases hp
        simp only at ht ht2 hle hr hK hn
        have hall:VRels m Y.nv Y.al (args++caps.map fun p=>V.one (.ptr p.1 p.2)) (c.args.toList.map a.eval++caps.map fun p=>Value.pointer (some (m.at p.1 p.2))):=by
         exact hvr.append (caps_rel hfx.1)
        have hins:=(takeIns_ok (T:=T) _ _ _ _ _ hdi h hall).2 m.env (fun _ _=>rfl) ht
        have hpre:X.pre (d2.map (·.ev m.env)):=by
         have:=hr (g,d2) (List.mem_singleton.2 rfl)
         simpa [hg] using this
        have hok:=hT g X hg w h.below _ _ hins hpre
        have hrun:(execOp a.eval o).run P w=(callFunc X.fn (c.args.toList.map a.eval++caps.map fun p=>Value.pointer (some (m.at p.1 p.2))).toArray).run P w:=by
         rw [run_callValue ho hcal hfx.2,hfn]
         congr 2
         apply Array.ext'
         simp
        have fin:∀ (us:List Value) (w':World),outsRel w.heap.size w' X.outs (X.sem (d2.map (·.ev m.env))) us->Below w.heap.size w w'->K (a.put o.dst (retV us)) w':=by
         intro us w' hout hbel
         obtain ⟨b,vb,hb1,hb2⟩:=putK_val (T:=T) (args:=d2) (nid:=nid) hg (m:=m) (nv:=Y.nv) (al:=Y.al) hqo _ us hout (fun i y hi=>by rw [Nat.zero_add,List.getD_eq_getElem?_getD,hi];rfl) ht2 (by omega)
         cases q3 with
         | none =>
          have hv:=hb2 m Y.al (MExt.refl _ _ _) (fun _ h=>by cases h)
          have hw:=h.world hbel
          have eq:applyP Y {val:=retS q2,defs:=d1,eff:=.none,reqs:=[(g,d2)],post:=q1 } nid o.dst=Y.put o.dst (retS q2):=rfl
          have hal:(Y.put o.dst (retS q2)).al=Y.al:=by cases o.dst <;> rfl
          refine hK m _ _ rfl ?_ ?_
          ·rw [eq,hal];exact MExt.refl _ _ _
          ·rw [eq];exact hw.put (ret_rel hv) _
         | some bx =>
          have hnid:=hn rfl
          have hnl:nid<Y.boxes.length:=(List.getElem?_eq_some_iff.1 hnid).1
          have eq:applyP Y {val:=retS q2,defs:=d1,eff:=.new bx,reqs:=[(g,d2)],post:=q1 } nid o.dst=(Y.setBox nid bx).put o.dst (retS q2):=by rw [applyP_def];rfl
          have hal:((Y.setBox nid bx).put o.dst (retS q2)).al=(Y.setBox nid bx).al:=by cases o.dst <;> rfl
          have haln:(Y.setBox nid bx).al nid=true:=by rw [al_setBox];simp [hnl]
          have go:∀ m',m'.env=m.env->Rep w0 m' (Y.setBox nid bx) a w'->MExt m Y.nv Y.al m' Y.nv (Y.setBox nid bx).al->(bx.own=true->m'.rho nid=(b,0))->(bx.own=false->m'.sv nid=vb)->K (a.put o.dst (retV us)) w':=by
           intro m' he r1 r2 k1 k2
           have hv:=hb2 _ _ r2 (fun bx' hbx=>by cases hbx;exact ⟨haln,k1,k2⟩)
           refine hK m' _ _ he ?_ ?_
           ·show MExt m Y.nv Y.al m' Y.nv (applyP Y {val:=retS q2,defs:=d1,eff:=.new bx,reqs:=[(g,d2)],post:=q1 } nid o.dst).al
            rw [eq]
            exact r2.trans (by rw [<- hal];exact MExt.refl _ _ _)
           ·show Rep w0 m' (applyP Y {val:=retS q2,defs:=d1,eff:=.new bx,reqs:=[(g,d2)],post:=q1 } nid o.dst) _ _
            rw [eq]
            exact r1.put (ret_rel hv) _
          rcases hb1 bx rfl with ⟨o1,o2,g1,zs,g2,g3⟩ | ⟨r,rfl,o1,o2,o3,o4,o5,o6⟩
          ·obtain ⟨bcells,belem,bown,brow,bfz⟩:=bx
           simp only at o1 o2 g2 g3
           subst o1 o2
           obtain ⟨r1,r2⟩:=h.new hnid hbel g1 g2 g3
           exact go (m.bind nid b) rfl r1 r2 (fun _=>by simp [M.bind]) (fun h=>by cases h)
          ·have o5':w'.ownsRow w0.heap.size r.elem r.k.sz vb (dec (r.x.ev m.env)).length (flat r.k (dec (r.x.ev m.env))):=by
            refine ⟨o5.1,?_⟩
            rcases o5.2 with h1 | ⟨g,cap,cur,e1,e2,e3⟩
            ·exact .inl h1
            ·exact .inr ⟨g,cap,cur,e1,Nat.le_trans h.below.size e2,e3⟩
           obtain ⟨r1,r2⟩:=h.newRow hnid hbel (r:=r) (v:=vb) o2 (by rw [o3];exact o2) (by rw [o3]) ⟨o4,by rw [o1];exact o5',o6⟩ (fun g _ hg=>(o5.lt g hg).1)
           exact go (m.row nid vb) rfl r1 r2 (fun h=>by cases h) (fun _=>by simp [M.row])
        unfold Oper.wp
        rw [hrun]
        cases hext:X.ext with
        | true =>
         rw [hext] at hok
         simp only [if_true] at hok
         obtain ⟨us,h1,h2⟩:=hok
         rw [h1]
         exact fin us w h2 (Below.refl _ _)
        | false =>
         rw [hext] at hok
         simp only [Bool.false_eq_true,if_false] at hok
         obtain ⟨h1,h2⟩:=hok
         rw [h1]
         refine h2.mono fun e w' ⟨us,he,hout,hbel⟩=>?_
         subst he
         exact fin us w' hout hbel
     ·cases hp
    ·cases hp
 | _=>rw [ho] at hp;simp [plan] at hp
end
section
variable {P:Program} {T:List K} {w0:World} {m:M} {Y:St} {a:Act} {w:World} {o:Oper} {nn nid:Nat} {p:Plan}
theorem not_bit (T:List K) (e:Nat->Int) (a:A):KK.bit.has ((D.not a).ev T e):=by
 by_cases h:a.ev e=0 <;> simp [KK.has,D.ev,h]
theorem mkP_gen {kk:KK} {d:D} {c:A->C} (hp:mkP nn kk d c=.ok p) (h1:d.ok nn) (h2:kk.has (d.ev T m.env)):GenOk T m.env nn p.defs:=by
 unfold mkP at hp
 cases hp
 exact mk_gen h1 h2
theorem eqN_ok' {f:List C->List C->Option (List (A×A)×List C×List C)} {R:C->Prop} {S:A×A->Prop} (hf:∀ xs ys ps xs' ys',f xs ys=some (ps,xs',ys')->(∀ c∈xs,R c)->(∀ c∈ys,R c)->(∀ q∈ps,S q)/\(∀ c∈xs',R c)/\(∀ c∈ys',R c)) :
  ∀ n xs ys ps xs' ys',eqN f n xs ys=some (ps,xs',ys')->(∀ c∈xs,R c)->(∀ c∈ys,R c)->(∀ q∈ps,S q)/\(∀ c∈xs',R c)/\(∀ c∈ys',R c):=by
 intro n
 induction n with
 | zero=>intro xs ys ps xs' ys' h hx hy;simp [eqN] at h;obtain ⟨rfl,rfl,rfl⟩:=h;exact ⟨by simp,hx,hy⟩
 | succ n ih =>
  intro xs ys ps xs' ys' h hx hy
  unfold eqN at h
  split at h
  ·cases h
  ·rename_i r hr
   obtain ⟨p1,x1,y1⟩:=r
   simp only at h
   split at h
   ·cases h
   ·rename_i q hq
    obtain ⟨p2,x2,y2⟩:=q
    simp at h
    obtain ⟨rfl,rfl,rfl⟩:=h
    obtain ⟨g1,g2,g3⟩:=hf _ _ _ _ _ hr hx hy
    obtain ⟨k1,k2,k3⟩:=ih _ _ _ _ _ hq g2 g3
    exact ⟨fun q hq=>(List.mem_append.1 hq).elim (g1 q) (k1 q),k2,k3⟩
theorem eqFs_ok' {f:TypeId->List C->List C->Option (List (A×A)×List C×List C)} {sz:TypeId->Option Nat} {R:C->Prop} {S:A×A->Prop} (hf:∀ t xs ys ps xs' ys',f t xs ys=some (ps,xs',ys')->(∀ c∈xs,R c)->(∀ c∈ys,R c)->(∀ q∈ps,S q)/\(∀ c∈xs',R c)/\(∀ c∈ys',R c)) :
  ∀ fs n xs ys ps n' xs' ys',eqFs f sz fs n xs ys=some (ps,n',xs',ys')->(∀ c∈xs,R c)->(∀ c∈ys,R c)->(∀ q∈ps,S q)/\(∀ c∈xs',R c)/\(∀ c∈ys',R c):=by
 intro fs
 induction fs with
 | nil=>intro n xs ys ps n' xs' ys' h hx hy;simp [eqFs] at h;obtain ⟨rfl,rfl,rfl,rfl⟩:=h;exact ⟨by simp,hx,hy⟩
 | cons fd fs ih =>
  intro n xs ys ps n' xs' ys' h hx hy
  unfold eqFs at h
  split at h
  ·cases h
  ·split at h
   ·rename_i r s hr hs
    obtain ⟨p1,x1,y1⟩:=r
    simp only at h
    split at h
    ·cases h
    ·rename_i q hq
     obtain ⟨p2,n2,x2,y2⟩:=q
     simp at h
     obtain ⟨rfl,rfl,rfl,rfl⟩:=h
     obtain ⟨g1,g2,g3⟩:=hf _ _ _ _ _ _ hr hx hy
     obtain ⟨k1,k2,k3⟩:=ih _ _ _ _ _ _ _ hq g2 g3
     exact ⟨fun q hq=>(List.mem_append.1 hq).elim (g1 q) (k1 q),k2,k3⟩
   ·cases h
def C.okA (n:Nat):C->Prop
 | .int _ a=>a.ok n
 | .bool a=>a.ok n
 | _=>True
theorem eqW_names {n:Nat}:∀ d t xs ys ps xs' ys',eqW P d t xs ys=some (ps,xs',ys')->(∀ c∈xs,C.okA n c)->(∀ c∈ys,C.okA n c)->(∀ q∈ps,q.1.ok n/\q.2.ok n)/\(∀ c∈xs',C.okA n c)/\(∀ c∈ys',C.okA n c):=by
 intro d
 induction d with
 | zero=>intro t xs ys ps xs' ys' h;simp [eqW] at h
 | succ d ih =>
  intro t xs ys ps xs' ys' h hx hy
  unfold eqW at h
  split at h
  ·split at h
   ·split at h
    ·simp at h
     obtain ⟨rfl,rfl,rfl⟩:=h
     simp only [List.mem_cons,forall_eq_or_imp] at hx hy
     exact ⟨by simpa using ⟨hx.1,hy.1⟩,hx.2,hy.2⟩
    ·cases h
   ·cases h
  ·split at h
   ·split at h
    ·simp at h
     obtain ⟨rfl,rfl,rfl⟩:=h
     simp only [List.mem_cons,forall_eq_or_imp] at hx hy
     exact ⟨by simpa using ⟨hx.1,hy.1⟩,hx.2,hy.2⟩
    ·cases h
   ·cases h
  ·split at h
   ·exact eqN_ok' (fun xs ys ps xs' ys'=>ih _ xs ys ps xs' ys') _ _ _ _ _ _ h hx hy
   ·cases h
  ·split at h
   ·cases h
   ·split at h
    ·rename_i r hr
     obtain ⟨r1,r2,r3,r4⟩:=r
     split at h
     ·simp at h
      obtain ⟨rfl,rfl,rfl⟩:=h
      exact eqFs_ok' (fun t xs ys ps xs' ys'=>ih t xs ys ps xs' ys') _ _ _ _ _ _ _ _ hr hx hy
     ·cases h
    ·cases h
  ·cases h
theorem Rels.okA {m:M} {nv:Nat} {al:Nat->Bool}:∀ {cs:List C} {vs:List Value},Rels m nv al cs vs->∀ c∈cs,C.okA nv c
 | [],[],_,c,hc=>by cases hc
 | c::cs,v::vs,h,d,hd=>by
  rcases List.mem_cons.1 hd with rfl | hd
  ·cases d <;> first | trivial | exact h.1.1.1
  ·exact Rels.okA h.2 d hd
theorem ints_rel {m:M} {nv:Nat} {al:Nat->Bool} {k:IntKind}:∀ {as:List A} {vs:List Value},Rels m nv al (as.map (.int k)) vs->∀ x∈as,x.ok nv/\has k (x.ev m.env)
 | [],[],_,x,hx=>by cases hx
 | y::as,v::vs,h,x,hx=>by
  rcases List.mem_cons.1 hx with rfl | hx
  ·exact ⟨h.1.1.1,h.1.2.1⟩
  ·exact ints_rel h.2 x hx
theorem ints_names {m:M} {nv nn:Nat} {al:Nat->Bool} {k:IntKind} {as:List A} {vs:List Value} (h:Rels m nv al (as.map (.int k)) vs) (hn:nv<=nn):∀ x∈as,x.ok nn:=fun x hx=>A.ok_mono (ints_rel h x hx).1 hn
theorem ints_has {m:M} {nv:Nat} {al:Nat->Bool} {k:IntKind} {as:List A} {vs:List Value} (h:Rels m nv al (as.map (.int k)) vs):∀ x∈as,has k (x.ev m.env):=fun x hx=>(ints_rel h x hx).2
theorem has_zero (k:IntKind):has k 0:=by cases k <;> simp only [has,lo,hi] <;> omega
theorem sel_has {m:M} {nv:Nat} {al:Nat->Bool} {k:IntKind} {as:List A} {vs:List Value} (h:Rels m nv al (as.map (.int k)) vs) (i:A):KK.has (.int k) ((D.sel i as).ev T m.env):=by
 simp only [KK.has,D.ev,List.getD_eq_getElem?_getD,List.getElem?_map]
 cases hq:as[(i.ev m.env).toNat]? with
 | none=>exact has_zero k
 | some z=>exact ints_has h z (List.mem_of_getElem? hq)
theorem selD_gen {m:M} {nv nn:Nat} {al:Nat->Bool} {k:IntKind} {as:List A} {vs:List Value} (h:Rels m nv al (as.map (.int k)) vs) {i:A} (hi:i.ok nn) (hn:nv<=nn):(selD k i as).ok nn/\KK.has (.int k) ((selD k i as).ev T m.env):=by
 unfold selD
 cases hu:eltU k as with
 | none=>exact ⟨⟨hi,ints_names h hn⟩,sel_has h _⟩
 | some n =>
  obtain ⟨h1,h2,h3⟩:=elt_len hu h
  refine ⟨⟨by show n<nn;omega,hi⟩,?_⟩
  show has k ((dec (m.env n)).getD (i.ev m.env).toNat 0)
  rw [List.getD_eq_getElem?_getD]
  cases hq:(dec (m.env n))[(i.ev m.env).toNat]? with
  | none=>exact has_zero k
  | some z=>exact h2 z (List.mem_of_getElem? hq)
theorem put_gen {e:Nat->Int} {k:IntKind} {i x:A} {nn0:Nat} (hi:i.ok nn0) (hx:x.ok nn0) (hxk:has k (x.ev e)):∀ (as:List A) (j nn:Nat),(∀ y∈as,y.ok nn0/\has k (y.ev e))->∀ e':Nat->Int,(∀ q,q<nn0->e' q=e q)->(hn:nn0<=nn:=by omega)->GenOk T e' nn (putDs k i x as j)
 | [],_,_,_,_,_,_=>trivial
 | y::as,j,nn,hy,e',he,hn=>by
  obtain ⟨y1,y2⟩:=hy y (List.mem_cons_self ..)
  refine ⟨⟨A.ok_mono hi hn,A.ok_mono hx hn,A.ok_mono y1 hn⟩,?_,put_gen hi hx hxk as (j+1) (nn+1) (fun z hz=>hy z (List.mem_cons_of_mem _ hz)) _ (fun q hq=>?_) (by omega)⟩
  ·simp only [KK.has,D.ev]
   split
   ·rw [A.ev_congr hx he];exact hxk
   ·rw [A.ev_congr y1 he];exact y2
  ·simp only [upd];rw [if_neg (by omega)];exact he q hq
theorem range_gen {e:Nat->Int} {nn len:Nat} {y:A} {ds:Defs} (hy:y.ok nn) (hd:∀ e':Nat->Int,(∀ q,q<nn->e' q=e q)->GenOk T e' (nn+2) ds):GenOk T e nn (inRange y len++ds):=by
 refine ⟨⟨trivial,hy⟩,b2i_bit _,⟨A.ok_mono hy (by omega),trivial⟩,b2i_bit _,hd _ fun q hq=>?_⟩
 simp only [upd];rw [if_neg (by omega),if_neg (by omega)]
theorem tup_gen:∀ (ls:List LL) (e:Nat->Int) (n j z:Nat),z<n->llHas ls ((dec (e z)).drop j)->GenOk T e n (tupDs (.var z) j ls)
 | [],_,_,_,_,_,_=>trivial
 | l::ls,e,n,j,z,hz,h=>by
  cases hd:(dec (e z)).drop j with
  | nil=>rw [hd] at h;exact h.elim
  | cons x xs =>
   rw [hd] at h
   have e1:(dec (e z)).getD ((j:Nat):Int).toNat 0=x:=by
    rw [Int.toNat_natCast,List.getD_eq_getElem?_getD,<- List.head?_drop,hd];rfl
   have e2:(dec (e z)).drop (j+1)=xs:=by rw [<- List.tail_drop,hd];rfl
   refine ⟨⟨hz,trivial⟩,?_,tup_gen ls _ (n+1) (j+1) z (by omega) ?_⟩
   ·show l.kk.has ((dec (e z)).getD ((j:Nat):Int).toNat 0)
    rw [e1]
    cases l <;> exact h.1
   ·simp only [upd]
    rw [if_neg (by omega),e2]
    exact h.2
theorem shift_gen {e:Nat->Int} {op:BinOp} {k:IntKind} {a b:A} {nn:Nat} (wa:a.ok nn) (wb:b.ok nn) (hh:(KK.int k).has (binE op k (a.ev e) (b.ev e))):GenOk T e nn [(.bit,.cmp .leq (.lit 0) b),(.int k,.bin op k a b)]:=by
 refine ⟨⟨trivial,wb⟩,b2i_bit _,⟨A.ok_mono wa (by omega),A.ok_mono wb (by omega)⟩,?_,trivial⟩
 rw [D.ev_congr (d:=.bin op k a b) (n:=nn) (e:=e) ⟨wa,wb⟩ fun i hi=>by simp [upd];omega]
 exact hh
theorem llen_gen (h:Rep w0 m Y a w) {id:Nat} {r:Row} (hr:Y.row id=some r) (hnn:Y.nv<=nn):GenOk T m.env nn [(.int .i64,.llen r.x0)]:=by
 obtain ⟨q1,q2,q5,q6,q3⟩:=h.row_ok hr
 have q4:=q3.1.1
 refine ⟨A.ok_mono q5.1 hnn,?_,trivial⟩
 simp only [KK.has,D.ev,q6,has,lo,hi];omega
theorem vlen_gen {id:Nat} {lo hi:A} {k:LK} {vs:List Value} (hvr:VRels m Y.nv Y.al [.one (.slv id lo hi k)] vs) (hnn:Y.nv<=nn):GenOk T m.env nn [(.int .i64,.bin .sub .i64 hi lo)]:=by
 match vs,hvr with
 | [u],hvr =>
  obtain ⟨b1,b2,b3,b4,b5,b6⟩:=(show C.rel m Y.nv Y.al (.slv id lo hi k) u from hvr.1)
  exact ⟨⟨A.ok_mono b3.1 hnn,A.ok_mono b2.1 hnn⟩,wr_has _ _,trivial⟩
theorem lllen_gen {z:A} {vs:List Value} (hvr:VRels m Y.nv Y.al [.one (.ll z)] vs) (hnn:Y.nv<=nn):GenOk T m.env nn [(.int .i64,.llen z)]:=by
 match vs,hvr with
 | [u],hvr =>
  obtain ⟨b1,b2,b3⟩:=(show C.rel m Y.nv Y.al (.ll z) u from hvr.1)
  have:=b2.1.1
  refine ⟨A.ok_mono b1.1 hnn,?_,trivial⟩
  simp only [KK.has,D.ev,has,lo,hi];omega
theorem rollen_gen {z:A} {vs:List Value} (hvr:VRels m Y.nv Y.al [.one (.rol z)] vs) (hnn:Y.nv<=nn):GenOk T m.env nn [(.int .i64,.llen z)]:=by
 match vs,hvr with
 | [u],hvr =>
  obtain ⟨b1,b2,b3⟩:=(show C.rel m Y.nv Y.al (.rol z) u from hvr.1)
  have:=b2.1
  refine ⟨A.ok_mono b1.1 hnn,?_,trivial⟩
  simp only [KK.has,D.ev,has,lo,hi];omega
theorem put2_gen {e:Nat->Int} {k:IntKind} {x y:A} {d:D} (hx:x.ok nn) (hy:y.ok nn) (hxk:has k (x.ev e)) (hyk:has k (y.ev e)) (hd:d.ok nn) (hb:KK.bit.has (d.ev T e)):GenOk T e nn [(.bit,d),(.int k,.put (.var nn) 1 y x)]:=by
 have key:∀ v:Int,(KK.int k).has ((D.put (.var nn) 1 y x).ev T (upd e nn v)):=by
  intro v
  have low:∀ i,i<nn->upd e nn v i=e i:=fun i hi=>by simp [upd];omega
  simp only [KK.has,D.ev]
  rw [A.ev_congr hx low,A.ev_congr hy low]
  split
  ·exact hyk
  ·exact hxk
 exact ⟨hd,hb,⟨Nat.lt_succ_self _,A.ok_mono hy (by omega),A.ok_mono hx (by omega)⟩,key _,trivial⟩
theorem two_gen (_h:Rep w0 m Y a w) {k k':IntKind} {x y:A} {vs:List Value} (hvr:VRels m Y.nv Y.al [.one (.int k x),.one (.int k' y)] vs) (hnn:Y.nv<=nn) (hk:(k==k')=true:=by assumption):GenOk T m.env nn [(.bit,.cmp .lss x y),(.int k,.put (.var nn) 1 y x)]:=by
 have hk:=kind_ok hk
 subst hk
 match vs,hvr with
 | [u,v],hvr =>
  have hx:C.rel m Y.nv Y.al (.int k x) u:=hvr.1
  have hy:C.rel m Y.nv Y.al (.int k y) v:=hvr.2.1
  exact put2_gen (A.ok_mono hx.1.1 hnn) (A.ok_mono hy.1.1 hnn) hx.2.1 hy.2.1 ⟨A.ok_mono hx.1.1 hnn,A.ok_mono hy.1.1 hnn⟩ (b2i_bit _)
theorem two_gen' (_h:Rep w0 m Y a w) {k k':IntKind} {x y:A} {vs:List Value} (hvr:VRels m Y.nv Y.al [.one (.int k x),.one (.int k' y)] vs) (hnn:Y.nv<=nn) (hk:(k==k')=true:=by assumption):GenOk T m.env nn [(.bit,.cmp .lss y x),(.int k,.put (.var nn) 1 y x)]:=by
 have hk:=kind_ok hk
 subst hk
 match vs,hvr with
 | [u,v],hvr =>
  have hx:C.rel m Y.nv Y.al (.int k x) u:=hvr.1
  have hy:C.rel m Y.nv Y.al (.int k y) v:=hvr.2.1
  exact put2_gen (A.ok_mono hx.1.1 hnn) (A.ok_mono hy.1.1 hnn) hx.2.1 hy.2.1 ⟨A.ok_mono hy.1.1 hnn,A.ok_mono hx.1.1 hnn⟩ (b2i_bit _)
theorem bnd_ok (h:Rep w0 m Y a w) {o:Option Operand} {l:Option A} (hl:bndA Y o=some l):∀ y,l=some y->y.ok Y.nv:=by
 intro y hy
 unfold bndA at hl
 split at hl
 ·split at hl
  ·rename_i hc
   cases hl
   cases hy
   exact (h.cell hc).1.1
  ·cases hl
 ·cases hl;cases hy
theorem part_gen (h:Rep w0 m Y a w) {id:Nat} {r:Row} (hr:Y.row id=some r) {lo hi:Option Operand} {l h':Option A} (hl:bndA Y lo=some l) (hh:bndA Y hi=some h') {d:A} (hd:∀ z,d.ok (nn+(z+1)))
  (hp:partP nn id r (l.getD (.lit 0)) (h'.getD d)=.ok p) (hnn:Y.nv<=nn):GenOk T m.env nn p.defs:=by
 unfold partP at hp
 cases hp
 obtain ⟨q1,q2,q5,q6,q3⟩:=h.row_ok hr
 have q4:=q3.1.1
 have wl:∀ z,(l.getD (.lit 0)).ok (nn+z):=fun z=>by
  cases l with
  | none=>exact trivial
  | some y=>exact A.ok_mono (bnd_ok h hl y rfl) (by omega)
 have wh:∀ z,(h'.getD d).ok (nn+(z+1)):=fun z=>by
  cases h' with
  | none=>exact hd z
  | some y=>exact A.ok_mono (bnd_ok h hh y rfl) (by omega)
 refine ⟨A.ok_mono q5.1 hnn,?_,⟨trivial,wl 1⟩,b2i_bit _,⟨wl 2,wh 1⟩,b2i_bit _,⟨wh 2,?_⟩,b2i_bit _,trivial⟩
 ·simp only [KK.has,D.ev,q6,has,Sx.lo,Sx.hi];omega
 ·show nn<nn+1+1+1;omega
theorem view_gen (h:Rep w0 m Y a w) {id:Nat} {r:Row} (hr:Y.row id=some r) {lo hi:Option Operand} {l h':Option A} (hl:bndA Y lo=some l) (hh:bndA Y hi=some h') {lo' hi':A} (w2:lo'.ok Y.nv) (w3:hi'.ok Y.nv)
  (hp:partV nn id r lo' hi' (l.getD (.lit 0)) h'=.ok p) (hnn:Y.nv<=nn):GenOk T m.env nn p.defs:=by
 unfold partV at hp
 cases hp
 obtain ⟨q1,q2,q5,q6,q3⟩:=h.row_ok hr
 have q4:=q3.1.1
 have wl:∀ z,(l.getD (.lit 0)).ok (nn+z):=fun z=>by
  cases l with
  | none=>exact trivial
  | some y=>exact A.ok_mono (bnd_ok h hl y rfl) (by omega)
 have wh:∀ z,(h'.getD (.var (nn+2))).ok (nn+(z+3)):=fun z=>by
  cases h' with
  | none=>show nn+2<nn+(z+3);omega
  | some y=>exact A.ok_mono (bnd_ok h hh y rfl) (by omega)
 refine ⟨A.ok_mono q5.1 hnn,?_,⟨by show nn<nn+1;omega,A.ok_mono w2 (by omega)⟩,wr_has _ _,⟨A.ok_mono w3 (by omega),A.ok_mono w2 (by omega)⟩,wr_has _ _,⟨trivial,wl 3⟩,b2i_bit _,⟨wl 4,wh 1⟩,b2i_bit _,⟨wh 2,by show nn+1<nn+1+1+1+1+1;omega⟩,b2i_bit _,⟨A.ok_mono w2 (by omega),wl 6⟩,wr_has _ _,⟨A.ok_mono w2 (by omega),wh 4⟩,wr_has _ _,trivial⟩
 simp only [KK.has,D.ev,q6,has,Sx.lo,Sx.hi];omega
theorem plan_gen (h:Rep w0 m Y a w) (hp:plan P T Y nn nid o.op=.ok p) (hnn:Y.nv<=nn):GenOk T m.env nn p.defs:=by
  have nodefs:p.defs=[]->GenOk T m.env nn p.defs:=fun e=>by rw [e];trivial
  cases ho:o.op with
  | binOp op t x y yt =>
    rw [ho] at hp
    simp only [plan] at hp
    split at hp
    · rename_i u v hu hv
      have h1:=h.v_ hu
      have h2:=h.v_ hv
      split at hp
      · rename_i q hq
        cases hp
        obtain ⟨id,r,e,n,rfl,rfl,hr,hut,hn,rfl⟩:=rowNil_spec hq
        obtain ⟨q1,q2,q5,q6,q3⟩:=h.row_ok hr
        have q4:=q3.1.1
        exact ⟨A.ok_mono q5.1 hnn,by simp only [KK.has,D.ev,q6,has,lo,hi];omega,⟨trivial,show nn<nn+1 by omega⟩,b2i_bit _,trivial⟩
      rename_i hnone
      clear hnone
      unfold planBin at hp
      split at hp
      · rename_i k a k' b
        have w1:a.ok nn/\b.ok nn:=⟨A.ok_mono h1.1.1 hnn,A.ok_mono h2.1.1 hnn⟩
        have hb:∀ op b',(KK.int k).has (binE op k (a.ev m.env) b'):=fun op b'=>binE_has h1.2.1
        have hc:∀ b,KK.bit.has (b2i b):=b2i_bit
        unfold binInt at hp
        split at hp
        all_goals (repeat' split at hp)
        all_goals first
          | (cases hp;done)
          | exact mkP_gen hp w1 (by simp only [D.ev];exact hb _ _)
          | exact mkP_gen hp w1 (by simp only [D.ev];exact hc _)
          | (cases hp;exact shift_gen w1.1 w1.2 (hb _ _))
          | (cases hp;exact mk_gen w1 (by simp only [D.ev];exact hb _ _))
      · rename_i a b
        have w1:a.ok nn/\b.ok nn:=⟨A.ok_mono h1.1.1 hnn,A.ok_mono h2.1.1 hnn⟩
        split at hp
        · exact mkP_gen hp w1 (b2i_bit _)
        · exact mkP_gen hp w1 (b2i_bit _)
        · cases hp
      · rename_i a b
        have w1:a.ok nn/\b.ok nn:=⟨A.ok_mono h1.1.1 hnn,A.ok_mono h2.1.1 hnn⟩
        split at hp
        · exact mkP_gen hp w1 (b2i_bit _)
        · cases hp
          exact ⟨w1,b2i_bit _,Nat.lt_succ_self nn,not_bit _ _ _,trivial⟩
        · cases hp
      · split at hp
        · cases hp;trivial
        · cases hp;trivial
        · cases hp
      · obtain ⟨vx,hx1,hx2⟩:=h1
        obtain ⟨vy,hy1,hy2⟩:=h2
        split at hp
        · cases hp
        · split at hp
          · rename_i l hl
            have hok:∀ q∈l,q.1.ok nn/\q.2.ok nn:=fun q hq=>by
              have:=(eqW_names 20 t _ _ _ _ _ hl (Rels.okA hx2) (Rels.okA hy2)).1 q hq
              exact ⟨A.ok_mono this.1 hnn,A.ok_mono this.2 hnn⟩
            split at hp
            · exact mkP_gen hp hok (b2i_bit _)
            · split at hp
              · cases hp;trivial
              · cases hp
                exact ⟨hok,b2i_bit _,Nat.lt_succ_self nn,not_bit _ _ _,trivial⟩
            · cases hp
          · cases hp
      · repeat' split at hp
        all_goals (first | (cases hp;done) | (unfold okP at hp;cases hp;trivial))
      · cases hp
    · cases hp
  | unOp op t x =>
    rw [ho] at hp
    simp only [plan] at hp
    split at hp
    · rename_i hx
      have h1:=h.cell hx
      exact mkP_gen hp (A.ok_mono h1.1.1 hnn) (not_bit _ _ _)
    · rename_i hx
      have h1:=h.cell hx
      exact mkP_gen hp ⟨trivial,A.ok_mono h1.1.1 hnn⟩ (wr_has _ _)
    · rename_i hx
      have h1:=h.cell hx
      exact mkP_gen hp ⟨trivial,A.ok_mono h1.1.1 hnn⟩ (wr_has _ _)
    · cases hp
  | convert s d x =>
    rw [ho] at hp
    simp only [plan] at hp
    split at hp
    · rename_i q hq
      cases hp
      obtain ⟨_,_,_,_,_,_,_,_,_,_,_,_,_,rfl⟩:=markP_spec hq
      trivial
    split at hp
    · rename_i hx
      have h1:=h.cell hx
      split at hp
      · unfold okP at hp;cases hp;trivial
      · exact mkP_gen hp (A.ok_mono h1.1.1 hnn) (wr_has _ _)
    · rename_i e c hs hu hx
      have h1:=h.cell hx
      split at hp
      · rename_i ds y he htk
        cases hp
        exact ((takeSh_ok (T:=T) htk h (u:=a.eval x) h1).1 hnn).1
      · cases hp
    · cases hp
  | call c =>
    rw [ho] at hp
    simp only [plan] at hp
    split at hp
    · cases hp
    · rename_i args hargs
      have hvr:=args_ok h _ _ hargs
      split at hp
      · repeat' split at hp
        all_goals first
          | (cases hp;done)
          | (unfold okP at hp;cases hp;trivial)
          | (rename_i r hr
             cases hp
             exact llen_gen h hr hnn)
          | (cases hp
             exact vlen_gen hvr hnn)
          | (cases hp
             exact lllen_gen hvr hnn)
          | (cases hp
             exact rollen_gen hvr hnn)
      · repeat' split at hp
        all_goals first
          | (cases hp;done)
          | (rename_i r hr hf
             cases hp
             exact llen_gen h hr hnn)
      · split at hp
        · split at hp
          · cases hp
            exact two_gen h hvr hnn
          · cases hp
        · cases hp
      · split at hp
        · split at hp
          · cases hp
            exact two_gen' h hvr hnn
          · cases hp
        · cases hp
      · split at hp
        · rename_i g hg
          cases hp
          exact cat_gen h (by rw [ho];exact hg) hnn
        · cases hp
      · cases hp
      · cases hp
      · split at hp
        · rename_i f caps hx
          have hfx:=h.cell hx
          split at hp
          · split at hp
            · cases hp
            split at hp
            · cases hp
            · rename_i d hdi
              split at hp
              · cases hp
              · cases hp
                have hall:VRels m Y.nv Y.al (args++caps.map fun p=>V.one (.ptr p.1 p.2)) (c.args.toList.map a.eval++caps.map fun p=>Value.pointer (some (m.at p.1 p.2))):=by
                  exact hvr.append (caps_rel hfx.1)
                exact ((takeIns_ok (T:=T) _ _ _ _ _ hdi h hall).1 hnn).1
          · cases hp
        · cases hp
  | load t x =>
    rw [ho] at hp
    simp only [plan] at hp
    split at hp
    · repeat' split at hp
      all_goals (first | (cases hp;done) | (unfold okP at hp;cases hp;trivial) | (cases hp;trivial))
    · rename_i id off i n hx
      have h1:=h.cell hx
      split at hp
      · rename_i b d hb hdt
        split at hp
        · cases hp
        · split at hp
          · rename_i r hr
            split at hp
            · rename_i hl
              cases hp
              have hcs:=intsOf_ok hr
              have hl':r.2.length=n:=by simpa using hl
              have hen:n<=(b.cells.drop off).length:=by
                have:=congrArg List.length hcs
                rw [List.length_map,hl',List.length_take] at this
                omega
              obtain ⟨vs,hvl,hrel,hv⟩:=h.reads hb off n hen
              rw [hcs] at hrel
              obtain ⟨g1,g2⟩:=selD_gen (T:=T) hrel (i:=i) (A.ok_mono h1.2.1.1 hnn) hnn
              exact ⟨g1,g2,trivial⟩
            · cases hp
          · cases hp
      · cases hp
    · rename_i id i k hx
      have h1:=h.cell hx
      split at hp
      · rename_i r d n hr hdt hn
        split at hp
        · rename_i hc
          have e2:=LKeq_ok hc
          subst e2
          obtain ⟨q1,q2,_,_,q3⟩:=h.row_ok hr
          have hi:(i.ev m.env).toNat<(dec (A.ev m.env r.x)).length:=by have:=h1.2.2.1;rw [q3.lenV] at this;omega
          have hz:r.k.has ((dec (A.ev m.env r.x)).getD (i.ev m.env).toNat 0):=by
            refine q3.1.2 _ ?_
            rw [List.getD_eq_getElem?_getD,List.getElem?_eq_getElem hi]
            exact List.getElem_mem hi
          have wok:(D.lget r.x i).ok nn:=⟨A.ok_mono q2.1 hnn,A.ok_mono h1.2.1.1 hnn⟩
          unfold loadRow at hp
          split at hp
          · rename_i hk
            rw [hk] at hz
            split at hp
            · cases hp;exact ⟨wok,hz,trivial⟩
            · cases hp
          · rename_i kk hk
            rw [hk] at hz
            split at hp
            · cases hp
            · cases hp;exact ⟨wok,hz,trivial⟩
          · rename_i l0 ls hk
            rw [hk] at hz
            split at hp
            · cases hp
              refine ⟨wok,trivial,tup_gen (l0::ls) _ (nn+1) 0 nn (by omega) ?_⟩
              simp only [upd,if_true,List.drop_zero]
              exact hz
            · cases hp
          · cases hp
        · cases hp
      · cases hp
    · rename_i x i hx
      obtain ⟨g1,g2,g3,s,g4,g5⟩:=(show C.rel m Y.nv Y.al (.llp x i) _ from h.cell hx)
      split at hp
      · cases hp
        have hi:(i.ev m.env).toNat<(dec (A.ev m.env x)).length:=by omega
        refine ⟨⟨A.ok_mono g1.1 hnn,A.ok_mono g2.1 hnn⟩,?_,trivial⟩
        simp only [KK.has,D.ev]
        rw [List.getD_eq_getElem?_getD,List.getElem?_eq_getElem hi,Option.getD_some]
        exact g4.1.2 _ (List.getElem_mem hi)
      · cases hp
    · cases hp
  | store t x y =>
    rw [ho] at hp
    simp only [plan] at hp
    split at hp
    · repeat' split at hp
      all_goals (first | (cases hp;done) | (unfold okP at hp;cases hp;trivial) | (cases hp;trivial))
    · rename_i id off i n k x' hx hy
      have h1:=h.cell hx
      have h2:C.rel m Y.nv Y.al (.int k x') (a.eval y):=h.v_ hy
      split at hp
      · rename_i b hb hn
        split at hp
        · rename_i r hr
          split at hp
          · rename_i hc
            simp only [Bool.and_eq_true,beq_iff_eq] at hc
            obtain ⟨⟨hc1,hc2⟩,hc3⟩:=hc
            have hcs:=intsOf_ok hr
            have hen:n<=(b.cells.drop off).length:=by
              have:=congrArg List.length hcs
              rw [List.length_map,hc2,List.length_take] at this
              omega
            obtain ⟨vs,hvl,hrel,hv⟩:=h.reads hb off n hen
            rw [hcs] at hrel
            have hkk:r.1=k:=hc3
            rw [hkk] at hrel
            split at hp
            · cases hp
              exact put_gen (A.ok_mono h1.2.1.1 hnn) (A.ok_mono h2.1.1 hnn) h2.2.1 _ _ _ (fun y hy=>⟨ints_names hrel hnn y hy,ints_has hrel y hy⟩) _ (fun _ _=>rfl)
            · split at hp
              · cases hp
              · cases hp
                obtain ⟨e1,e2⟩:=ints_all hrel
                obtain ⟨n1,n2,n3⟩:=arrA_ok (T:=T) (nn:=nn) hrel (by omega)
                refine gen_append _ _ _ _ (n1 hnn).1 fun e' he ht=>⟨⟨(n1 hnn).2,A.ok_mono h1.2.1.1 (by omega),A.ok_mono h2.1.1 (by omega)⟩,?_,trivial⟩
                have n4:=n3 e' (fun i hi=>he i (by omega)) ht
                simp only [KK.has,D.ev,n4,dec_enc]
                refine ⟨⟨by rw [List.length_set,List.length_map,hc2];omega,fun z hz=>?_⟩,by rw [List.length_set,List.length_map,hc2]⟩
                rcases List.mem_or_eq_of_mem_set hz with hz | rfl
                · obtain ⟨x,hx,rfl⟩:=List.mem_map.1 hz
                  exact (e2 x hx).2
                · rw [A.ev_congr h2.1.1 fun i hi=>he i (by omega)];exact h2.2.1
          · cases hp
        · cases hp
      · cases hp
    · rename_i id i k v hx hy
      have h1:=h.cell hx
      split at hp
      · rename_i r s hr hs
        split at hp
        · rename_i hc
          simp only [Bool.and_eq_true,beq_iff_eq] at hc
          obtain ⟨⟨⟨hc1,hc2⟩,hc3⟩,hc4⟩:=hc
          have hk:=LKeq_ok hc2
          subst hk
          split at hp
          · rename_i ds y htk
            cases hp
            obtain ⟨q1,q2,q5,q6,q3⟩:=h.row_ok hr
            obtain ⟨vs,g1,g2,g3⟩:=V.rel_cells (h.v_ hy) hc4
            obtain ⟨k1,k3⟩:=takeK_ok (T:=T) htk m Y.nv vs g2
            obtain ⟨k1,k4⟩:=k1 hnn
            refine gen_append _ _ _ _ k1 fun e' he ht=>⟨⟨A.ok_mono q2.1 (by omega),A.ok_mono h1.2.1.1 (by omega),k4⟩,?_,trivial⟩
            obtain ⟨v1,v2⟩:=k3 e' (fun i hi=>he i (by omega)) ht
            simp only [KK.has,D.ev,dec_enc]
            rw [A.ev_congr q2.1 (fun i hi=>he i (by omega))]
            refine ⟨by rw [List.length_set];exact q3.1.1,fun x hx=>?_⟩
            rcases List.mem_or_eq_of_mem_set hx with h2 | h2
            · exact q3.1.2 x h2
            · rw [h2];exact v2
          · cases hp
        · cases hp
      · cases hp
    · cases hp
  | indexAddr t x i =>
    rw [ho] at hp
    simp only [plan] at hp
    split at hp
    · repeat' split at hp
      all_goals (first | (cases hp;done) | (unfold okP at hp;cases hp;trivial))
    · repeat' split at hp
      all_goals (first | (cases hp;done) | (unfold okP at hp;cases hp;trivial))
    · split at hp
      · rename_i k y hy hs
        cases hp
        have h2:=h.cell hy
        exact (range_gen (ds:=[]) (A.ok_mono h2.1.1 hnn) fun _ _=>trivial)
      · cases hp
    · split at hp
      · rename_i k y hy hs
        cases hp
        have h2:=h.cell hy
        exact (range_gen (ds:=[]) (A.ok_mono h2.1.1 hnn) fun _ _=>trivial)
      · cases hp
    · rename_i e id hu hx
      split at hp
      · rename_i r k y s hr hy hs
        split at hp
        · cases hp
          have h2:=h.cell hy
          obtain ⟨q1,q2,q5,q6,q3⟩:=h.row_ok hr
          have w1:=A.ok_mono h2.1.1 hnn
          have q4:=q3.1.1
          refine ⟨A.ok_mono q5.1 hnn,?_,⟨trivial,A.ok_mono w1 (by omega)⟩,b2i_bit _,⟨A.ok_mono w1 (by omega),?_⟩,b2i_bit _,trivial⟩
          · simp only [KK.has,D.ev,q6,has,lo,hi];omega
          · show nn<nn+1+1;omega
        · cases hp
      · cases hp
    · rename_i e id lo' hi' k' hu hx
      obtain ⟨b1,b2,b3,b4,b5,b6⟩:=h.cell hx
      split at hp
      · rename_i r k y s hr hy hs
        split at hp
        · cases hp
          have h2:=h.cell hy
          have w1:=A.ok_mono h2.1.1 hnn
          exact ⟨⟨trivial,w1⟩,b2i_bit _,⟨A.ok_mono w1 (by omega),A.ok_mono b3.1 (by omega)⟩,b2i_bit _,trivial⟩
        · split at hp
          · cases hp
            have h2:=h.cell hy
            have w1:=A.ok_mono h2.1.1 hnn
            exact ⟨⟨A.ok_mono b3.1 hnn,A.ok_mono b2.1 hnn⟩,wr_has _ _,⟨trivial,A.ok_mono w1 (by omega)⟩,b2i_bit _,⟨A.ok_mono w1 (by omega),by show nn<nn+1+1;omega⟩,b2i_bit _,⟨A.ok_mono b2.1 (by omega),A.ok_mono w1 (by omega)⟩,wr_has _ _,trivial⟩
          · cases hp
      · cases hp
    · rename_i e z hu hx
      obtain ⟨b1,b2,b3⟩:=(show C.rel m Y.nv Y.al (.ll z) _ from h.cell hx)
      split at hp
      · rename_i k y hy hs
        cases hp
        have h2:=h.cell hy
        have w1:=A.ok_mono h2.1.1 hnn
        have q4:=b2.1.1
        refine ⟨A.ok_mono b1.1 hnn,?_,⟨trivial,A.ok_mono w1 (by omega)⟩,b2i_bit _,⟨A.ok_mono w1 (by omega),?_⟩,b2i_bit _,trivial⟩
        · simp only [KK.has,D.ev,has,lo,hi];omega
        · show nn<nn+1+1;omega
      · cases hp
    · cases hp
  | slice t x lo hi mx =>
    rw [ho] at hp
    simp only [plan] at hp
    split at hp
    · cases hp
    · split at hp
      · split at hp
        · repeat' split at hp
          all_goals (first | (cases hp;done) | (unfold okP at hp;cases hp;trivial))
        · split at hp
          · rename_i y s hy hs _
            cases hp
            have w1:y.ok nn:=by
              obtain ⟨bh1,bh2⟩:=bndA_ok h hy
              cases hi with
              | none=>cases bh2 rfl
              | some z =>
                obtain ⟨y',k,e1,e2,e3⟩:=bh1 _ rfl
                cases e1
                exact A.ok_mono e2.1 hnn
            exact ⟨⟨trivial,w1⟩,b2i_bit _,⟨A.ok_mono w1 (by omega),trivial⟩,b2i_bit _,trivial⟩
          · cases hp
      · repeat' split at hp
        all_goals (first | (cases hp;done) | (unfold okP at hp;cases hp;trivial))
      · rename_i e id hu hx
        split at hp
        · rename_i r l h' s hr hl hh hs
          split at hp
          · exact part_gen h hr hl hh (d:=.var nn) (fun z=>by show nn<nn+(z+1);omega) hp hnn
          · cases hp
        · cases hp
      · rename_i e id lo' hi' k hu hx
        obtain ⟨b1,b2,b3,b4,b5,b6⟩:=h.cell hx
        split at hp
        · rename_i r l h' s hr hl hh hs
          split at hp
          · exact part_gen h hr hl hh (d:=hi') (fun z=>A.ok_mono b3.1 (by omega)) hp hnn
          · split at hp
            · exact view_gen h hr hl hh b2.1 b3.1 hp hnn
            · cases hp
        · cases hp
      · cases hp
  | index t x i =>
    rw [ho] at hp
    simp only [plan] at hp
    split at hp
    · simp only [partC,okP] at hp
      repeat' split at hp
      all_goals (first | (cases hp;done) | (cases hp;trivial))
    · rename_i len e cs hu hx hi
      obtain ⟨vs,h1,hr⟩:=h.v_ hx
      split at hp
      · rename_i k y d r hy hdt hs hin
        split at hp
        · cases hp
        · cases hp
          have h2:=h.cell hy
          rw [intsOf_ok hin] at hr
          have w1:=A.ok_mono h2.1.1 hnn
          obtain ⟨g1,g2⟩:=selD_gen (T:=T) hr (i:=y) w1 hnn
          refine range_gen w1 fun e' he=>⟨(selD_gen (T:=T) hr (i:=y) (nn:=nn+2) (A.ok_mono w1 (by omega)) (by omega)).1,?_,trivial⟩
          rw [D.ev_congr (d:=selD r.1 y r.2) (n:=nn) g1 he];exact g2
      · cases hp
    · split at hp
      · cases hp;trivial
      · cases hp
    · rename_i s hu hx hidx
      split at hp
      · rename_i k y hy
        cases hp
        have h2:=h.cell hy
        have w1:=A.ok_mono h2.1.1 hnn
        have hl:∀ z∈bytesA s,∃ b:UInt8,z=.lit b.toNat:=fun z hz=>by
          obtain ⟨b,_,rfl⟩:=List.mem_map.1 hz
          exact ⟨b,rfl⟩
        refine range_gen w1 fun e' he=>⟨⟨A.ok_mono w1 (by omega),fun z hz=>by obtain ⟨b,rfl⟩:=hl z hz;trivial⟩,?_,trivial⟩
        simp only [KK.has,D.ev,List.getD_eq_getElem?_getD,List.getElem?_map]
        cases hq:(bytesA s)[(A.ev e' y).toNat]? with
        | none=>exact has_zero _
        | some z =>
          obtain ⟨b,rfl⟩:=hl z (List.mem_of_getElem? hq)
          simp only [Option.map_some,Option.getD_some,A.ev,has,lo,hi];have:=b.toNat_lt;omega
      · cases hp
    · cases hp
  | buildSlice t len ps =>
    refine nodefs ?_
    rw [ho] at hp
    simp only [plan] at hp
    split at hp
    · rename_i q he
      cases hp
      obtain ⟨_,_,_,_,_,_,_,_,rfl⟩:=empty_spec he
      rfl
    · repeat' split at hp
      all_goals (first | (cases hp;done) | (cases hp;rfl))
  | _ =>
    refine nodefs ?_
    rw [ho] at hp
    simp only [plan,okP,partC] at hp
    repeat' split at hp
    all_goals (first | (cases hp;done) | (cases hp;rfl))
theorem plan_post (hT:∀ (g:Nat) X,T[g]?=some X->X.okAt P w0) (h:Rep w0 m Y a w) (hp:plan P T Y nn nid o.op=.ok p) (hnn:Y.nv<=nn) {e:Nat->Int} (he:∀ i,i<nn->e i=m.env i) (ht:Told T e nn p.defs)
  (hr:∀ q∈p.reqs,match T[q.1]? with | some X=>X.pre (q.2.map (·.ev e)) | none=>False) (hz:∀ x∈p.nz,x.ev e≠0):GenOk T e (nn+p.defs.length) p.post:=by
 have nodefs:p.post=[]->GenOk T e (nn+p.defs.length) p.post:=fun e=>by rw [e];trivial
 cases ho:o.op with
 | call c =>
  rw [ho] at hp
  simp only [plan] at hp
  split at hp
  ·cases hp
  ·rename_i args hargs
   have hvr:=args_ok h _ _ hargs
   split at hp
   ·repeat' split at hp
    all_goals (first | (cases hp;done) | (unfold okP at hp;cases hp;trivial) | (cases hp;trivial))
   ·repeat' split at hp
    all_goals (first | (cases hp;done) | (cases hp;trivial))
   ·repeat' split at hp
    all_goals (first | (cases hp;done) | (cases hp;trivial))
   ·repeat' split at hp
    all_goals (first | (cases hp;done) | (cases hp;trivial))
   ·split at hp
    ·rename_i g hg
     cases hp
     exact cat_post h (by rw [ho];exact hg) hnn he ht (hz (.var (nn+(g.defs.length+1))) (by simp [catPl])) (hz (.var (nn+(g.defs.length+3))) (by simp [catPl]))
    ·cases hp
   ·cases hp
   ·cases hp
   ·split at hp
    ·rename_i f caps hx
     have hfx:=h.cell hx
     split at hp
     ·rename_i g X hfk
      obtain ⟨hg,hfn⟩:=findC_ok hfk
      split at hp
      ·cases hp
      split at hp
      ·cases hp
      ·rename_i d hdi
       obtain ⟨d1,d2⟩:=d
       split at hp
       ·cases hp
       ·rename_i q hqo
        obtain ⟨q1,q2,q3⟩:=q
        cases hp
        simp only at ht hr ⊢
        have hall:VRels m Y.nv Y.al (args++caps.map fun p=>V.one (.ptr p.1 p.2)) (c.args.toList.map a.eval++caps.map fun p=>Value.pointer (some (m.at p.1 p.2))):=by
         exact hvr.append (caps_rel hfx.1)
        have hti:=takeIns_ok (T:=T) _ _ _ _ _ hdi h hall
        have hins:=hti.2 e (fun i hi=>he i (by omega)) ht
        have hpre:X.pre (d2.map (·.ev e)):=by
         have:=hr (g,d2) (List.mem_singleton.2 rfl)
         simpa [hg] using this
        have hok:=hT g X hg w h.below _ _ hins hpre
        have hout:∃ us n0 w',outsRel n0 w' X.outs (X.sem (d2.map (·.ev e))) us:=by
         cases hext:X.ext with
         | true =>
          rw [hext] at hok
          simp only [if_true] at hok
          obtain ⟨us,_,h2⟩:=hok
          exact ⟨us,_,_,h2⟩
         | false =>
          rw [hext] at hok
          simp only [Bool.false_eq_true,if_false] at hok
          obtain ⟨_,_,_,⟨us,_,h2,_⟩,_⟩:=hok.2 []
          exact ⟨us,_,_,h2⟩
        obtain ⟨us,n0,w',hout⟩:=hout
        exact putK_gen (T:=T) hg hqo _ us (hti.1 hnn).2 hout e (fun i y hi=>by rw [Nat.zero_add,List.getD_eq_getElem?_getD,hi];rfl)
     ·cases hp
    ·cases hp
 | buildSlice t len ps =>
  refine nodefs ?_
  rw [ho] at hp
  simp only [plan] at hp
  split at hp
  ·rename_i q he
   cases hp
   obtain ⟨_,_,_,_,_,_,_,_,rfl⟩:=empty_spec he
   rfl
  ·repeat' split at hp
   all_goals (first | (cases hp;done) | (cases hp;rfl))
 | _ =>
  refine nodefs ?_
  rw [ho] at hp
  simp only [plan,okP,partC,planBin,binInt,mkP,loadRow,partP] at hp
  repeat' split at hp
  all_goals (first | (cases hp;done) | (cases hp;rfl) | (cases hp;rename_i hq;obtain ⟨_,_,_,_,_,_,_,_,_,rfl⟩:=rowNil_spec hq;rfl) | (cases hp;rename_i hq;obtain ⟨_,_,_,_,_,_,_,_,_,_,_,_,_,rfl⟩:=markP_spec hq;rfl))
end
end Go.Sx
